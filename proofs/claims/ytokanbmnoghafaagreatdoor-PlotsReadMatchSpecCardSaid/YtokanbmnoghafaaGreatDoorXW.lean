/- The walks: each function computes its plain function. -/
import Derived.Test.YtokanbmnoghafaaGreatDoorXWc
namespace Go.Proofs.YtokanbmnoghafaaGreatDoor
open Go.RowKit
set_option maxRecDepth 100000
set_option maxHeartbeats 1000000
theorem zEd (N : Nat) {w : Bs} (hT : Tab Tryz.prog w) (p0 : ByteArray) (r : (QN × Int × Int)) (H : Kk N p0 = some r) (hE : HF w w.W (LEn [emp, emp])) : Calls Tryz.prog 9 [(sv p0)].toArray w.W fun e W' => ∃ (w' : Bs) (u : (Option Addr × Nat) × (Option Addr × Nat)), w.Le w' ∧ e = .returned (.tuple #[(.agg #[(iv r.1.Unit), (.slice u.1.1 r.1.Tools.length u.1.2), (.slice u.2.1 r.1.Steps.length u.2.2)]), (iv r.2.1), (iv r.2.2)]) ∧ (SlF u.1.1 r.1.Tools.length u.1.2 ∧ SlF u.2.1 r.1.Steps.length u.2.2) ∧ HF w' W' (LEn [ow u.1.1 u.1.2 47 zQ r.1.Tools, ow u.2.1 u.2.2 80 zC r.1.Steps]) := by
 unfold Kk at H
 have leB := Bs.Le.refl w
 refine Tr.enter (n := 147) Tryz.func9 rfl rfl rfl hE ?_
 refine Tr.sr (Tr.alloc 1 (wn rfl) rfl ze_25 fun QB => ?_)
 refine Tr.asg rfl rfl (Tr.asg rfl rfl (Tr.nil (Tr.zA (Tr.sr (Tr.build (vs := []) (cs := [(iv 0), (.slice none 0 0), (.slice none 0 0)]) (wn rfl) rfl Qj (by kernel_rfl) ?_)))))
 refine Tr.alloc 2 (wn rfl) rfl ze_25 fun JS => ?_
 refine Tr.store 2 (cs := [(iv 0), (.slice none 0 0), (.slice none 0 0)]) [(iv 0), (.slice none 0 0), (.slice none 0 0)] (wn rfl) rfl rfl rfl rfl Kb rfl rfl rfl ?_
 refine Tr.nil (Tr.zA (Tr.seq (Tr.sr (Tr.mv rfl rfl (Tr.va rfl (fun _ _ h1 h2 => Vn zBw (h1.ev rfl)) ?_)))))
 refine Tr.va rfl (fun _ _ h1 h2 => VR (h1.ev rfl) (h1.ev rfl)) ?_
 refine Tr.nil (Tr.zA (Tr.cond rfl H (fun H => ?_) (fun H => ?_)))
 ·refine Tr.sr (Tr.va rfl (fun _ _ h1 h2 => zu (cs := [(iv 0), (.slice none 0 0), (.slice none 0 0)]) WY Kb (h1.ev rfl) (za.take (rdb h2 (vs := [(iv 0), (.slice none 0 0), (.slice none 0 0)]) (k := 2) rfl 0) 3) rfl) ?_)
  refine Tr.store 1 (cs := [(iv 0), (.slice none 0 0), (.slice none 0 0)]) [(iv 0), (.slice none 0 0), (.slice none 0 0)] (wn rfl) rfl rfl rfl rfl Kb rfl rfl rfl ?_
  refine Tr.asg rfl rfl (Tr.asg rfl rfl (Tr.nil (Tr.zA (Tr.ret (Tr.zM ?_)))))
  obtain rfl := Option.some.inj H
  refine Tr.JZ 3 47 zQ ?_
  refine Tr.JZ 4 80 zC ?_
  exact Tr.out (m := [(.agg #[(iv 0), (.slice none 0 0), (.slice none 0 0)]), (iv 0), (iv 2)]) [1] (Vx rfl rfl WY Kb (zJ rfl (zJ rfl zR))) (fun W hW => ⟨w, ((none, 0), (none, 0)), leB, rfl, ⟨Qr, Qr⟩, hW.pick (ks := [3, 4]) (by decide) (zO rfl (zO rfl QH))⟩)
 ·refine Tr.skip (Tr.zA (Tr.sr (Tr.mv rfl rfl ?_)))
  obtain ⟨y102, hy102, H⟩ := bnd H
  refine Tr.zAC [5, 6, 7] [emp, emp, emp] (U := (Option Addr × Nat) × (Option Addr × Nat) × (Option Addr × Nat)) (fun u => (.pointer (some ⟨u.2.2.2, 0, none⟩))) (fun u => SlF u.1.1 y102.lines.length u.1.2 ∧ SlF u.2.1.1 y102.ends.length u.2.1.2 ∧ True) (fun u => [ow u.1.1 u.1.2 9 JG y102.lines, ow u.2.1.1 u.2.1.2 4 VX y102.ends, bx u.2.2.2 #[(.slice u.1.1 y102.lines.length u.1.2), (.slice u.2.1.1 y102.ends.length u.2.1.2), (iv y102.at_), (.bool y102.bad)] 69]) rfl (zO rfl (zO rfl (zO rfl QH))) (fun _ => rfl) (wn rfl) rfl Tryz.call21 (zI rfl zT) (fun W hW hp hE => zEc N (hT.ext (hW.zCb hp)) p0 y102 hy102 hE) ?_
  intro u hu
  obtain ⟨⟨QK, QF⟩, ⟨Jd, Jb⟩, ⟨Ay102_2, KN⟩⟩ := u
  obtain ⟨gy102_0, gy102_1, gy102_2⟩ := hu
  have zCr : SlF QK y102.lines.length QF := gy102_0 --@phi
  have hgy102_1 : SlF Jd y102.ends.length Jb := gy102_1 --@phi
  have hgy102_2 : True := gy102_2 --@phi
  show Tr _ _ (uf _ 25 (.pointer (some ⟨KN, 0, none⟩))) (up (up (up _ 7 (bx KN #[(.slice QK y102.lines.length QF), (.slice Jd y102.ends.length Jb), (iv y102.at_), (.bool y102.bad)] 69)) 6 (ow Jd Jb 4 VX y102.ends)) 5 (ow QK QF 9 JG y102.lines)) _
  refine Tr.asg rfl rfl (Tr.nil (Tr.zA (Tr.seq (Tr.sr (Tr.mv rfl rfl (Tr.va rfl (fun _ _ h1 h2 => zg (h1.ev rfl)) ?_))))))
  refine Tr.va rfl (fun _ _ h1 h2 => zB zF6 (h1.ev rfl)) ?_
  refine Tr.va rfl (fun _ _ h1 h2 => zF ag_66 (h1.ev rfl) (rdb h2 (vs := [(.slice QK y102.lines.length QF), (.slice Jd y102.ends.length Jb), (iv y102.at_), (.bool y102.bad)]) (k := 7) rfl 0) rfl) ?_
  refine Tr.va rfl (fun _ _ h1 h2 => QG zFZ (h1.ev rfl)) ?_
  refine Tr.va rfl (fun _ _ h1 h2 => QY (h1.ev rfl) (h1.ev rfl)) ?_
  refine Tr.nil (Tr.zA (Tr.cond rfl H (fun H => ?_) (fun H => ?_)))
  ·refine Tr.sr (Tr.va rfl (fun _ _ h1 h2 => zu (cs := [(iv 0), (.slice none 0 0), (.slice none 0 0)]) WY Kb (h1.ev rfl) (za.take (rdb h2 (vs := [(iv 0), (.slice none 0 0), (.slice none 0 0)]) (k := 2) rfl 0) 3) rfl) ?_)
   refine Tr.store 1 (cs := [(iv 0), (.slice none 0 0), (.slice none 0 0)]) [(iv 0), (.slice none 0 0), (.slice none 0 0)] (wn rfl) rfl rfl rfl rfl Kb rfl rfl rfl ?_
   refine Tr.asg rfl rfl (Tr.asg rfl rfl (Tr.nil (Tr.zA (Tr.ret (Tr.zM ?_)))))
   obtain rfl := Option.some.inj H
   refine Tr.JZ 8 47 zQ ?_
   refine Tr.JZ 9 80 zC ?_
   exact Tr.out (m := [(.agg #[(iv 0), (.slice none 0 0), (.slice none 0 0)]), (iv 1), (iv 10)]) [1] (Vx rfl rfl WY Kb (zJ rfl (zJ rfl zR))) (fun W hW => ⟨w, ((none, 0), (none, 0)), leB, rfl, ⟨Qr, Qr⟩, hW.pick (ks := [8, 9]) (by decide) (zO rfl (zO rfl QH))⟩)
  ·refine Tr.skip (Tr.zA (Tr.sr (Tr.mv rfl rfl ?_)))
   obtain ⟨y104, hy104, H⟩ := bnd H
   refine Tr.zAC [10] [emp] (U := (Option Addr × Nat)) (fun u => (.tuple #[(sv y104.1), (sv y104.2.1), (.slice u.1 y104.2.2.1.length u.2), (.bool y104.2.2.2)])) (fun u => SlF u.1 y104.2.2.1.length u.2) (fun u => [ow u.1 u.2 3 QT y104.2.2.1]) rfl (zO rfl QH) (fun _ => rfl) (wn rfl) rfl Tryz.call22 (zI rfl zT) (fun W hW hp hE => Vk N (hT.ext (hW.zCb hp)) y102 QK QF (hW.slS (k := 5) rfl hp rfl) Jd Jb (hW.slS (k := 6) rfl hp rfl) KN (hW.boxS (k := 7) rfl hp rfl) (hW.boxC (k := 7) rfl) y104 hy104 hE) ?_
   intro u hu
   obtain ⟨zFH, zE7⟩ := u
   have gy104_0 := hu
   have hgy104_0 : SlF zFH y104.2.2.1.length zE7 := gy104_0 --@phi
   show Tr _ _ (uf _ 35 (.tuple #[(sv y104.1), (sv y104.2.1), (.slice zFH y104.2.2.1.length zE7), (.bool y104.2.2.2)])) (up _ 10 (ow zFH zE7 3 QT y104.2.2.1)) _
   refine Tr.mv rfl rfl (Tr.va rfl (fun _ _ h1 h2 => QC (h1.ev rfl) rfl) ?_)
   refine Tr.va rfl (fun _ _ h1 h2 => QC (h1.ev rfl) rfl) ?_
   refine Tr.va rfl (fun _ _ h1 h2 => QC (h1.ev rfl) rfl) ?_
   refine Tr.va rfl (fun _ _ h1 h2 => QC (h1.ev rfl) rfl) ?_
   refine Tr.asg rfl rfl (Tr.asg rfl rfl (Tr.asg rfl rfl (Tr.asg rfl rfl (Tr.nil (Tr.zA (Tr.seq (Tr.sr (Tr.mv rfl rfl (Tr.va rfl (fun _ _ h1 h2 => Qb (h1.ev rfl)) ?_)))))))))
   refine Tr.mv rfl rfl (Tr.Jl 3 [(2, (.pointer (some ⟨QB, 0, none⟩))), (5, (.pointer (some ⟨JS, 0, none⟩))), (6, (.pointer (some ⟨KN, 0, none⟩))), (9, (.slice zFH y104.2.2.1.length zE7)), (45, (.bool ((!y104.2.2.2) || (!sEq y104.1 (⟨#[117, 110, 105, 116]⟩)))))] [(1, bx QB #[(iv 0), (.slice none 0 0), (.slice none 0 0)] 25), (2, bx JS #[(iv 0), (.slice none 0 0), (.slice none 0 0)] 25), (5, ow QK QF 9 JG y102.lines), (6, ow Jd Jb 4 VX y102.ends), (7, bx KN #[(.slice QK y102.lines.length QF), (.slice Jd y102.ends.length Jb), (iv y102.at_), (.bool y102.bad)] 69), (10, ow zFH zE7 3 QT y104.2.2.1)] ?_ ?_)
   ·cases hg329 : (!y104.2.2.2)
    ·refine Tr.val (wg rfl rfl rfl) rfl (fun _ _ h1 h2 => run_move (h1.ev rfl)) ?_
     refine Tr.val (wg rfl rfl rfl) rfl (fun _ _ h1 h2 => zBW (h1.ev rfl) (h1.ev rfl)) ?_
     refine Tr.va rfl (fun _ _ h1 h2 => zV (h1.ev rfl) (h1.ev rfl)) ?_
     exact Tr.nil (Tr.QI (.cons rfl (.cons rfl (.cons rfl (.cons rfl (.cons rfl .nil))))) (.cons rfl (.cons rfl (.cons rfl (.cons rfl (.cons rfl (.cons rfl .nil)))))))
    ·refine Tr.pass rfl rfl rfl rfl rfl (by decide) ?_
     refine Tr.pass rfl rfl rfl rfl rfl (by decide) ?_
     refine Tr.va rfl (fun _ _ h1 h2 => zU (h1.ev rfl) (h1.ev rfl)) ?_
     exact Tr.nil (Tr.QI (.cons rfl (.cons rfl (.cons rfl (.cons rfl (.cons rfl .nil))))) (.cons rfl (.cons rfl (.cons rfl (.cons rfl (.cons rfl (.cons rfl .nil)))))))
   ·show Tr _ _ (LF [(2, (.pointer (some ⟨QB, 0, none⟩))), (5, (.pointer (some ⟨JS, 0, none⟩))), (6, (.pointer (some ⟨KN, 0, none⟩))), (9, (.slice zFH y104.2.2.1.length zE7)), (45, (.bool ((!y104.2.2.2) || (!sEq y104.1 (⟨#[117, 110, 105, 116]⟩)))))]) (LE [(1, bx QB #[(iv 0), (.slice none 0 0), (.slice none 0 0)] 25), (2, bx JS #[(iv 0), (.slice none 0 0), (.slice none 0 0)] 25), (5, ow QK QF 9 JG y102.lines), (6, ow Jd Jb 4 VX y102.ends), (7, bx KN #[(.slice QK y102.lines.length QF), (.slice Jd y102.ends.length Jb), (iv y102.at_), (.bool y102.bad)] 69), (10, ow zFH zE7 3 QT y104.2.2.1)]) _
    refine Tr.nil (Tr.zA (Tr.cond rfl H (fun H => ?_) (fun H => ?_)))
    ·refine Tr.sr (Tr.va rfl (fun _ _ h1 h2 => zu (cs := [(iv 0), (.slice none 0 0), (.slice none 0 0)]) WY Kb (h1.ev rfl) (za.take (rdb h2 (vs := [(iv 0), (.slice none 0 0), (.slice none 0 0)]) (k := 2) rfl 0) 3) rfl) ?_)
     refine Tr.store 1 (cs := [(iv 0), (.slice none 0 0), (.slice none 0 0)]) [(iv 0), (.slice none 0 0), (.slice none 0 0)] (wn rfl) rfl rfl rfl rfl Kb rfl rfl rfl ?_
     refine Tr.asg rfl rfl (Tr.asg rfl rfl (Tr.nil (Tr.zA (Tr.ret (Tr.zM ?_)))))
     obtain rfl := Option.some.inj H
     refine Tr.JZ 11 47 zQ ?_
     refine Tr.JZ 12 80 zC ?_
     exact Tr.out (m := [(.agg #[(iv 0), (.slice none 0 0), (.slice none 0 0)]), (iv 1), (iv 10)]) [1] (Vx rfl rfl WY Kb (zJ rfl (zJ rfl zR))) (fun W hW => ⟨w, ((none, 0), (none, 0)), leB, rfl, ⟨Qr, Qr⟩, hW.pick (ks := [11, 12]) (by decide) (zO rfl (zO rfl QH))⟩)
    ·refine Tr.skip (Tr.zA (Tr.sr (Tr.mv rfl rfl ?_)))
     obtain ⟨VK, hx106, H⟩ := bnd H
     obtain ⟨hx1060, hx1061, hx1062⟩ := zw hx106
     refine Tr.va rfl (fun _ _ h1 h2 => zN zAb (h1.ev rfl) hgy104_0 (h1.ev rfl) hx1060 hx1061) ?_
     refine Tr.va rfl (fun _ _ h1 h2 => zF Qu (h1.ev rfl) (rdo Vy (k := 10) h2 rfl hx1062) rfl) ?_
     refine Tr.build (vs := [(0, (iv VK))]) (cs := [(iv VK), (.slice none 0 0), (.slice none 0 0)]) (wn rfl) rfl (QE rfl Qj) (by kernel_rfl) ?_
     refine Tr.alloc 13 (wn rfl) rfl ze_25 fun zFA => ?_
     refine Tr.store 13 (cs := [(iv VK), (.slice none 0 0), (.slice none 0 0)]) [(iv VK), (.slice none 0 0), (.slice none 0 0)] (wn rfl) rfl rfl rfl rfl Kb rfl rfl rfl ?_
     refine Tr.nil (Tr.zA (Tr.sr (Tr.mv rfl rfl (Tr.va rfl (fun _ _ h1 h2 => zg (h1.ev rfl)) ?_))))
     refine Tr.va rfl (fun _ _ h1 h2 => zB zBI (h1.ev rfl)) ?_
     refine Tr.va rfl (fun _ _ h1 h2 => zF Qu (h1.ev rfl) (rdb h2 (vs := [(.slice QK y102.lines.length QF), (.slice Jd y102.ends.length Jb), (iv y102.at_), (.bool y102.bad)]) (k := 7) rfl 2) rfl) ?_
     refine Tr.va rfl (fun _ _ h1 h2 => QS (h1.ev rfl) (h1.ev rfl)) ?_
     refine Tr.va rfl (fun _ _ h1 h2 => zg (h1.ev rfl)) ?_
     refine Tr.va rfl (fun _ _ h1 h2 => zB zBI (h1.ev rfl)) ?_
     refine Tr.store 7 (cs := [(iv (w64 (y102.at_ + 1)))]) [(.slice QK y102.lines.length QF), (.slice Jd y102.ends.length Jb), (iv (w64 (y102.at_ + 1))), (.bool y102.bad)] (wn rfl) rfl rfl rfl rfl zJa rfl rfl rfl ?_
     refine Tr.nil (Tr.zA ?_)
     have leJ217 := Bs.Le.refl w
     refine Tr.zFq (σ := Int × (List zt) × (Option Addr) × Nat) (fun w s => KL N y102 VK s.1 s.2.1 = some r ∧ SlF s.2.2.1 s.2.1.length s.2.2.2) (fun s => [(2, (.pointer (some ⟨QB, 0, none⟩))), (5, (.pointer (some ⟨JS, 0, none⟩))), (6, (.pointer (some ⟨KN, 0, none⟩))), (11, (.pointer (some ⟨zFA, 0, none⟩)))]) (fun s => [(1, bx QB #[(iv 0), (.slice none 0 0), (.slice none 0 0)] 25), (2, bx JS #[(iv 0), (.slice none 0 0), (.slice none 0 0)] 25), (5, ow QK QF 9 JG y102.lines), (6, ow Jd Jb 4 VX y102.ends), (7, bx KN #[(.slice QK y102.lines.length QF), (.slice Jd y102.ends.length Jb), (iv s.1), (.bool y102.bad)] 69), (13, bx zFA #[(iv VK), (.slice s.2.2.1 s.2.1.length s.2.2.2), (.slice none 0 0)] 25), (40, ow s.2.2.1 s.2.2.2 47 zQ s.2.1)]) ?_ ?_
     ·refine Tr.block (Tr.JZ 83 47 zQ ?_)
      refine Tr.loop (σ := Int × (List zt) × (Option Addr) × Nat) (fun m w s => Qg N y102 VK m s.1 s.2.1 = some r ∧ SlF s.2.2.1 s.2.1.length s.2.2.2) (fun s => [(2, (.pointer (some ⟨QB, 0, none⟩))), (5, (.pointer (some ⟨JS, 0, none⟩))), (6, (.pointer (some ⟨KN, 0, none⟩))), (11, (.pointer (some ⟨zFA, 0, none⟩)))]) (fun s => [(1, bx QB #[(iv 0), (.slice none 0 0), (.slice none 0 0)] 25), (2, bx JS #[(iv 0), (.slice none 0 0), (.slice none 0 0)] 25), (5, ow QK QF 9 JG y102.lines), (6, ow Jd Jb 4 VX y102.ends), (7, bx KN #[(.slice QK y102.lines.length QF), (.slice Jd y102.ends.length Jb), (iv s.1), (.bool y102.bad)] 69), (13, bx zFA #[(iv VK), (.slice s.2.2.1 s.2.1.length s.2.2.2), (.slice none 0 0)] 25), (83, ow s.2.2.1 s.2.2.2 47 zQ s.2.1)]) N ((w64 (y102.at_ + 1)), ([] : List zt), none, 0) ⟨H, Qr⟩ (.cons rfl (.cons rfl (.cons rfl (.cons rfl .nil)))) (.cons rfl (.cons rfl (.cons rfl (.cons rfl (.cons rfl (.cons rfl (.cons rfl .nil))))))) (fun _ _ h => WM (h.1)) ?_
      intro w leL8 mL8 s hs
      obtain ⟨zCT, zCY, zDC, zC8⟩ := s
      obtain ⟨H, hl296⟩ := hs
      replace H : Qg N y102 VK (mL8 + 1) zCT zCY = some r := H
      replace hT := hT.ext leL8.ext
      replace leJ217 := leJ217.trans leL8
      replace hl296 : SlF zDC zCY.length zC8 := hl296
      rw [Qg.eq_2] at H
      show Tr _ _ (LF [(2, (.pointer (some ⟨QB, 0, none⟩))), (5, (.pointer (some ⟨JS, 0, none⟩))), (6, (.pointer (some ⟨KN, 0, none⟩))), (11, (.pointer (some ⟨zFA, 0, none⟩)))]) (LE [(1, bx QB #[(iv 0), (.slice none 0 0), (.slice none 0 0)] 25), (2, bx JS #[(iv 0), (.slice none 0 0), (.slice none 0 0)] 25), (5, ow QK QF 9 JG y102.lines), (6, ow Jd Jb 4 VX y102.ends), (7, bx KN #[(.slice QK y102.lines.length QF), (.slice Jd y102.ends.length Jb), (iv zCT), (.bool y102.bad)] 69), (13, bx zFA #[(iv VK), (.slice zDC zCY.length zC8), (.slice none 0 0)] 25), (83, ow zDC zC8 47 zQ zCY)]) _
      refine Tr.seq (Tr.seq (Tr.draw (by kernel_rfl) (by kernel_rfl) ?_))
      refine Tq.mv rfl rfl (Tq.va rfl (fun _ _ h1 h2 => zg (h1.ev rfl)) ?_)
      refine Tq.va rfl (fun _ _ h1 h2 => zB zBI (h1.ev rfl)) ?_
      refine Tq.va rfl (fun _ _ h1 h2 => zF Qu (h1.ev rfl) (rdb h2 (vs := [(.slice QK y102.lines.length QF), (.slice Jd y102.ends.length Jb), (iv zCT), (.bool y102.bad)]) (k := 7) rfl 2) rfl) ?_
      refine Tq.mv rfl rfl (Tq.va rfl (fun _ _ h1 h2 => zg (h1.ev rfl)) ?_)
      refine Tq.va rfl (fun _ _ h1 h2 => zB zF6 (h1.ev rfl)) ?_
      refine Tq.va rfl (fun _ _ h1 h2 => zF ag_66 (h1.ev rfl) (rdb h2 (vs := [(.slice QK y102.lines.length QF), (.slice Jd y102.ends.length Jb), (iv zCT), (.bool y102.bad)]) (k := 7) rfl 0) rfl) ?_
      refine Tq.va rfl (fun _ _ h1 h2 => QG zFZ (h1.ev rfl)) ?_
      refine Tq.va rfl (fun _ _ h1 h2 => QV (h1.ev rfl) (h1.ev rfl)) ?_
      refine Tq.nil (Tr.zA (Tr.cond rfl H (fun H => ?_) (fun H => ?_)))
      ·refine Tr.skip (Tr.zA (Tr.block (Tr.sr (Tr.mv rfl rfl ?_))))
       obtain ⟨VB, hy297, H⟩ := bnd H
       refine Tr.zAC [84] [emp] (U := (Option Addr × Nat)) (fun u => (.tuple #[(sv VB.1), (sv VB.2.1), (.slice u.1 VB.2.2.1.length u.2), (.bool VB.2.2.2)])) (fun u => SlF u.1 VB.2.2.1.length u.2) (fun u => [ow u.1 u.2 3 QT VB.2.2.1]) rfl (zO rfl QH) (fun _ => rfl) (wn rfl) rfl Tryz.call22 (zI rfl zT) (fun W hW hp hE => Vk N (hT.ext (hW.zCb hp)) (zh.mk y102.lines y102.ends zCT y102.bad) QK QF (hW.slS (k := 5) rfl hp rfl) Jd Jb (hW.slS (k := 6) rfl hp rfl) KN (hW.boxS (k := 7) rfl hp rfl) (hW.boxC (k := 7) rfl) VB hy297 hE) ?_
       intro u hu
       obtain ⟨Kv, WW⟩ := u
       have gy297_0 := hu
       have zHC : SlF Kv VB.2.2.1.length WW := gy297_0 --@phi
       show Tr _ _ (uf _ 70 (.tuple #[(sv VB.1), (sv VB.2.1), (.slice Kv VB.2.2.1.length WW), (.bool VB.2.2.2)])) (up _ 84 (ow Kv WW 3 QT VB.2.2.1)) _
       refine Tr.mv rfl rfl (Tr.va rfl (fun _ _ h1 h2 => QC (h1.ev rfl) rfl) ?_)
       refine Tr.va rfl (fun _ _ h1 h2 => QC (h1.ev rfl) rfl) ?_
       refine Tr.va rfl (fun _ _ h1 h2 => QC (h1.ev rfl) rfl) ?_
       refine Tr.va rfl (fun _ _ h1 h2 => QC (h1.ev rfl) rfl) ?_
       refine Tr.asg rfl rfl (Tr.asg rfl rfl (Tr.asg rfl rfl (Tr.asg rfl rfl (Tr.nil (Tr.zA (Tr.seq (Tr.sr (Tr.mv rfl rfl (Tr.va rfl (fun _ _ h1 h2 => Qb (h1.ev rfl)) ?_)))))))))
       refine Tr.mv rfl rfl (Tr.Jl 3 [(2, (.pointer (some ⟨QB, 0, none⟩))), (5, (.pointer (some ⟨JS, 0, none⟩))), (6, (.pointer (some ⟨KN, 0, none⟩))), (11, (.pointer (some ⟨zFA, 0, none⟩))), (13, (sv VB.2.1)), (14, (.slice Kv VB.2.2.1.length WW)), (80, (.bool ((!VB.2.2.2) || (!sEq VB.1 (⟨#[116, 111, 111, 108]⟩)))))] [(1, bx QB #[(iv 0), (.slice none 0 0), (.slice none 0 0)] 25), (2, bx JS #[(iv 0), (.slice none 0 0), (.slice none 0 0)] 25), (5, ow QK QF 9 JG y102.lines), (6, ow Jd Jb 4 VX y102.ends), (7, bx KN #[(.slice QK y102.lines.length QF), (.slice Jd y102.ends.length Jb), (iv zCT), (.bool y102.bad)] 69), (13, bx zFA #[(iv VK), (.slice zDC zCY.length zC8), (.slice none 0 0)] 25), (83, ow zDC zC8 47 zQ zCY), (84, ow Kv WW 3 QT VB.2.2.1)] ?_ ?_)
       ·cases hg329 : (!VB.2.2.2)
        ·refine Tr.val (wg rfl rfl rfl) rfl (fun _ _ h1 h2 => run_move (h1.ev rfl)) ?_
         refine Tr.val (wg rfl rfl rfl) rfl (fun _ _ h1 h2 => zBW (h1.ev rfl) (h1.ev rfl)) ?_
         refine Tr.va rfl (fun _ _ h1 h2 => zV (h1.ev rfl) (h1.ev rfl)) ?_
         exact Tr.nil (Tr.QI (.cons rfl (.cons rfl (.cons rfl (.cons rfl (.cons rfl (.cons rfl (.cons rfl .nil))))))) (.cons rfl (.cons rfl (.cons rfl (.cons rfl (.cons rfl (.cons rfl (.cons rfl (.cons rfl .nil)))))))))
        ·refine Tr.pass rfl rfl rfl rfl rfl (by decide) ?_
         refine Tr.pass rfl rfl rfl rfl rfl (by decide) ?_
         refine Tr.va rfl (fun _ _ h1 h2 => zU (h1.ev rfl) (h1.ev rfl)) ?_
         exact Tr.nil (Tr.QI (.cons rfl (.cons rfl (.cons rfl (.cons rfl (.cons rfl (.cons rfl (.cons rfl .nil))))))) (.cons rfl (.cons rfl (.cons rfl (.cons rfl (.cons rfl (.cons rfl (.cons rfl (.cons rfl .nil)))))))))
       ·show Tr _ _ (LF [(2, (.pointer (some ⟨QB, 0, none⟩))), (5, (.pointer (some ⟨JS, 0, none⟩))), (6, (.pointer (some ⟨KN, 0, none⟩))), (11, (.pointer (some ⟨zFA, 0, none⟩))), (13, (sv VB.2.1)), (14, (.slice Kv VB.2.2.1.length WW)), (80, (.bool ((!VB.2.2.2) || (!sEq VB.1 (⟨#[116, 111, 111, 108]⟩)))))]) (LE [(1, bx QB #[(iv 0), (.slice none 0 0), (.slice none 0 0)] 25), (2, bx JS #[(iv 0), (.slice none 0 0), (.slice none 0 0)] 25), (5, ow QK QF 9 JG y102.lines), (6, ow Jd Jb 4 VX y102.ends), (7, bx KN #[(.slice QK y102.lines.length QF), (.slice Jd y102.ends.length Jb), (iv zCT), (.bool y102.bad)] 69), (13, bx zFA #[(iv VK), (.slice zDC zCY.length zC8), (.slice none 0 0)] 25), (83, ow zDC zC8 47 zQ zCY), (84, ow Kv WW 3 QT VB.2.2.1)]) _
        refine Tr.nil (Tr.zA (Tr.cond rfl H (fun H => ?_) (fun H => ?_)))
        ·refine Tr.exit (Tr.zx (Tr.exitOver rfl (Tr.zx (Tr.Qd ?_))))
         refine Tr.ren 83 40 rfl rfl rfl ?_
         exact Tr.zb leJ217 (zCT, zCY, zDC, zC8) ⟨H, hl296⟩ (.cons rfl (.cons rfl (.cons rfl (.cons rfl .nil)))) (.cons rfl (.cons rfl (.cons rfl (.cons rfl (.cons rfl (.cons rfl (.cons rfl .nil)))))))
        ·refine Tr.skip (Tr.zA (Tr.sr (Tr.mv rfl rfl (Tr.build (vs := [(0, (sv VB.2.1))]) (cs := [(sv VB.2.1), (.slice none 0 0)]) (wn rfl) rfl (QE rfl Qj) (by kernel_rfl) ?_))))
         refine Tr.alloc 85 (wn rfl) rfl ze_47 fun b299 => ?_
         refine Tr.store 85 (cs := [(sv VB.2.1), (.slice none 0 0)]) [(sv VB.2.1), (.slice none 0 0)] (wn rfl) rfl rfl rfl rfl zDo rfl rfl rfl ?_
         refine Tr.nil (Tr.zA (Tr.seq (Tr.sr (Tr.asg rfl rfl (Tr.nil (Tr.zA (Tr.block (Tr.JZ 92 49 KW ?_))))))))
         refine Tr.loop (σ := (List VS) × Int × (Option Addr) × Nat) (fun m w s => Jn zCT zCY (Qg N y102 VK mL8) VB m s.1 s.2.1 = some r ∧ SlF s.2.2.1 s.1.length s.2.2.2) (fun s => [(2, (.pointer (some ⟨QB, 0, none⟩))), (5, (.pointer (some ⟨JS, 0, none⟩))), (6, (.pointer (some ⟨KN, 0, none⟩))), (11, (.pointer (some ⟨zFA, 0, none⟩))), (14, (.slice Kv VB.2.2.1.length WW)), (16, (.pointer (some ⟨b299, 0, none⟩))), (17, (iv s.2.1))]) (fun s => [(1, bx QB #[(iv 0), (.slice none 0 0), (.slice none 0 0)] 25), (2, bx JS #[(iv 0), (.slice none 0 0), (.slice none 0 0)] 25), (5, ow QK QF 9 JG y102.lines), (6, ow Jd Jb 4 VX y102.ends), (7, bx KN #[(.slice QK y102.lines.length QF), (.slice Jd y102.ends.length Jb), (iv zCT), (.bool y102.bad)] 69), (13, bx zFA #[(iv VK), (.slice zDC zCY.length zC8), (.slice none 0 0)] 25), (83, ow zDC zC8 47 zQ zCY), (84, ow Kv WW 3 QT VB.2.2.1), (85, bx b299 #[(sv VB.2.1), (.slice s.2.2.1 s.1.length s.2.2.2)] 47), (92, ow s.2.2.1 s.2.2.2 49 KW s.1)]) N (([] : List VS), 0, none, 0) ⟨H, Qr⟩ (.cons rfl (.cons rfl (.cons rfl (.cons rfl (.cons rfl (.cons rfl (.cons rfl .nil))))))) (.cons rfl (.cons rfl (.cons rfl (.cons rfl (.cons rfl (.cons rfl (.cons rfl (.cons rfl (.cons rfl (.cons rfl .nil)))))))))) (fun _ _ h => WM (h.1)) ?_
         intro w leL9 mL9 s hs
         obtain ⟨zEw, zAu, zD6, zDx⟩ := s
         obtain ⟨H, hl318⟩ := hs
         replace H : Jn zCT zCY (Qg N y102 VK mL8) VB (mL9 + 1) zEw zAu = some r := H
         replace hT := hT.ext leL9.ext
         replace leL8 := leL8.trans leL9
         rw [Jn.eq_2] at H
         show Tr _ _ (LF [(2, (.pointer (some ⟨QB, 0, none⟩))), (5, (.pointer (some ⟨JS, 0, none⟩))), (6, (.pointer (some ⟨KN, 0, none⟩))), (11, (.pointer (some ⟨zFA, 0, none⟩))), (14, (.slice Kv VB.2.2.1.length WW)), (16, (.pointer (some ⟨b299, 0, none⟩))), (17, (iv zAu))]) (LE [(1, bx QB #[(iv 0), (.slice none 0 0), (.slice none 0 0)] 25), (2, bx JS #[(iv 0), (.slice none 0 0), (.slice none 0 0)] 25), (5, ow QK QF 9 JG y102.lines), (6, ow Jd Jb 4 VX y102.ends), (7, bx KN #[(.slice QK y102.lines.length QF), (.slice Jd y102.ends.length Jb), (iv zCT), (.bool y102.bad)] 69), (13, bx zFA #[(iv VK), (.slice zDC zCY.length zC8), (.slice none 0 0)] 25), (83, ow zDC zC8 47 zQ zCY), (84, ow Kv WW 3 QT VB.2.2.1), (85, bx b299 #[(sv VB.2.1), (.slice zD6 zEw.length zDx)] 47), (92, ow zD6 zDx 49 KW zEw)]) _
         refine Tr.seq (Tr.sr (Tr.mv rfl rfl (Tr.mv rfl rfl (Tr.va rfl (fun _ _ h1 h2 => QG zEH (h1.ev rfl)) ?_))))
         refine Tr.va rfl (fun _ _ h1 h2 => QV (h1.ev rfl) (h1.ev rfl)) ?_
         refine Tr.nil (Tr.zA (Tr.cond rfl H (fun H => ?_) (fun H => ?_)))
         ·refine Tr.skip (Tr.zA (Tr.seq (Tr.block ?_)))
          obtain ⟨zCS, hx321, H⟩ := bnd H
          obtain ⟨hx3210, hx3211, hx3212⟩ := zw hx321
          obtain ⟨zCR, hx322, H⟩ := bnd H
          obtain ⟨hx3220, hx3221, hx3222⟩ := zw hx322
          obtain ⟨zGQ, hx323, H⟩ := bnd H
          obtain ⟨hx3230, hx3231, hx3232⟩ := zw hx323
          obtain ⟨zGP, hx324, H⟩ := bnd H
          obtain ⟨hx3240, hx3241, hx3242⟩ := zw hx324
          refine Tr.drawF 23 [(22, .makeFunc (.func 0) #[] #[.tmp 110])] [(22, ⟨111, 93, (.func (.func 0) #[] #[(.agg #[(iv zCS), (iv zCR), (iv zGQ), (iv zGP)])]), fun b => .slice (some ⟨b, 0, none⟩) 1 1, fun b => bx b #[(iv zCS), (iv zCR), (iv zGQ), (iv zGP)] 49⟩)] [(2, (.pointer (some ⟨QB, 0, none⟩))), (5, (.pointer (some ⟨JS, 0, none⟩))), (6, (.pointer (some ⟨KN, 0, none⟩))), (11, (.pointer (some ⟨zFA, 0, none⟩))), (14, (.slice Kv VB.2.2.1.length WW)), (16, (.pointer (some ⟨b299, 0, none⟩))), (17, (iv zAu)), (83, (iv zAu)), (84, (.slice Kv VB.2.2.1.length WW)), (85, (iv (VB.2.2.1.length : Int))), (86, (.bool (decide (zAu < (VB.2.2.1.length : Int))))), (89, (.pointer (some ⟨b299, 1, none⟩))), (90, (.slice zD6 zEw.length zDx)), (91, (.slice Kv VB.2.2.1.length WW)), (92, (iv zAu)), (93, (.pointer (some ⟨adB Kv, adO Kv + (zAu).toNat * 1, none⟩))), (94, (iv zCS)), (95, (.slice Kv VB.2.2.1.length WW)), (96, (iv zAu)), (97, (iv (w64 (zAu + 1)))), (98, (.pointer (some ⟨adB Kv, adO Kv + ((w64 (zAu + 1))).toNat * 1, none⟩))), (99, (iv zCR)), (100, (.slice Kv VB.2.2.1.length WW)), (101, (iv zAu)), (102, (iv (w64 (zAu + 2)))), (103, (.pointer (some ⟨adB Kv, adO Kv + ((w64 (zAu + 2))).toNat * 1, none⟩))), (104, (iv zGQ)), (105, (.slice Kv VB.2.2.1.length WW)), (106, (iv zAu)), (107, (iv (w64 (zAu + 3)))), (108, (.pointer (some ⟨adB Kv, adO Kv + ((w64 (zAu + 3))).toNat * 1, none⟩))), (109, (iv zGP)), (110, (.agg #[(iv zCS), (iv zCR), (iv zGQ), (iv zGP)])), (111, (.func (.func 0) #[] #[(.agg #[(iv zCS), (iv zCR), (iv zGQ), (iv zGP)])]))] (by kernel_rfl) (by kernel_rfl) (by kernel_rfl) (by kernel_rfl) (by kernel_rfl) (by kernel_rfl) (by kernel_rfl) (Vr (fr_lit (vs := [(0, (.agg #[(iv zCS), (iv zCR), (iv zGQ), (iv zGP)]))]) rfl rfl rfl (by kernel_rfl)) Wp) (Vr rfl Wp) (Vr rfl Wp) ?_ ?_
          ·refine Tq.va rfl (fun _ _ h1 h2 => zB zB9 (h1.ev rfl)) ?_
           refine Tq.va rfl (fun _ _ h1 h2 => zF zHZ (h1.ev rfl) (rdb h2 (vs := [(sv VB.2.1), (.slice zD6 zEw.length zDx)]) (k := 85) rfl 1) rfl) ?_
           refine Tq.mv rfl rfl (Tq.mv rfl rfl (Tq.va rfl (fun _ _ h1 h2 => zN zAb (h1.ev rfl) zHC (h1.ev rfl) hx3210 hx3211) ?_))
           refine Tq.va rfl (fun _ _ h1 h2 => zF Qu (h1.ev rfl) (rdo Vy (k := 84) h2 rfl hx3212) rfl) ?_
           refine Tq.mv rfl rfl (Tq.mv rfl rfl (Tq.va rfl (fun _ _ h1 h2 => QS (h1.ev rfl) (h1.ev rfl)) ?_))
           refine Tq.va rfl (fun _ _ h1 h2 => zN zAb (h1.ev rfl) zHC (h1.ev rfl) hx3220 hx3221) ?_
           refine Tq.va rfl (fun _ _ h1 h2 => zF Qu (h1.ev rfl) (rdo Vy (k := 84) h2 rfl hx3222) rfl) ?_
           refine Tq.mv rfl rfl (Tq.mv rfl rfl (Tq.va rfl (fun _ _ h1 h2 => QS (h1.ev rfl) (h1.ev rfl)) ?_))
           refine Tq.va rfl (fun _ _ h1 h2 => zN zAb (h1.ev rfl) zHC (h1.ev rfl) hx3230 hx3231) ?_
           refine Tq.va rfl (fun _ _ h1 h2 => zF Qu (h1.ev rfl) (rdo Vy (k := 84) h2 rfl hx3232) rfl) ?_
           refine Tq.mv rfl rfl (Tq.mv rfl rfl (Tq.va rfl (fun _ _ h1 h2 => QS (h1.ev rfl) (h1.ev rfl)) ?_))
           refine Tq.va rfl (fun _ _ h1 h2 => zN zAb (h1.ev rfl) zHC (h1.ev rfl) hx3240 hx3241) ?_
           refine Tq.va rfl (fun _ _ h1 h2 => zF Qu (h1.ev rfl) (rdo Vy (k := 84) h2 rfl hx3242) rfl) ?_
           refine Tq.build (vs := [(0, (iv zCS)), (1, (iv zCR)), (2, (iv zGQ)), (3, (iv zGP))]) (cs := [(iv zCS), (iv zCR), (iv zGQ), (iv zGP)]) (wn rfl) rfl (QE rfl (QE rfl (QE rfl (QE rfl Qj)))) (by kernel_rfl) ?_
           refine Tq.zFg (vs := [(.agg #[(iv zCS), (iv zCR), (iv zGQ), (iv zGP)])]) (wn rfl) rfl (zI rfl zT) ?_
           exact Tq.fin (.cons rfl (.cons rfl (.cons rfl (.cons rfl (.cons rfl (.cons rfl (.cons rfl (.cons rfl (.cons rfl (.cons rfl (.cons rfl (.cons rfl (.cons rfl (.cons rfl (.cons rfl (.cons rfl (.cons rfl (.cons rfl (.cons rfl (.cons rfl (.cons rfl (.cons rfl (.cons rfl (.cons rfl (.cons rfl (.cons rfl (.cons rfl (.cons rfl (.cons rfl (.cons rfl (.cons rfl (.cons rfl (.cons rfl (.cons rfl .nil))))))))))))))))))))))))))))))))))
          ·intro bs320
           refine Tr.sel (lf := [(2, (.pointer (some ⟨QB, 0, none⟩))), (5, (.pointer (some ⟨JS, 0, none⟩))), (6, (.pointer (some ⟨KN, 0, none⟩))), (11, (.pointer (some ⟨zFA, 0, none⟩))), (14, (.slice Kv VB.2.2.1.length WW)), (16, (.pointer (some ⟨b299, 0, none⟩))), (17, (iv zAu)), (90, (.slice zD6 zEw.length zDx)), (111, (.slice (some ⟨(bs320 22), 0, none⟩) 1 1))]) (le := [(1, bx QB #[(iv 0), (.slice none 0 0), (.slice none 0 0)] 25), (2, bx JS #[(iv 0), (.slice none 0 0), (.slice none 0 0)] 25), (5, ow QK QF 9 JG y102.lines), (6, ow Jd Jb 4 VX y102.ends), (7, bx KN #[(.slice QK y102.lines.length QF), (.slice Jd y102.ends.length Jb), (iv zCT), (.bool y102.bad)] 69), (13, bx zFA #[(iv VK), (.slice zDC zCY.length zC8), (.slice none 0 0)] 25), (83, ow zDC zC8 47 zQ zCY), (84, ow Kv WW 3 QT VB.2.2.1), (85, bx b299 #[(sv VB.2.1), (.slice zD6 zEw.length zDx)] 47), (92, ow zD6 zDx 49 KW zEw), (93, bx (bs320 22) #[(iv zCS), (iv zCR), (iv zGQ), (iv zGP)] 49)]) (.cons rfl (.cons rfl (.cons rfl (.cons rfl (.cons rfl (.cons rfl (.cons rfl (.cons rfl (.cons rfl .nil))))))))) (.cons rfl (.cons rfl (.cons rfl (.cons rfl (.cons rfl (.cons rfl (.cons rfl (.cons rfl (.cons rfl (.cons rfl (.cons rfl .nil))))))))))) ?_
           obtain ⟨l325, hl325, H⟩ := bnd H
           refine Tr.append 92 (t := KW) (l := zEw) (l2 := [(VS.mk zCS zCR zGQ zGP)]) (wn rfl) rfl rfl rfl rfl (fun W hW => ⟨[[(iv zCS), (iv zCR), (iv zGQ), (iv zGP)]], (.cons ⟨(), trivial, rfl⟩ .nil), rdb hW (vs := [(iv zCS), (iv zCR), (iv zGQ), (iv zGP)]) (k := 93) rfl 0⟩) zFI zGH zl_49 (by decide) by_49 rfl hl325 fun Al325 cl325 hAl325 => ?_
           refine Tr.va rfl (fun _ _ h1 h2 => zB zB9 (h1.ev rfl)) ?_
           refine Tr.store 85 (cs := [(.slice Al325 l325.length cl325)]) [(sv VB.2.1), (.slice Al325 l325.length cl325)] (wn rfl) rfl rfl rfl rfl sz_45 rfl rfl rfl ?_
           refine Tr.nil (Tr.zi (Tr.zA (Tr.region (Tr.mv rfl rfl (Tr.va rfl (fun _ _ h1 h2 => QS (h1.ev rfl) (h1.ev rfl)) ?_)))))
           exact Tr.asg rfl rfl (Tr.nil (Tr.zb leL9 (l325, (w64 (zAu + 4)), Al325, cl325) ⟨H, hAl325⟩ (.cons rfl (.cons rfl (.cons rfl (.cons rfl (.cons rfl (.cons rfl (.cons rfl .nil))))))) (.cons rfl (.cons rfl (.cons rfl (.cons rfl (.cons rfl (.cons rfl (.cons rfl (.cons rfl (.cons rfl (.cons rfl .nil))))))))))))
         ·refine Tr.exit (Tr.zx (Tr.zx (Tr.Qd (Tr.zA (Tr.sr (Tr.va rfl (fun _ _ h1 h2 => zB Vl (h1.ev rfl)) ?_))))))
          refine Tr.va rfl (fun _ _ h1 h2 => zF zBp (h1.ev rfl) (rdb h2 (vs := [(iv VK), (.slice zDC zCY.length zC8), (.slice none 0 0)]) (k := 13) rfl 1) rfl) ?_
          refine Tr.va rfl (fun _ _ h1 h2 => zu (cs := [(sv VB.2.1), (.slice zD6 zEw.length zDx)]) ag_47 zDo (h1.ev rfl) (za.take (rdb h2 (vs := [(sv VB.2.1), (.slice zD6 zEw.length zDx)]) (k := 85) rfl 0) 2) rfl) ?_
          refine Tr.freeze 92 rfl fun w le327 hz326 => ?_
          replace hT := hT.ext le327.ext
          replace leL8 := leL8.trans le327
          refine Tr.buildSlice 94 (e := 47) (vs := [(0, (.agg #[(sv VB.2.1), (.slice zD6 zEw.length zDx)]))]) (cs := [(sv VB.2.1), (.slice zD6 zEw.length zDx)]) (wn rfl) rfl (QE rfl Qj) (by kernel_rfl) fun b328 => ?_
          obtain ⟨l329, hl329, H⟩ := bnd H
          refine Tr.append 83 (t := zQ) (l := zCY) (l2 := [(zt.mk VB.2.1 zEw)]) (wn rfl) rfl rfl rfl rfl (fun W hW => ⟨[[(sv VB.2.1), (.slice zD6 zEw.length zDx)]], (.cons ⟨(zD6, zDx), hz326, rfl⟩ .nil), rdb hW (vs := [(sv VB.2.1), (.slice zD6 zEw.length zDx)]) (k := 94) rfl 0⟩) zFJ zDo zl_47 (by decide) by_47 rfl hl329 fun Al329 cl329 hAl329 => ?_
          refine Tr.va rfl (fun _ _ h1 h2 => zB Vl (h1.ev rfl)) ?_
          refine Tr.store 13 (cs := [(.slice Al329 l329.length cl329)]) [(iv VK), (.slice Al329 l329.length cl329), (.slice none 0 0)] (wn rfl) rfl rfl rfl rfl sz_22 rfl rfl rfl ?_
          refine Tr.nil (Tr.zA (Tr.region (Tr.mv rfl rfl (Tr.va rfl (fun _ _ h1 h2 => zg (h1.ev rfl)) ?_))))
          refine Tr.va rfl (fun _ _ h1 h2 => zB zBI (h1.ev rfl)) ?_
          refine Tr.va rfl (fun _ _ h1 h2 => zF Qu (h1.ev rfl) (rdb h2 (vs := [(.slice QK y102.lines.length QF), (.slice Jd y102.ends.length Jb), (iv zCT), (.bool y102.bad)]) (k := 7) rfl 2) rfl) ?_
          refine Tr.va rfl (fun _ _ h1 h2 => QS (h1.ev rfl) (h1.ev rfl)) ?_
          refine Tr.va rfl (fun _ _ h1 h2 => zg (h1.ev rfl)) ?_
          refine Tr.va rfl (fun _ _ h1 h2 => zB zBI (h1.ev rfl)) ?_
          refine Tr.store 7 (cs := [(iv (w64 (zCT + 1)))]) [(.slice QK y102.lines.length QF), (.slice Jd y102.ends.length Jb), (iv (w64 (zCT + 1))), (.bool y102.bad)] (wn rfl) rfl rfl rfl rfl zJa rfl rfl rfl ?_
          exact Tr.nil (Tr.zi (Tr.zb leL8 ((w64 (zCT + 1)), l329, Al329, cl329) ⟨H, hAl329⟩ (.cons rfl (.cons rfl (.cons rfl (.cons rfl .nil)))) (.cons rfl (.cons rfl (.cons rfl (.cons rfl (.cons rfl (.cons rfl (.cons rfl .nil)))))))))
      ·refine Tr.exit (Tr.zx (Tr.zx (Tr.Qd (Tr.ren 83 40 rfl rfl rfl ?_))))
       exact Tr.zb leJ217 (zCT, zCY, zDC, zC8) ⟨H, hl296⟩ (.cons rfl (.cons rfl (.cons rfl (.cons rfl .nil)))) (.cons rfl (.cons rfl (.cons rfl (.cons rfl (.cons rfl (.cons rfl (.cons rfl .nil)))))))
     ·intro w s hlJ218 hs
      obtain ⟨x215, zGD, zEe, zEV⟩ := s
      obtain ⟨H, hl216⟩ := hs
      replace H : KL N y102 VK x215 zGD = some r := H
      replace hT := hT.ext hlJ218.ext
      replace leB := leB.trans hlJ218
      replace hl216 : SlF zEe zGD.length zEV := hl216
      unfold KL at H
      show Tr _ _ (LF [(2, (.pointer (some ⟨QB, 0, none⟩))), (5, (.pointer (some ⟨JS, 0, none⟩))), (6, (.pointer (some ⟨KN, 0, none⟩))), (11, (.pointer (some ⟨zFA, 0, none⟩)))]) (LE [(1, bx QB #[(iv 0), (.slice none 0 0), (.slice none 0 0)] 25), (2, bx JS #[(iv 0), (.slice none 0 0), (.slice none 0 0)] 25), (5, ow QK QF 9 JG y102.lines), (6, ow Jd Jb 4 VX y102.ends), (7, bx KN #[(.slice QK y102.lines.length QF), (.slice Jd y102.ends.length Jb), (iv x215), (.bool y102.bad)] 69), (13, bx zFA #[(iv VK), (.slice zEe zGD.length zEV), (.slice none 0 0)] 25), (40, ow zEe zEV 47 zQ zGD)]) _
      refine Tr.sr (Tr.mv rfl rfl ?_)
      obtain ⟨zBC, hy219, H⟩ := bnd H
      refine Tr.zEX [7, 52] [bx KN #[(.slice QK y102.lines.length QF), (.slice Jd y102.ends.length Jb), (iv x215), (.bool y102.bad)] 69, emp] (U := (Option Addr × Nat)) (fun u => (.slice u.1 zBC.1.length u.2)) (fun O W u => SlF u.1 zBC.1.length u.2) (fun u => [bx KN #[(.slice QK y102.lines.length QF), (.slice Jd y102.ends.length Jb), (iv zBC.2.1), (.bool zBC.2.2)] 69, ow u.1 u.2 80 zC zBC.1]) rfl (zO rfl (zO rfl QH)) (fun _ => rfl) (wn rfl) rfl Tryz.call23 (zI rfl (zI rfl zT)) (fun W hW hp hE => zAE N (hT.ext (hW.zCb hp)) (zh.mk y102.lines y102.ends x215 y102.bad) QK QF (hW.slS (k := 5) rfl hp rfl) Jd Jb (hW.slS (k := 6) rfl hp rfl) KN false zBC hy219 hE) ?_
      intro w u le220 hu
      obtain ⟨zA4, zA2⟩ := u
      have gy219_0 := hu
      replace hT := hT.ext le220.ext
      replace leB := leB.trans le220
      have hgy219_0 : SlF zA4 zBC.1.length zA2 := gy219_0 --@phi
      show Tr _ _ (uf _ 128 (.slice zA4 zBC.1.length zA2)) (up (up _ 52 (ow zA4 zA2 80 zC zBC.1)) 7 (bx KN #[(.slice QK y102.lines.length QF), (.slice Jd y102.ends.length Jb), (iv zBC.2.1), (.bool zBC.2.2)] 69)) _
      refine Tr.va rfl (fun _ _ h1 h2 => zB zCg (h1.ev rfl)) ?_
      refine Tr.store 13 (cs := [(.slice zA4 zBC.1.length zA2)]) [(iv VK), (.slice zEe zGD.length zEV), (.slice zA4 zBC.1.length zA2)] (wn rfl) rfl rfl rfl rfl sz_23 rfl rfl rfl ?_
      refine Tr.nil (Tr.zA (Tr.seq (Tr.sr (Tr.mv rfl rfl (Tr.va rfl (fun _ _ h1 h2 => zg (h1.ev rfl)) ?_)))))
      refine Tr.va rfl (fun _ _ h1 h2 => zB zIt (h1.ev rfl)) ?_
      refine Tr.va rfl (fun _ _ h1 h2 => zF zFt (h1.ev rfl) (rdb h2 (vs := [(.slice QK y102.lines.length QF), (.slice Jd y102.ends.length Jb), (iv zBC.2.1), (.bool zBC.2.2)]) (k := 7) rfl 3) rfl) ?_
      refine Tr.nil (Tr.zA (Tr.cond rfl H (fun H => ?_) (fun H => ?_)))
      ·refine Tr.seq (Tr.zGK 7 [(6, fun x => x = QB)] [] (by kernel_rfl) (by kernel_rfl) fun sz221 hlosz221 hEsz221 => ?_)
       refine Dr.quiet 0 [(134, (.agg #[(iv 0), (.slice none 0 0), (.slice none 0 0)]))] (by kernel_rfl) rfl rfl (by kernel_rfl) ?_ rfl rfl ?_
       ·refine Tq.va rfl (fun _ _ h1 h2 => zu (cs := [(iv 0), (.slice none 0 0), (.slice none 0 0)]) WY Kb (h1.ev rfl) (za.take (rdb h2 (vs := [(iv 0), (.slice none 0 0), (.slice none 0 0)]) (k := 2) rfl 0) 3) rfl) ?_
        exact Tq.fin (.cons rfl .nil)
       refine Dr.JR 1 (by kernel_rfl) rfl (wn rfl) rfl (by kernel_rfl) (fun _ _ h1 => run_move (h1.ev rfl)) rfl ?_
       refine Dr.JR 2 (by kernel_rfl) rfl (wn rfl) rfl (by kernel_rfl) (fun _ _ h1 => zg (h1.ev rfl)) rfl ?_
       refine Dr.JR 3 (by kernel_rfl) rfl (wn rfl) rfl (by kernel_rfl) (fun _ _ h1 => zB zBI (h1.ev rfl)) rfl ?_
       refine Dr.zAN 4 [(138, (iv zBC.2.1))] [6] false (by kernel_rfl) rfl rfl (by kernel_rfl) (fun W W' h2 hsW hk => HF.zB3 (le := [(7, bx KN #[(.slice QK y102.lines.length QF), (.slice Jd y102.ends.length Jb), (iv zBC.2.1), (.bool zBC.2.2)] 69)]) (ks := [(1, fun x => x = QB)]) (s0 := sz221) false h2 hk (fun h => absurd h (by decide)) (.cons rfl .nil) (fun b hb => hb.elim (fun ⟨p, hp, hf, hb⟩ => by simp only [List.mem_cons, List.not_mem_nil, or_false] at hp; rcases hp with rfl; exact .inl ⟨_, List.mem_cons_self, hb⟩) (fun hb => absurd hb.1 (by decide))) (List.forall_mem_cons.2 ⟨fun b hb => hb, (fun _ h => nomatch h)⟩) rfl) ?_ rfl rfl ?_
       ·refine Tq.va rfl (fun _ _ h1 h2 => zF Qu (h1.ev rfl) (rdb h2 (vs := [(.slice QK y102.lines.length QF), (.slice Jd y102.ends.length Jb), (iv zBC.2.1), (.bool zBC.2.2)]) (k := 7) rfl 2) rfl) ?_
        exact Tq.fin (.cons rfl .nil)
       refine Dr.JR 5 (by kernel_rfl) rfl (wn rfl) rfl (by kernel_rfl) (fun _ _ h1 => QS (h1.ev rfl) (h1.ev rfl)) rfl ?_
       refine Dr.one 6 (by kernel_rfl) ?_
       refine St.store 6 1 (cs := [(iv 0), (.slice none 0 0), (.slice none 0 0)]) [(iv 0), (.slice none 0 0), (.slice none 0 0)] rfl (wn rfl) (.inl ⟨_, List.mem_cons_self, rfl, rfl⟩) rfl rfl rfl rfl Kb rfl rfl rfl ?_
       refine Dr.tail (by kernel_rfl) ?_
       refine Tr.asg rfl rfl (Tr.asg rfl rfl (Tr.nil (Tr.zA (Tr.ret (Tr.zM ?_)))))
       obtain rfl := Option.some.inj H
       refine Tr.JZ 53 47 zQ ?_
       refine Tr.JZ 54 80 zC ?_
       exact Tr.out (m := [(.agg #[(iv 0), (.slice none 0 0), (.slice none 0 0)]), (iv (w64 (zBC.2.1 + 1))), (iv 10)]) [1] (Vx rfl rfl WY Kb (zJ rfl (zJ rfl zR))) (fun W hW => ⟨w, ((none, 0), (none, 0)), leB, rfl, ⟨Qr, Qr⟩, hW.pick (ks := [53, 54]) (by decide) (zO rfl (zO rfl QH))⟩)
      ·refine Tr.skip (Tr.zA (Tr.seq (Tr.sr (Tr.va rfl (fun _ _ h1 h2 => zu (cs := [(iv VK), (.slice zEe zGD.length zEV), (.slice zA4 zBC.1.length zA2)]) WY Kb (h1.ev rfl) (za.take (rdb h2 (vs := [(iv VK), (.slice zEe zGD.length zEV), (.slice zA4 zBC.1.length zA2)]) (k := 13) rfl 0) 3) rfl) ?_))))
       obtain ⟨y222, hy222, H⟩ := bnd H
       refine Tr.Qa (r := (iv y222)) (wn rfl) rfl Tryz.call24 (zI rfl zT) (fun W hW => zC3 N (QN.mk VK zGD zBC.1) zEe zEV (hW.zBy (k := 40) rfl) zA4 zA2 (hW.zBy (k := 52) rfl) y222 hy222 (HF.start _)) ?_
       refine Tr.asg rfl rfl (Tr.nil (Tr.zA (Tr.sr (Tr.mv rfl rfl (Tr.va rfl (fun _ _ h1 h2 => KV (h1.ev rfl) (h1.ev rfl)) ?_)))))
       refine Tr.nil (Tr.zA (Tr.cond rfl H (fun H => ?_) (fun H => ?_)))
       ·refine Tr.sr (Tr.va rfl (fun _ _ h1 h2 => zu (cs := [(iv 0), (.slice none 0 0), (.slice none 0 0)]) WY Kb (h1.ev rfl) (za.take (rdb h2 (vs := [(iv 0), (.slice none 0 0), (.slice none 0 0)]) (k := 2) rfl 0) 3) rfl) ?_)
        refine Tr.mv rfl rfl (Tr.store 1 (cs := [(iv 0), (.slice none 0 0), (.slice none 0 0)]) [(iv 0), (.slice none 0 0), (.slice none 0 0)] (wn rfl) rfl rfl rfl rfl Kb rfl rfl rfl ?_)
        refine Tr.asg rfl rfl (Tr.asg rfl rfl (Tr.nil (Tr.zA (Tr.ret (Tr.zM ?_)))))
        obtain rfl := Option.some.inj H
        refine Tr.JZ 55 47 zQ ?_
        refine Tr.JZ 56 80 zC ?_
        exact Tr.out (m := [(.agg #[(iv 0), (.slice none 0 0), (.slice none 0 0)]), (iv 0), (iv y222)]) [1] (Vx rfl rfl WY Kb (zJ rfl (zJ rfl zR))) (fun W hW => ⟨w, ((none, 0), (none, 0)), leB, rfl, ⟨Qr, Qr⟩, hW.pick (ks := [55, 56]) (by decide) (zO rfl (zO rfl QH))⟩)
       ·refine Tr.skip (Tr.zA (Tr.sr (Tr.va rfl (fun _ _ h1 h2 => zu (cs := [(iv VK), (.slice zEe zGD.length zEV), (.slice zA4 zBC.1.length zA2)]) WY Kb (h1.ev rfl) (za.take (rdb h2 (vs := [(iv VK), (.slice zEe zGD.length zEV), (.slice zA4 zBC.1.length zA2)]) (k := 13) rfl 0) 3) rfl) ?_)))
        refine Tr.store 1 (cs := [(iv VK), (.slice zEe zGD.length zEV), (.slice zA4 zBC.1.length zA2)]) [(iv VK), (.slice zEe zGD.length zEV), (.slice zA4 zBC.1.length zA2)] (wn rfl) rfl rfl rfl rfl Kb rfl rfl rfl ?_
        refine Tr.asg rfl rfl (Tr.asg rfl rfl (Tr.nil (Tr.zA (Tr.ret ?_))))
        obtain rfl := Option.some.inj H
        exact Tr.out (m := [(.agg #[(iv VK), (.slice zEe zGD.length zEV), (.slice zA4 zBC.1.length zA2)]), (iv 0), (iv 0)]) [1] (Vx rfl rfl WY Kb (zJ rfl (zJ rfl zR))) (fun W hW => ⟨w, ((zEe, zEV), (zA4, zA2)), leB, rfl, ⟨hl216, hgy219_0⟩, hW.pick (ks := [40, 52]) (by decide) (zO rfl (zO rfl QH))⟩)

theorem zCx (N : Nat) {w : Bs} (p0 : (List zf)) (zG : Option Addr) (zH : Nat) (ze : Sl w.R w.W QM zG zH p0) (p1 : (List zf)) (zX : Option Addr) (zY : Nat) (Qv : Sl w.R w.W QM zX zY p1) (r : Bool) (H : Kj N p0 p1 = some r) (hE : HF w w.W E0) : Calls Tryz.prog 38 [(.slice zG p0.length zH), (.slice zX p1.length zY)].toArray w.W fun e W' => e = .returned (.bool r) ∧ HF w W' E0 := by
 unfold Kj at H
 have leB := Bs.Le.refl w
 refine Tr.enter (n := 26) Tryz.func38 rfl rfl rfl hE ?_
 refine Tr.sr (Tr.asg rfl rfl (Tr.nil (Tr.zA (Tr.seq (Tr.sr (Tr.mv rfl rfl (Tr.va rfl (fun _ _ h1 h2 => QG zCM (h1.ev rfl)) ?_)))))))
 refine Tr.mv rfl rfl (Tr.va rfl (fun _ _ h1 h2 => QG zCM (h1.ev rfl)) ?_)
 refine Tr.va rfl (fun _ _ h1 h2 => KV (h1.ev rfl) (h1.ev rfl)) ?_
 refine Tr.nil (Tr.zA (Tr.cond rfl H (fun H => ?_) (fun H => ?_)))
 ·refine Tr.sr (Tr.asg rfl rfl (Tr.nil (Tr.zA (Tr.ret (Tr.zM ?_)))))
  obtain rfl := Option.some.inj H
  exact Tr.out (m := [(.bool false)]) [] (zJ rfl zR) (fun W hW => ⟨rfl, hW.low leB⟩)
 ·refine Tr.skip (Tr.zA (Tr.seq (Tr.sr (Tr.asg rfl rfl (Tr.nil (Tr.zA (Tr.block (Tr.loop (σ := Int) (fun m w s => Qw p0 p1 m s = some r) (fun s => [(0, (.slice zG p0.length zH)), (1, (.slice zX p1.length zY)), (5, (iv s))]) (fun s => []) N 0 H (.cons rfl (.cons rfl (.cons rfl .nil))) .nil (fun _ _ h => WM (h)) ?_))))))))
  intro w Qs mL1 x107 hs
  have H := hs
  replace H : Qw p0 p1 (mL1 + 1) x107 = some r := H
  replace ze := ze.leR Qs
  replace Qv := Qv.leR Qs
  replace leB := leB.trans Qs
  rw [Qw.eq_2] at H
  show Tr _ _ (LF [(0, (.slice zG p0.length zH)), (1, (.slice zX p1.length zY)), (5, (iv x107))]) (LE []) _
  refine Tr.seq (Tr.sr (Tr.mv rfl rfl (Tr.mv rfl rfl (Tr.va rfl (fun _ _ h1 h2 => QG zCM (h1.ev rfl)) ?_))))
  refine Tr.va rfl (fun _ _ h1 h2 => QV (h1.ev rfl) (h1.ev rfl)) ?_
  refine Tr.nil (Tr.zA (Tr.cond rfl H (fun H => ?_) (fun H => ?_)))
  ·refine Tr.skip (Tr.zA (Tr.seq (Tr.block (Tr.seq (Tr.draw (by kernel_rfl) (by kernel_rfl) ?_)))))
   refine Tq.mv rfl rfl (Tq.mv rfl rfl ?_)
   obtain ⟨Wm, zHA, H⟩ := bnd H
   obtain ⟨zEz, zEy, zEx⟩ := zw zHA
   refine Tq.va rfl (fun _ _ h1 h2 => zN zHN (h1.ev rfl) ze.form (h1.ev rfl) zEz zEy) ?_
   refine Tq.va rfl (fun _ _ h1 h2 => zu (cs := [(iv Wm.X), (iv Wm.Y)]) zBo Wx (h1.ev rfl) (za.take (rdF zBJ ze zEx h2) 2) rfl) ?_
   refine Tq.mv rfl rfl (Tq.mv rfl rfl ?_)
   obtain ⟨JF, zJ4, H⟩ := bnd H
   obtain ⟨zGf, zGe, zGd⟩ := zw zJ4
   refine Tq.va rfl (fun _ _ h1 h2 => zN zHN (h1.ev rfl) Qv.form (h1.ev rfl) zGf zGe) ?_
   refine Tq.va rfl (fun _ _ h1 h2 => zu (cs := [(iv JF.X), (iv JF.Y)]) zBo Wx (h1.ev rfl) (za.take (rdF zBJ Qv zGd h2) 2) rfl) ?_
   refine Tq.va rfl (fun _ _ h1 h2 => zGa Wm JF (h1.ev rfl) (h1.ev rfl)) ?_
   refine Tq.nil (Tr.zA (Tr.cond rfl H (fun H => ?_) (fun H => ?_)))
   ·refine Tr.sr (Tr.asg rfl rfl (Tr.nil (Tr.zA (Tr.ret (Tr.zW (Tr.zM (Tr.zM (Tr.zW (Tr.zM ?_)))))))))
    obtain rfl := Option.some.inj H
    exact Tr.out (m := [(.bool false)]) [] (zJ rfl zR) (fun W hW => ⟨rfl, hW.low leB⟩)
   ·refine Tr.skip (Tr.zi (Tr.zA (Tr.region (Tr.mv rfl rfl (Tr.va rfl (fun _ _ h1 h2 => QS (h1.ev rfl) (h1.ev rfl)) ?_)))))
    exact Tr.asg rfl rfl (Tr.nil (Tr.zb Qs (w64 (x107 + 1)) H (.cons rfl (.cons rfl (.cons rfl .nil))) .nil))
  ·refine Tr.exit (Tr.zx (Tr.zx (Tr.Qd (Tr.zA (Tr.sr (Tr.asg rfl rfl (Tr.nil (Tr.zA (Tr.ret ?_)))))))))
   obtain rfl := Option.some.inj H
   exact Tr.out (m := [(.bool true)]) [] (zJ rfl zR) (fun W hW => ⟨rfl, hW.low leB⟩)

theorem zCf (N : Nat) (rec : (List zD) → (List zD) → Option Bool) (hrec : ∀ {w : Bs} (p0 : (List zD)) (zG : Option Addr) (zH : Nat) (ze : Sl w.R w.W zC zG zH p0) (p1 : (List zD)) (zX : Option Addr) (zY : Nat) (Qv : Sl w.R w.W zC zX zY p1) (r : Bool) (H : rec p0 p1 = some r) (hE : HF w w.W E0), Calls Tryz.prog 19 [(.slice zG p0.length zH), (.slice zX p1.length zY)].toArray w.W fun e W' => e = .returned (.bool r) ∧ HF w W' E0) {w : Bs} (p0 : (List zD)) (zG : Option Addr) (zH : Nat) (ze : Sl w.R w.W zC zG zH p0) (p1 : (List zD)) (zX : Option Addr) (zY : Nat) (Qv : Sl w.R w.W zC zX zY p1) (r : Bool) (H : KZ N rec p0 p1 = some r) (hE : HF w w.W E0) : Calls Tryz.prog 19 [(.slice zG p0.length zH), (.slice zX p1.length zY)].toArray w.W fun e W' => e = .returned (.bool r) ∧ HF w W' E0 := by
 unfold KZ at H
 have leB := Bs.Le.refl w
 refine Tr.enter (n := 76) Tryz.func19 rfl rfl rfl hE ?_
 refine Tr.sr (Tr.asg rfl rfl (Tr.nil (Tr.zA (Tr.seq (Tr.sr (Tr.mv rfl rfl (Tr.va rfl (fun _ _ h1 h2 => QG zBx (h1.ev rfl)) ?_)))))))
 refine Tr.mv rfl rfl (Tr.va rfl (fun _ _ h1 h2 => QG zBx (h1.ev rfl)) ?_)
 refine Tr.va rfl (fun _ _ h1 h2 => KV (h1.ev rfl) (h1.ev rfl)) ?_
 refine Tr.nil (Tr.zA (Tr.cond rfl H (fun H => ?_) (fun H => ?_)))
 ·refine Tr.sr (Tr.asg rfl rfl (Tr.nil (Tr.zA (Tr.ret (Tr.zM ?_)))))
  obtain rfl := Option.some.inj H
  exact Tr.out (m := [(.bool false)]) [] (zJ rfl zR) (fun W hW => ⟨rfl, hW.low leB⟩)
 ·refine Tr.skip (Tr.zA (Tr.seq (Tr.sr (Tr.asg rfl rfl (Tr.nil (Tr.zA (Tr.block (Tr.loop (σ := Int) (fun m w s => JA N p0 p1 rec m s = some r) (fun s => [(0, (.slice zG p0.length zH)), (1, (.slice zX p1.length zY)), (5, (iv s))]) (fun s => []) N 0 H (.cons rfl (.cons rfl (.cons rfl .nil))) .nil (fun _ _ h => WM (h)) ?_))))))))
  intro w Qs mL1 VG hs
  have H := hs
  replace H : JA N p0 p1 rec (mL1 + 1) VG = some r := H
  replace ze := ze.leR Qs
  replace Qv := Qv.leR Qs
  replace leB := leB.trans Qs
  rw [JA.eq_2] at H
  show Tr _ _ (LF [(0, (.slice zG p0.length zH)), (1, (.slice zX p1.length zY)), (5, (iv VG))]) (LE []) _
  refine Tr.seq (Tr.sr (Tr.mv rfl rfl (Tr.mv rfl rfl (Tr.va rfl (fun _ _ h1 h2 => QG zBx (h1.ev rfl)) ?_))))
  refine Tr.va rfl (fun _ _ h1 h2 => QV (h1.ev rfl) (h1.ev rfl)) ?_
  refine Tr.nil (Tr.zA (Tr.cond rfl H (fun H => ?_) (fun H => ?_)))
  ·refine Tr.skip (Tr.zA (Tr.seq (Tr.block (Tr.seq (Tr.zGK 11 [] [10] (by kernel_rfl) (by kernel_rfl) fun sz132 hlosz132 hEsz132 => ?_)))))
   refine Dr.quiet 0 [(19, (.slice zG p0.length zH))] (by kernel_rfl) rfl rfl (by kernel_rfl) ?_ rfl rfl ?_
   ·exact Tq.mv rfl rfl (Tq.fin (.cons rfl .nil))
   refine Dr.quiet 1 [(20, (iv VG))] (by kernel_rfl) rfl rfl (by kernel_rfl) ?_ rfl rfl ?_
   ·exact Tq.mv rfl rfl (Tq.fin (.cons rfl .nil))
   obtain ⟨zm, hx133, H⟩ := bnd H
   obtain ⟨hx1330, hx1331, hx1332⟩ := zw hx133
   obtain ⟨u134, hRu134, hoku134, hcu134⟩ := (ze).el hx1332
   obtain ⟨⟨VA, Kq⟩, ⟨Kz, Ko⟩⟩ := u134
   obtain ⟨zH9, zH8⟩ := Jc.1 hoku134
   replace zH9 : Sl w.R w.W QM VA Kq zm.Points := zH9
   replace zH8 : Sl w.R w.W zC Kz Ko zm.Steps := zH8
   refine Dr.quiet 2 [(21, (.pointer (some ⟨adB zG, adO zG + (VG).toNat * 8, none⟩)))] (by kernel_rfl) rfl rfl (by kernel_rfl) ?_ rfl rfl ?_
   ·refine Tq.va rfl (fun _ _ h1 h2 => zN zDt (h1.ev rfl) ze.form (h1.ev rfl) hx1330 hx1331) ?_
    exact Tq.fin (.cons rfl .nil)
   refine Dr.quiet 3 [(22, (.agg #[(iv zm.Kind), (sv zm.Name), (iv zm.At.X), (iv zm.At.Y), (.slice VA zm.Points.length Kq), (iv zm.NX), (iv zm.NY), (.slice Kz zm.Steps.length Ko)]))] (by kernel_rfl) rfl rfl (by kernel_rfl) ?_ rfl rfl ?_
   ·refine Tq.va rfl (fun _ _ h1 h2 => zu (cs := [(iv zm.Kind), (sv zm.Name), (iv zm.At.X), (iv zm.At.Y), (.slice VA zm.Points.length Kq), (iv zm.NX), (iv zm.NY), (.slice Kz zm.Steps.length Ko)]) zDA Wo (h1.ev rfl) (za.take (rdR hRu134 hcu134 h2) 8) rfl) ?_
    exact Tq.fin (.cons rfl .nil)
   refine Dr.JR 4 (by kernel_rfl) rfl (wn rfl) rfl (by kernel_rfl) (fun _ _ h1 => run_move (h1.ev rfl)) rfl ?_
   refine Dr.JR 5 (by kernel_rfl) rfl (wn rfl) rfl (by kernel_rfl) (fun _ _ h1 => run_move (h1.ev rfl)) rfl ?_
   obtain ⟨zq, hx135, H⟩ := bnd H
   obtain ⟨hx1350, hx1351, hx1352⟩ := zw hx135
   obtain ⟨u136, hRu136, hoku136, hcu136⟩ := (Qv).el hx1352
   obtain ⟨⟨Ky, Kn⟩, ⟨Kw, Km⟩⟩ := u136
   obtain ⟨zH7, zH6⟩ := Jc.1 hoku136
   replace zH7 : Sl w.R w.W QM Ky Kn zq.Points := zH7
   replace zH6 : Sl w.R w.W zC Kw Km zq.Steps := zH6
   refine Dr.JR 6 (by kernel_rfl) rfl (wn rfl) rfl (by kernel_rfl) (fun _ _ h1 => zN zDt (h1.ev rfl) Qv.form (h1.ev rfl) hx1350 hx1351) rfl ?_
   refine Dr.zAN 7 [(26, (.agg #[(iv zq.Kind), (sv zq.Name), (iv zq.At.X), (iv zq.At.Y), (.slice Ky zq.Points.length Kn), (iv zq.NX), (iv zq.NY), (.slice Kw zq.Steps.length Km)]))] [] true (by kernel_rfl) rfl rfl (by kernel_rfl) (fun W W' h2 hsW hk => HF.zB3 (le := []) (ks := []) (s0 := sz132) true h2 hk (fun _ => hlosz132) .nil (fun b hb => hb.elim (fun ⟨_, hp, _⟩ => nomatch hp) (fun hb => .inr ⟨rfl, hb.2, (fun _ h => nomatch h)⟩)) (fun _ h => nomatch h) rfl) ?_ rfl rfl ?_
   ·refine Tq.va rfl (fun _ _ h1 h2 => zu (cs := [(iv zq.Kind), (sv zq.Name), (iv zq.At.X), (iv zq.At.Y), (.slice Ky zq.Points.length Kn), (iv zq.NX), (iv zq.NY), (.slice Kw zq.Steps.length Km)]) zDA Wo (h1.ev rfl) (za.take (rdR hRu136 hcu136 h2) 8) rfl) ?_
    exact Tq.fin (.cons rfl .nil)
   refine Dr.cut (U := Nat × Nat) [8, 9] 1 (fun u => sz132 ≤ u.1 ∧ sz132 ≤ u.2) (fun u => [(0, (.slice zG p0.length zH)), (1, (.slice zX p1.length zY)), (5, (iv VG)), (6, (.pointer (some ⟨u.1, 0, none⟩))), (7, (.pointer (some ⟨u.2, 0, none⟩))), (13, (iv VG)), (14, (.slice zG p0.length zH)), (15, (iv (p0.length : Int))), (16, (.bool (decide (VG < (p0.length : Int))))), (19, (.slice zG p0.length zH)), (20, (iv VG)), (21, (.pointer (some ⟨adB zG, adO zG + (VG).toNat * 8, none⟩))), (22, (.agg #[(iv zm.Kind), (sv zm.Name), (iv zm.At.X), (iv zm.At.Y), (.slice VA zm.Points.length Kq), (iv zm.NX), (iv zm.NY), (.slice Kz zm.Steps.length Ko)])), (23, (.slice zX p1.length zY)), (24, (iv VG)), (25, (.pointer (some ⟨adB zX, adO zX + (VG).toNat * 8, none⟩))), (26, (.agg #[(iv zq.Kind), (sv zq.Name), (iv zq.At.X), (iv zq.At.Y), (.slice Ky zq.Points.length Kn), (iv zq.NX), (iv zq.NY), (.slice Kw zq.Steps.length Km)]))]) (fun u => [(5, bx u.1 #[(iv 0), (sv ⟨#[]⟩), (iv 0), (iv 0), (.slice none 0 0), (iv 0), (iv 0), (.slice none 0 0)] 80), (6, bx u.2 #[(iv 0), (sv ⟨#[]⟩), (iv 0), (iv 0), (.slice none 0 0), (iv 0), (iv 0), (.slice none 0 0)] 80)]) ?_ ?_
   ·intro hC
    refine Dr.pair 8 9 (by kernel_rfl) ?_ ?_
    ·refine St.alloc 8 5 rfl (wn rfl) rfl zGG fun zCC zJ8 => ?_
     refine Dr.one 9 (by kernel_rfl) ?_
     refine St.alloc 9 6 rfl (wn rfl) rfl zGG fun zCK hb138 => ?_
     exact (hC ⟨zCC, zCK⟩ ⟨zJ8, hb138⟩).use (by kernel_rfl) (.cons rfl (.cons rfl (.cons rfl (.cons rfl (.cons rfl (.cons rfl (.cons rfl (.cons rfl (.cons rfl (.cons rfl (.cons rfl (.cons rfl (.cons rfl (.cons rfl (.cons rfl (.cons rfl (.cons rfl .nil))))))))))))))))) (.cons rfl (.cons rfl .nil))
    ·refine St.alloc 9 6 rfl (wn rfl) rfl zGG fun zCK hb138 => ?_
     refine Dr.one 8 (by kernel_rfl) ?_
     refine St.alloc 8 5 rfl (wn rfl) rfl zGG fun zCC zJ8 => ?_
     exact (hC ⟨zCC, zCK⟩ ⟨zJ8, hb138⟩).use (by kernel_rfl) (.cons rfl (.cons rfl (.cons rfl (.cons rfl (.cons rfl (.cons rfl (.cons rfl (.cons rfl (.cons rfl (.cons rfl (.cons rfl (.cons rfl (.cons rfl (.cons rfl (.cons rfl (.cons rfl (.cons rfl .nil))))))))))))))))) (.cons rfl (.cons rfl .nil))
   intro u hu
   obtain ⟨zCC, zCK⟩ := u
   obtain ⟨zJ8, hb138⟩ := hu
   replace zJ8 : sz132 ≤ zCC := zJ8
   show Dr _ _ _ _ _ _ _ _ _ (LF [(0, (.slice zG p0.length zH)), (1, (.slice zX p1.length zY)), (5, (iv VG)), (6, (.pointer (some ⟨zCC, 0, none⟩))), (7, (.pointer (some ⟨zCK, 0, none⟩))), (13, (iv VG)), (14, (.slice zG p0.length zH)), (15, (iv (p0.length : Int))), (16, (.bool (decide (VG < (p0.length : Int))))), (19, (.slice zG p0.length zH)), (20, (iv VG)), (21, (.pointer (some ⟨adB zG, adO zG + (VG).toNat * 8, none⟩))), (22, (.agg #[(iv zm.Kind), (sv zm.Name), (iv zm.At.X), (iv zm.At.Y), (.slice VA zm.Points.length Kq), (iv zm.NX), (iv zm.NY), (.slice Kz zm.Steps.length Ko)])), (23, (.slice zX p1.length zY)), (24, (iv VG)), (25, (.pointer (some ⟨adB zX, adO zX + (VG).toNat * 8, none⟩))), (26, (.agg #[(iv zq.Kind), (sv zq.Name), (iv zq.At.X), (iv zq.At.Y), (.slice Ky zq.Points.length Kn), (iv zq.NX), (iv zq.NY), (.slice Kw zq.Steps.length Km)]))]) (LE [(5, bx zCC #[(iv 0), (sv ⟨#[]⟩), (iv 0), (iv 0), (.slice none 0 0), (iv 0), (iv 0), (.slice none 0 0)] 80), (6, bx zCK #[(iv 0), (sv ⟨#[]⟩), (iv 0), (iv 0), (.slice none 0 0), (iv 0), (iv 0), (.slice none 0 0)] 80)])
   refine Dr.one 10 (by kernel_rfl) ?_
   refine St.store 10 5 (cs := [(iv zm.Kind), (sv zm.Name), (iv zm.At.X), (iv zm.At.Y), (.slice VA zm.Points.length Kq), (iv zm.NX), (iv zm.NY), (.slice Kz zm.Steps.length Ko)]) [(iv zm.Kind), (sv zm.Name), (iv zm.At.X), (iv zm.At.Y), (.slice VA zm.Points.length Kq), (iv zm.NX), (iv zm.NY), (.slice Kz zm.Steps.length Ko)] rfl (wn rfl) (.inr ⟨by simp, zJ8⟩) rfl rfl rfl rfl Wo rfl rfl rfl ?_
   refine Dr.tail (by kernel_rfl) ?_
   refine Tr.store 6 (cs := [(iv zq.Kind), (sv zq.Name), (iv zq.At.X), (iv zq.At.Y), (.slice Ky zq.Points.length Kn), (iv zq.NX), (iv zq.NY), (.slice Kw zq.Steps.length Km)]) [(iv zq.Kind), (sv zq.Name), (iv zq.At.X), (iv zq.At.Y), (.slice Ky zq.Points.length Kn), (iv zq.NX), (iv zq.NY), (.slice Kw zq.Steps.length Km)] (wn rfl) rfl rfl rfl rfl Wo rfl rfl rfl ?_
   refine Tr.nil (Tr.zA (Tr.sr (Tr.va rfl (fun _ _ h1 h2 => zB zBd (h1.ev rfl)) ?_)))
   refine Tr.va rfl (fun _ _ h1 h2 => zF Qu (h1.ev rfl) (rdb h2 (vs := [(iv zm.Kind), (sv zm.Name), (iv zm.At.X), (iv zm.At.Y), (.slice VA zm.Points.length Kq), (iv zm.NX), (iv zm.NY), (.slice Kz zm.Steps.length Ko)]) (k := 5) rfl 0) rfl) ?_
   refine Tr.va rfl (fun _ _ h1 h2 => zB zBd (h1.ev rfl)) ?_
   refine Tr.va rfl (fun _ _ h1 h2 => zF Qu (h1.ev rfl) (rdb h2 (vs := [(iv zq.Kind), (sv zq.Name), (iv zq.At.X), (iv zq.At.Y), (.slice Ky zq.Points.length Kn), (iv zq.NX), (iv zq.NY), (.slice Kw zq.Steps.length Km)]) (k := 6) rfl 0) rfl) ?_
   refine Tr.va rfl (fun _ _ h1 h2 => KV (h1.ev rfl) (h1.ev rfl)) ?_
   refine Tr.mv rfl rfl (Tr.Jl 6 [(0, (.slice zG p0.length zH)), (1, (.slice zX p1.length zY)), (5, (iv VG)), (6, (.pointer (some ⟨zCC, 0, none⟩))), (7, (.pointer (some ⟨zCK, 0, none⟩))), (38, (.bool ((zm.Kind != zq.Kind) || (!sEq zm.Name zq.Name))))] [(5, bx zCC #[(iv zm.Kind), (sv zm.Name), (iv zm.At.X), (iv zm.At.Y), (.slice VA zm.Points.length Kq), (iv zm.NX), (iv zm.NY), (.slice Kz zm.Steps.length Ko)] 80), (6, bx zCK #[(iv zq.Kind), (sv zq.Name), (iv zq.At.X), (iv zq.At.Y), (.slice Ky zq.Points.length Kn), (iv zq.NX), (iv zq.NY), (.slice Kw zq.Steps.length Km)] 80)] ?_ ?_)
   ·cases zHE : (zm.Kind != zq.Kind)
    ·refine Tr.val (wg rfl rfl rfl) rfl (fun _ _ h1 h2 => zB zE1 (h1.ev rfl)) ?_
     refine Tr.val (wg rfl rfl rfl) rfl (fun _ _ h1 h2 => zF zAR (h1.ev rfl) (rdb h2 (vs := [(iv zm.Kind), (sv zm.Name), (iv zm.At.X), (iv zm.At.Y), (.slice VA zm.Points.length Kq), (iv zm.NX), (iv zm.NY), (.slice Kz zm.Steps.length Ko)]) (k := 5) rfl 1) rfl) ?_
     refine Tr.val (wg rfl rfl rfl) rfl (fun _ _ h1 h2 => zB zE1 (h1.ev rfl)) ?_
     refine Tr.val (wg rfl rfl rfl) rfl (fun _ _ h1 h2 => zF zAR (h1.ev rfl) (rdb h2 (vs := [(iv zq.Kind), (sv zq.Name), (iv zq.At.X), (iv zq.At.Y), (.slice Ky zq.Points.length Kn), (iv zq.NX), (iv zq.NY), (.slice Kw zq.Steps.length Km)]) (k := 6) rfl 1) rfl) ?_
     refine Tr.val (wg rfl rfl rfl) rfl (fun _ _ h1 h2 => zBW (h1.ev rfl) (h1.ev rfl)) ?_
     refine Tr.va rfl (fun _ _ h1 h2 => zV (h1.ev rfl) (h1.ev rfl)) ?_
     exact Tr.nil (Tr.QI (.cons rfl (.cons rfl (.cons rfl (.cons rfl (.cons rfl (.cons rfl .nil)))))) (.cons rfl (.cons rfl .nil)))
    ·refine Tr.pass rfl rfl rfl rfl rfl (by decide) ?_
     refine Tr.pass rfl rfl rfl rfl rfl (by decide) ?_
     refine Tr.pass rfl rfl rfl rfl rfl (by decide) ?_
     refine Tr.pass rfl rfl rfl rfl rfl (by decide) ?_
     refine Tr.pass rfl rfl rfl rfl rfl (by decide) ?_
     refine Tr.va rfl (fun _ _ h1 h2 => zU (h1.ev rfl) (h1.ev rfl)) ?_
     exact Tr.nil (Tr.QI (.cons rfl (.cons rfl (.cons rfl (.cons rfl (.cons rfl (.cons rfl .nil)))))) (.cons rfl (.cons rfl .nil)))
   ·show Tr _ _ (LF [(0, (.slice zG p0.length zH)), (1, (.slice zX p1.length zY)), (5, (iv VG)), (6, (.pointer (some ⟨zCC, 0, none⟩))), (7, (.pointer (some ⟨zCK, 0, none⟩))), (38, (.bool ((zm.Kind != zq.Kind) || (!sEq zm.Name zq.Name))))]) (LE [(5, bx zCC #[(iv zm.Kind), (sv zm.Name), (iv zm.At.X), (iv zm.At.Y), (.slice VA zm.Points.length Kq), (iv zm.NX), (iv zm.NY), (.slice Kz zm.Steps.length Ko)] 80), (6, bx zCK #[(iv zq.Kind), (sv zq.Name), (iv zq.At.X), (iv zq.At.Y), (.slice Ky zq.Points.length Kn), (iv zq.NX), (iv zq.NY), (.slice Kw zq.Steps.length Km)] 80)]) _
    refine Tr.mv rfl rfl (Tr.Jl 6 [(0, (.slice zG p0.length zH)), (1, (.slice zX p1.length zY)), (5, (iv VG)), (6, (.pointer (some ⟨zCC, 0, none⟩))), (7, (.pointer (some ⟨zCK, 0, none⟩))), (45, (.bool (((zm.Kind != zq.Kind) || (!sEq zm.Name zq.Name)) || (!(JP zm.At zq.At)))))] [(5, bx zCC #[(iv zm.Kind), (sv zm.Name), (iv zm.At.X), (iv zm.At.Y), (.slice VA zm.Points.length Kq), (iv zm.NX), (iv zm.NY), (.slice Kz zm.Steps.length Ko)] 80), (6, bx zCK #[(iv zq.Kind), (sv zq.Name), (iv zq.At.X), (iv zq.At.Y), (.slice Ky zq.Points.length Kn), (iv zq.NX), (iv zq.NY), (.slice Kw zq.Steps.length Km)] 80)] ?_ ?_)
    ·cases zHE : ((zm.Kind != zq.Kind) || (!sEq zm.Name zq.Name))
     ·refine Tr.val (wg rfl rfl rfl) rfl (fun _ _ h1 h2 => zB zBH (h1.ev rfl)) ?_
      refine Tr.val (wg rfl rfl rfl) rfl (fun _ _ h1 h2 => zu (cs := [(iv zm.At.X), (iv zm.At.Y)]) zBo Wx (h1.ev rfl) (za.take (rdb h2 (vs := [(iv zm.Kind), (sv zm.Name), (iv zm.At.X), (iv zm.At.Y), (.slice VA zm.Points.length Kq), (iv zm.NX), (iv zm.NY), (.slice Kz zm.Steps.length Ko)]) (k := 5) rfl 2) 2) rfl) ?_
      refine Tr.val (wg rfl rfl rfl) rfl (fun _ _ h1 h2 => zB zBH (h1.ev rfl)) ?_
      refine Tr.val (wg rfl rfl rfl) rfl (fun _ _ h1 h2 => zu (cs := [(iv zq.At.X), (iv zq.At.Y)]) zBo Wx (h1.ev rfl) (za.take (rdb h2 (vs := [(iv zq.Kind), (sv zq.Name), (iv zq.At.X), (iv zq.At.Y), (.slice Ky zq.Points.length Kn), (iv zq.NX), (iv zq.NY), (.slice Kw zq.Steps.length Km)]) (k := 6) rfl 2) 2) rfl) ?_
      refine Tr.val (wg rfl rfl rfl) rfl (fun _ _ h1 h2 => zGa zm.At zq.At (h1.ev rfl) (h1.ev rfl)) ?_
      refine Tr.va rfl (fun _ _ h1 h2 => zV (h1.ev rfl) (h1.ev rfl)) ?_
      exact Tr.nil (Tr.QI (.cons rfl (.cons rfl (.cons rfl (.cons rfl (.cons rfl (.cons rfl .nil)))))) (.cons rfl (.cons rfl .nil)))
     ·refine Tr.pass rfl rfl rfl rfl rfl (by decide) ?_
      refine Tr.pass rfl rfl rfl rfl rfl (by decide) ?_
      refine Tr.pass rfl rfl rfl rfl rfl (by decide) ?_
      refine Tr.pass rfl rfl rfl rfl rfl (by decide) ?_
      refine Tr.pass rfl rfl rfl rfl rfl (by decide) ?_
      refine Tr.va rfl (fun _ _ h1 h2 => zU (h1.ev rfl) (h1.ev rfl)) ?_
      exact Tr.nil (Tr.QI (.cons rfl (.cons rfl (.cons rfl (.cons rfl (.cons rfl (.cons rfl .nil)))))) (.cons rfl (.cons rfl .nil)))
    ·show Tr _ _ (LF [(0, (.slice zG p0.length zH)), (1, (.slice zX p1.length zY)), (5, (iv VG)), (6, (.pointer (some ⟨zCC, 0, none⟩))), (7, (.pointer (some ⟨zCK, 0, none⟩))), (45, (.bool (((zm.Kind != zq.Kind) || (!sEq zm.Name zq.Name)) || (!(JP zm.At zq.At)))))]) (LE [(5, bx zCC #[(iv zm.Kind), (sv zm.Name), (iv zm.At.X), (iv zm.At.Y), (.slice VA zm.Points.length Kq), (iv zm.NX), (iv zm.NY), (.slice Kz zm.Steps.length Ko)] 80), (6, bx zCK #[(iv zq.Kind), (sv zq.Name), (iv zq.At.X), (iv zq.At.Y), (.slice Ky zq.Points.length Kn), (iv zq.NX), (iv zq.NY), (.slice Kw zq.Steps.length Km)] 80)]) _
     refine Tr.mv rfl rfl (Tr.Jl 6 [(0, (.slice zG p0.length zH)), (1, (.slice zX p1.length zY)), (5, (iv VG)), (6, (.pointer (some ⟨zCC, 0, none⟩))), (7, (.pointer (some ⟨zCK, 0, none⟩))), (52, (.bool ((((zm.Kind != zq.Kind) || (!sEq zm.Name zq.Name)) || (!(JP zm.At zq.At))) || (zm.NX != zq.NX))))] [(5, bx zCC #[(iv zm.Kind), (sv zm.Name), (iv zm.At.X), (iv zm.At.Y), (.slice VA zm.Points.length Kq), (iv zm.NX), (iv zm.NY), (.slice Kz zm.Steps.length Ko)] 80), (6, bx zCK #[(iv zq.Kind), (sv zq.Name), (iv zq.At.X), (iv zq.At.Y), (.slice Ky zq.Points.length Kn), (iv zq.NX), (iv zq.NY), (.slice Kw zq.Steps.length Km)] 80)] ?_ ?_)
     ·cases zHE : (((zm.Kind != zq.Kind) || (!sEq zm.Name zq.Name)) || (!(JP zm.At zq.At)))
      ·refine Tr.val (wg rfl rfl rfl) rfl (fun _ _ h1 h2 => zB zB7 (h1.ev rfl)) ?_
       refine Tr.val (wg rfl rfl rfl) rfl (fun _ _ h1 h2 => zF Qu (h1.ev rfl) (rdb h2 (vs := [(iv zm.Kind), (sv zm.Name), (iv zm.At.X), (iv zm.At.Y), (.slice VA zm.Points.length Kq), (iv zm.NX), (iv zm.NY), (.slice Kz zm.Steps.length Ko)]) (k := 5) rfl 5) rfl) ?_
       refine Tr.val (wg rfl rfl rfl) rfl (fun _ _ h1 h2 => zB zB7 (h1.ev rfl)) ?_
       refine Tr.val (wg rfl rfl rfl) rfl (fun _ _ h1 h2 => zF Qu (h1.ev rfl) (rdb h2 (vs := [(iv zq.Kind), (sv zq.Name), (iv zq.At.X), (iv zq.At.Y), (.slice Ky zq.Points.length Kn), (iv zq.NX), (iv zq.NY), (.slice Kw zq.Steps.length Km)]) (k := 6) rfl 5) rfl) ?_
       refine Tr.val (wg rfl rfl rfl) rfl (fun _ _ h1 h2 => KV (h1.ev rfl) (h1.ev rfl)) ?_
       refine Tr.va rfl (fun _ _ h1 h2 => zV (h1.ev rfl) (h1.ev rfl)) ?_
       exact Tr.nil (Tr.QI (.cons rfl (.cons rfl (.cons rfl (.cons rfl (.cons rfl (.cons rfl .nil)))))) (.cons rfl (.cons rfl .nil)))
      ·refine Tr.pass rfl rfl rfl rfl rfl (by decide) ?_
       refine Tr.pass rfl rfl rfl rfl rfl (by decide) ?_
       refine Tr.pass rfl rfl rfl rfl rfl (by decide) ?_
       refine Tr.pass rfl rfl rfl rfl rfl (by decide) ?_
       refine Tr.pass rfl rfl rfl rfl rfl (by decide) ?_
       refine Tr.va rfl (fun _ _ h1 h2 => zU (h1.ev rfl) (h1.ev rfl)) ?_
       exact Tr.nil (Tr.QI (.cons rfl (.cons rfl (.cons rfl (.cons rfl (.cons rfl (.cons rfl .nil)))))) (.cons rfl (.cons rfl .nil)))
     ·show Tr _ _ (LF [(0, (.slice zG p0.length zH)), (1, (.slice zX p1.length zY)), (5, (iv VG)), (6, (.pointer (some ⟨zCC, 0, none⟩))), (7, (.pointer (some ⟨zCK, 0, none⟩))), (52, (.bool ((((zm.Kind != zq.Kind) || (!sEq zm.Name zq.Name)) || (!(JP zm.At zq.At))) || (zm.NX != zq.NX))))]) (LE [(5, bx zCC #[(iv zm.Kind), (sv zm.Name), (iv zm.At.X), (iv zm.At.Y), (.slice VA zm.Points.length Kq), (iv zm.NX), (iv zm.NY), (.slice Kz zm.Steps.length Ko)] 80), (6, bx zCK #[(iv zq.Kind), (sv zq.Name), (iv zq.At.X), (iv zq.At.Y), (.slice Ky zq.Points.length Kn), (iv zq.NX), (iv zq.NY), (.slice Kw zq.Steps.length Km)] 80)]) _
      refine Tr.mv rfl rfl (Tr.Jl 6 [(0, (.slice zG p0.length zH)), (1, (.slice zX p1.length zY)), (5, (iv VG)), (6, (.pointer (some ⟨zCC, 0, none⟩))), (7, (.pointer (some ⟨zCK, 0, none⟩))), (59, (.bool (((((zm.Kind != zq.Kind) || (!sEq zm.Name zq.Name)) || (!(JP zm.At zq.At))) || (zm.NX != zq.NX)) || (zm.NY != zq.NY))))] [(5, bx zCC #[(iv zm.Kind), (sv zm.Name), (iv zm.At.X), (iv zm.At.Y), (.slice VA zm.Points.length Kq), (iv zm.NX), (iv zm.NY), (.slice Kz zm.Steps.length Ko)] 80), (6, bx zCK #[(iv zq.Kind), (sv zq.Name), (iv zq.At.X), (iv zq.At.Y), (.slice Ky zq.Points.length Kn), (iv zq.NX), (iv zq.NY), (.slice Kw zq.Steps.length Km)] 80)] ?_ ?_)
      ·cases zHE : ((((zm.Kind != zq.Kind) || (!sEq zm.Name zq.Name)) || (!(JP zm.At zq.At))) || (zm.NX != zq.NX))
       ·refine Tr.val (wg rfl rfl rfl) rfl (fun _ _ h1 h2 => zB zB6 (h1.ev rfl)) ?_
        refine Tr.val (wg rfl rfl rfl) rfl (fun _ _ h1 h2 => zF Qu (h1.ev rfl) (rdb h2 (vs := [(iv zm.Kind), (sv zm.Name), (iv zm.At.X), (iv zm.At.Y), (.slice VA zm.Points.length Kq), (iv zm.NX), (iv zm.NY), (.slice Kz zm.Steps.length Ko)]) (k := 5) rfl 6) rfl) ?_
        refine Tr.val (wg rfl rfl rfl) rfl (fun _ _ h1 h2 => zB zB6 (h1.ev rfl)) ?_
        refine Tr.val (wg rfl rfl rfl) rfl (fun _ _ h1 h2 => zF Qu (h1.ev rfl) (rdb h2 (vs := [(iv zq.Kind), (sv zq.Name), (iv zq.At.X), (iv zq.At.Y), (.slice Ky zq.Points.length Kn), (iv zq.NX), (iv zq.NY), (.slice Kw zq.Steps.length Km)]) (k := 6) rfl 6) rfl) ?_
        refine Tr.val (wg rfl rfl rfl) rfl (fun _ _ h1 h2 => KV (h1.ev rfl) (h1.ev rfl)) ?_
        refine Tr.va rfl (fun _ _ h1 h2 => zV (h1.ev rfl) (h1.ev rfl)) ?_
        exact Tr.nil (Tr.QI (.cons rfl (.cons rfl (.cons rfl (.cons rfl (.cons rfl (.cons rfl .nil)))))) (.cons rfl (.cons rfl .nil)))
       ·refine Tr.pass rfl rfl rfl rfl rfl (by decide) ?_
        refine Tr.pass rfl rfl rfl rfl rfl (by decide) ?_
        refine Tr.pass rfl rfl rfl rfl rfl (by decide) ?_
        refine Tr.pass rfl rfl rfl rfl rfl (by decide) ?_
        refine Tr.pass rfl rfl rfl rfl rfl (by decide) ?_
        refine Tr.va rfl (fun _ _ h1 h2 => zU (h1.ev rfl) (h1.ev rfl)) ?_
        exact Tr.nil (Tr.QI (.cons rfl (.cons rfl (.cons rfl (.cons rfl (.cons rfl (.cons rfl .nil)))))) (.cons rfl (.cons rfl .nil)))
      ·show Tr _ _ (LF [(0, (.slice zG p0.length zH)), (1, (.slice zX p1.length zY)), (5, (iv VG)), (6, (.pointer (some ⟨zCC, 0, none⟩))), (7, (.pointer (some ⟨zCK, 0, none⟩))), (59, (.bool (((((zm.Kind != zq.Kind) || (!sEq zm.Name zq.Name)) || (!(JP zm.At zq.At))) || (zm.NX != zq.NX)) || (zm.NY != zq.NY))))]) (LE [(5, bx zCC #[(iv zm.Kind), (sv zm.Name), (iv zm.At.X), (iv zm.At.Y), (.slice VA zm.Points.length Kq), (iv zm.NX), (iv zm.NY), (.slice Kz zm.Steps.length Ko)] 80), (6, bx zCK #[(iv zq.Kind), (sv zq.Name), (iv zq.At.X), (iv zq.At.Y), (.slice Ky zq.Points.length Kn), (iv zq.NX), (iv zq.NY), (.slice Kw zq.Steps.length Km)] 80)]) _
       refine Tr.mv rfl rfl ?_
       obtain ⟨g140, hg140, H⟩ := bnd H
       refine Tr.Jl 7 [(0, (.slice zG p0.length zH)), (1, (.slice zX p1.length zY)), (5, (iv VG)), (6, (.pointer (some ⟨zCC, 0, none⟩))), (7, (.pointer (some ⟨zCK, 0, none⟩))), (67, (.bool g140))] [(5, bx zCC #[(iv zm.Kind), (sv zm.Name), (iv zm.At.X), (iv zm.At.Y), (.slice VA zm.Points.length Kq), (iv zm.NX), (iv zm.NY), (.slice Kz zm.Steps.length Ko)] 80), (6, bx zCK #[(iv zq.Kind), (sv zq.Name), (iv zq.At.X), (iv zq.At.Y), (.slice Ky zq.Points.length Kn), (iv zq.NX), (iv zq.NY), (.slice Kw zq.Steps.length Km)] 80)] ?_ ?_
       ·cases zHE : (((((zm.Kind != zq.Kind) || (!sEq zm.Name zq.Name)) || (!(JP zm.At zq.At))) || (zm.NX != zq.NX)) || (zm.NY != zq.NY))
        ·rw [zHE] at hg140
         rw [if_neg (by decide)] at hg140
         have H := hg140
         refine Tr.val (wg rfl rfl rfl) rfl (fun _ _ h1 h2 => zB zBG (h1.ev rfl)) ?_
         refine Tr.val (wg rfl rfl rfl) rfl (fun _ _ h1 h2 => zF zFs (h1.ev rfl) (rdb h2 (vs := [(iv zm.Kind), (sv zm.Name), (iv zm.At.X), (iv zm.At.Y), (.slice VA zm.Points.length Kq), (iv zm.NX), (iv zm.NY), (.slice Kz zm.Steps.length Ko)]) (k := 5) rfl 4) rfl) ?_
         refine Tr.val (wg rfl rfl rfl) rfl (fun _ _ h1 h2 => zB zBG (h1.ev rfl)) ?_
         refine Tr.val (wg rfl rfl rfl) rfl (fun _ _ h1 h2 => zF zFs (h1.ev rfl) (rdb h2 (vs := [(iv zq.Kind), (sv zq.Name), (iv zq.At.X), (iv zq.At.Y), (.slice Ky zq.Points.length Kn), (iv zq.NX), (iv zq.NY), (.slice Kw zq.Steps.length Km)]) (k := 6) rfl 4) rfl) ?_
         obtain ⟨y141, hy141, H⟩ := bnd H
         refine Tr.Qa (r := (.bool y141)) (wg rfl rfl rfl) rfl Tryz.call38 (zI rfl (zI rfl zT)) (fun W hW => zCx N zm.Points VA Kq (zH9.ext hW.Qc) zq.Points Ky Kn (zH7.ext hW.Qc) y141 hy141 (HF.start _)) ?_
         refine Tr.val (wg rfl rfl rfl) rfl (fun _ _ h1 h2 => Qb (h1.ev rfl)) ?_
         refine Tr.va rfl (fun _ _ h1 h2 => zV (h1.ev rfl) (h1.ev rfl)) ?_
         obtain rfl := Option.some.inj H
         exact Tr.nil (Tr.QI (.cons rfl (.cons rfl (.cons rfl (.cons rfl (.cons rfl (.cons rfl .nil)))))) (.cons rfl (.cons rfl .nil)))
        ·rw [zHE] at hg140
         rw [if_pos rfl] at hg140
         have H := hg140
         obtain rfl := Option.some.inj H
         refine Tr.pass rfl rfl rfl rfl rfl (by decide) ?_
         refine Tr.pass rfl rfl rfl rfl rfl (by decide) ?_
         refine Tr.pass rfl rfl rfl rfl rfl (by decide) ?_
         refine Tr.pass rfl rfl rfl rfl rfl (by decide) ?_
         refine Tr.pass rfl rfl rfl rfl rfl (by decide) ?_
         refine Tr.pass rfl rfl rfl rfl rfl (by decide) ?_
         refine Tr.va rfl (fun _ _ h1 h2 => zU (h1.ev rfl) (h1.ev rfl)) ?_
         exact Tr.nil (Tr.QI (.cons rfl (.cons rfl (.cons rfl (.cons rfl (.cons rfl (.cons rfl .nil)))))) (.cons rfl (.cons rfl .nil)))
       ·show Tr _ _ (LF [(0, (.slice zG p0.length zH)), (1, (.slice zX p1.length zY)), (5, (iv VG)), (6, (.pointer (some ⟨zCC, 0, none⟩))), (7, (.pointer (some ⟨zCK, 0, none⟩))), (67, (.bool g140))]) (LE [(5, bx zCC #[(iv zm.Kind), (sv zm.Name), (iv zm.At.X), (iv zm.At.Y), (.slice VA zm.Points.length Kq), (iv zm.NX), (iv zm.NY), (.slice Kz zm.Steps.length Ko)] 80), (6, bx zCK #[(iv zq.Kind), (sv zq.Name), (iv zq.At.X), (iv zq.At.Y), (.slice Ky zq.Points.length Kn), (iv zq.NX), (iv zq.NY), (.slice Kw zq.Steps.length Km)] 80)]) _
        refine Tr.mv rfl rfl ?_
        obtain ⟨g143, hg143, H⟩ := bnd H
        refine Tr.Jl 7 [(0, (.slice zG p0.length zH)), (1, (.slice zX p1.length zY)), (5, (iv VG)), (75, (.bool g143))] [(5, bx zCC #[(iv zm.Kind), (sv zm.Name), (iv zm.At.X), (iv zm.At.Y), (.slice VA zm.Points.length Kq), (iv zm.NX), (iv zm.NY), (.slice Kz zm.Steps.length Ko)] 80), (6, bx zCK #[(iv zq.Kind), (sv zq.Name), (iv zq.At.X), (iv zq.At.Y), (.slice Ky zq.Points.length Kn), (iv zq.NX), (iv zq.NY), (.slice Kw zq.Steps.length Km)] 80)] ?_ ?_
        ·cases zHE : g140
         ·rw [zHE] at hg143
          rw [if_neg (by decide)] at hg143
          have H := hg143
          refine Tr.val (wg rfl rfl rfl) rfl (fun _ _ h1 h2 => zB zAB (h1.ev rfl)) ?_
          refine Tr.val (wg rfl rfl rfl) rfl (fun _ _ h1 h2 => zF zBR (h1.ev rfl) (rdb h2 (vs := [(iv zm.Kind), (sv zm.Name), (iv zm.At.X), (iv zm.At.Y), (.slice VA zm.Points.length Kq), (iv zm.NX), (iv zm.NY), (.slice Kz zm.Steps.length Ko)]) (k := 5) rfl 7) rfl) ?_
          refine Tr.val (wg rfl rfl rfl) rfl (fun _ _ h1 h2 => zB zAB (h1.ev rfl)) ?_
          refine Tr.val (wg rfl rfl rfl) rfl (fun _ _ h1 h2 => zF zBR (h1.ev rfl) (rdb h2 (vs := [(iv zq.Kind), (sv zq.Name), (iv zq.At.X), (iv zq.At.Y), (.slice Ky zq.Points.length Kn), (iv zq.NX), (iv zq.NY), (.slice Kw zq.Steps.length Km)]) (k := 6) rfl 7) rfl) ?_
          obtain ⟨y144, hy144, H⟩ := bnd H
          refine Tr.Qa (r := (.bool y144)) (wg rfl rfl rfl) rfl Tryz.call19 (zI rfl (zI rfl zT)) (fun W hW => hrec zm.Steps Kz Ko (zH8.ext hW.Qc) zq.Steps Kw Km (zH6.ext hW.Qc) y144 hy144 (HF.start _)) ?_
          refine Tr.val (wg rfl rfl rfl) rfl (fun _ _ h1 h2 => Qb (h1.ev rfl)) ?_
          refine Tr.va rfl (fun _ _ h1 h2 => zV (h1.ev rfl) (h1.ev rfl)) ?_
          obtain rfl := Option.some.inj H
          exact Tr.nil (Tr.QI (.cons rfl (.cons rfl (.cons rfl (.cons rfl .nil)))) (.cons rfl (.cons rfl .nil)))
         ·rw [zHE] at hg143
          rw [if_pos rfl] at hg143
          have H := hg143
          obtain rfl := Option.some.inj H
          refine Tr.pass rfl rfl rfl rfl rfl (by decide) ?_
          refine Tr.pass rfl rfl rfl rfl rfl (by decide) ?_
          refine Tr.pass rfl rfl rfl rfl rfl (by decide) ?_
          refine Tr.pass rfl rfl rfl rfl rfl (by decide) ?_
          refine Tr.pass rfl rfl rfl rfl rfl (by decide) ?_
          refine Tr.pass rfl rfl rfl rfl rfl (by decide) ?_
          refine Tr.va rfl (fun _ _ h1 h2 => zU (h1.ev rfl) (h1.ev rfl)) ?_
          exact Tr.nil (Tr.QI (.cons rfl (.cons rfl (.cons rfl (.cons rfl .nil)))) (.cons rfl (.cons rfl .nil)))
        ·show Tr _ _ (LF [(0, (.slice zG p0.length zH)), (1, (.slice zX p1.length zY)), (5, (iv VG)), (75, (.bool g143))]) (LE [(5, bx zCC #[(iv zm.Kind), (sv zm.Name), (iv zm.At.X), (iv zm.At.Y), (.slice VA zm.Points.length Kq), (iv zm.NX), (iv zm.NY), (.slice Kz zm.Steps.length Ko)] 80), (6, bx zCK #[(iv zq.Kind), (sv zq.Name), (iv zq.At.X), (iv zq.At.Y), (.slice Ky zq.Points.length Kn), (iv zq.NX), (iv zq.NY), (.slice Kw zq.Steps.length Km)] 80)]) _
         refine Tr.nil (Tr.zA (Tr.cond rfl H (fun H => ?_) (fun H => ?_)))
         ·refine Tr.sr (Tr.asg rfl rfl (Tr.nil (Tr.zA (Tr.ret (Tr.zW (Tr.zM (Tr.zM (Tr.zW (Tr.zM ?_)))))))))
          obtain rfl := Option.some.inj H
          exact Tr.out (m := [(.bool false)]) [] (zJ rfl zR) (fun W hW => ⟨rfl, hW.low leB⟩)
         ·refine Tr.skip (Tr.zi (Tr.zA (Tr.region (Tr.mv rfl rfl (Tr.va rfl (fun _ _ h1 h2 => QS (h1.ev rfl) (h1.ev rfl)) ?_)))))
          exact Tr.asg rfl rfl (Tr.nil (Tr.zb Qs (w64 (VG + 1)) H (.cons rfl (.cons rfl (.cons rfl .nil))) .nil))
  ·refine Tr.exit (Tr.zx (Tr.zx (Tr.Qd (Tr.zA (Tr.sr (Tr.asg rfl rfl (Tr.nil (Tr.zA (Tr.ret ?_)))))))))
   obtain rfl := Option.some.inj H
   exact Tr.out (m := [(.bool true)]) [] (zJ rfl zR) (fun W hW => ⟨rfl, hW.low leB⟩)
theorem zAr : ∀ (N : Nat) {w : Bs} (p0 : (List zD)) (zG : Option Addr) (zH : Nat) (ze : Sl w.R w.W zC zG zH p0) (p1 : (List zD)) (zX : Option Addr) (zY : Nat) (Qv : Sl w.R w.W zC zX zY p1) (r : Bool) (H : VD N p0 p1 = some r) (hE : HF w w.W E0), Calls Tryz.prog 19 [(.slice zG p0.length zH), (.slice zX p1.length zY)].toArray w.W fun e W' => e = .returned (.bool r) ∧ HF w W' E0
 | 0 => by intros; rename_i H _; cases H
 | N + 1 => zCf N (VD N) (zAr N)

theorem zC4 (N : Nat) {w : Bs} (p0 : (List VS)) (zG : Option Addr) (zH : Nat) (ze : Sl w.R w.W KW zG zH p0) (p1 : (List VS)) (zX : Option Addr) (zY : Nat) (Qv : Sl w.R w.W KW zX zY p1) (r : Bool) (H : VF N p0 p1 = some r) (hE : HF w w.W E0) : Calls Tryz.prog 20 [(.slice zG p0.length zH), (.slice zX p1.length zY)].toArray w.W fun e W' => e = .returned (.bool r) ∧ HF w W' E0 := by
 unfold VF at H
 have leB := Bs.Le.refl w
 refine Tr.enter (n := 26) Tryz.func20 rfl rfl rfl hE ?_
 refine Tr.sr (Tr.asg rfl rfl (Tr.nil (Tr.zA (Tr.seq (Tr.sr (Tr.mv rfl rfl (Tr.va rfl (fun _ _ h1 h2 => QG zFI (h1.ev rfl)) ?_)))))))
 refine Tr.mv rfl rfl (Tr.va rfl (fun _ _ h1 h2 => QG zFI (h1.ev rfl)) ?_)
 refine Tr.va rfl (fun _ _ h1 h2 => KV (h1.ev rfl) (h1.ev rfl)) ?_
 refine Tr.nil (Tr.zA (Tr.cond rfl H (fun H => ?_) (fun H => ?_)))
 ·refine Tr.sr (Tr.asg rfl rfl (Tr.nil (Tr.zA (Tr.ret (Tr.zM ?_)))))
  obtain rfl := Option.some.inj H
  exact Tr.out (m := [(.bool false)]) [] (zJ rfl zR) (fun W hW => ⟨rfl, hW.low leB⟩)
 ·refine Tr.skip (Tr.zA (Tr.seq (Tr.sr (Tr.asg rfl rfl (Tr.nil (Tr.zA (Tr.block (Tr.loop (σ := Int) (fun m w s => JE p0 p1 m s = some r) (fun s => [(0, (.slice zG p0.length zH)), (1, (.slice zX p1.length zY)), (5, (iv s))]) (fun s => []) N 0 H (.cons rfl (.cons rfl (.cons rfl .nil))) .nil (fun _ _ h => WM (h)) ?_))))))))
  intro w Qs mL1 x107 hs
  have H := hs
  replace H : JE p0 p1 (mL1 + 1) x107 = some r := H
  replace ze := ze.leR Qs
  replace Qv := Qv.leR Qs
  replace leB := leB.trans Qs
  rw [JE.eq_2] at H
  show Tr _ _ (LF [(0, (.slice zG p0.length zH)), (1, (.slice zX p1.length zY)), (5, (iv x107))]) (LE []) _
  refine Tr.seq (Tr.sr (Tr.mv rfl rfl (Tr.mv rfl rfl (Tr.va rfl (fun _ _ h1 h2 => QG zFI (h1.ev rfl)) ?_))))
  refine Tr.va rfl (fun _ _ h1 h2 => QV (h1.ev rfl) (h1.ev rfl)) ?_
  refine Tr.nil (Tr.zA (Tr.cond rfl H (fun H => ?_) (fun H => ?_)))
  ·refine Tr.skip (Tr.zA (Tr.seq (Tr.block (Tr.seq (Tr.draw (by kernel_rfl) (by kernel_rfl) ?_)))))
   refine Tq.mv rfl rfl (Tq.mv rfl rfl ?_)
   obtain ⟨Wm, zHA, H⟩ := bnd H
   obtain ⟨zEz, zEy, zEx⟩ := zw zHA
   refine Tq.va rfl (fun _ _ h1 h2 => zN el_45 (h1.ev rfl) ze.form (h1.ev rfl) zEz zEy) ?_
   refine Tq.va rfl (fun _ _ h1 h2 => zu (cs := [(iv Wm.X0), (iv Wm.Y0), (iv Wm.X1), (iv Wm.Y1)]) ag_49 zGH (h1.ev rfl) (za.take (rdF zFn ze zEx h2) 4) rfl) ?_
   refine Tq.mv rfl rfl (Tq.mv rfl rfl ?_)
   obtain ⟨JF, zJ4, H⟩ := bnd H
   obtain ⟨zGf, zGe, zGd⟩ := zw zJ4
   refine Tq.va rfl (fun _ _ h1 h2 => zN el_45 (h1.ev rfl) Qv.form (h1.ev rfl) zGf zGe) ?_
   refine Tq.va rfl (fun _ _ h1 h2 => zu (cs := [(iv JF.X0), (iv JF.Y0), (iv JF.X1), (iv JF.Y1)]) ag_49 zGH (h1.ev rfl) (za.take (rdF zFn Qv zGd h2) 4) rfl) ?_
   refine Tq.va rfl (fun _ _ h1 h2 => run_neq_49 Wm JF (h1.ev rfl) (h1.ev rfl)) ?_
   refine Tq.nil (Tr.zA (Tr.cond rfl H (fun H => ?_) (fun H => ?_)))
   ·refine Tr.sr (Tr.asg rfl rfl (Tr.nil (Tr.zA (Tr.ret (Tr.zW (Tr.zM (Tr.zM (Tr.zW (Tr.zM ?_)))))))))
    obtain rfl := Option.some.inj H
    exact Tr.out (m := [(.bool false)]) [] (zJ rfl zR) (fun W hW => ⟨rfl, hW.low leB⟩)
   ·refine Tr.skip (Tr.zi (Tr.zA (Tr.region (Tr.mv rfl rfl (Tr.va rfl (fun _ _ h1 h2 => QS (h1.ev rfl) (h1.ev rfl)) ?_)))))
    exact Tr.asg rfl rfl (Tr.nil (Tr.zb Qs (w64 (x107 + 1)) H (.cons rfl (.cons rfl (.cons rfl .nil))) .nil))
  ·refine Tr.exit (Tr.zx (Tr.zx (Tr.Qd (Tr.zA (Tr.sr (Tr.asg rfl rfl (Tr.nil (Tr.zA (Tr.ret ?_)))))))))
   obtain rfl := Option.some.inj H
   exact Tr.out (m := [(.bool true)]) [] (zJ rfl zR) (fun W hW => ⟨rfl, hW.low leB⟩)

theorem zDO (N : Nat) {w : Bs} (p0 : QN) (zG : Option Addr) (zH : Nat) (ze : Sl w.R w.W zQ zG zH p0.Tools) (zL : Option Addr) (zK : Nat) (KE : Sl w.R w.W zC zL zK p0.Steps) (p1 : QN) (zX : Option Addr) (zY : Nat) (Qv : Sl w.R w.W zQ zX zY p1.Tools) (QL : Option Addr) (QJ : Nat) (zHB : Sl w.R w.W zC QL QJ p1.Steps) (r : Bool) (H : KA N p0 p1 = some r) (hE : HF w w.W E0) : Calls Tryz.prog 7 [(.agg #[(iv p0.Unit), (.slice zG p0.Tools.length zH), (.slice zL p0.Steps.length zK)]), (.agg #[(iv p1.Unit), (.slice zX p1.Tools.length zY), (.slice QL p1.Steps.length QJ)])].toArray w.W fun e W' => e = .returned (.bool r) ∧ HF w W' E0 := by
 unfold KA at H
 have leB := Bs.Le.refl w
 refine Tr.enter (n := 64) Tryz.func7 rfl rfl rfl hE ?_
 refine Tr.sr (Tr.box 1 (cs := [(iv p0.Unit), (.slice zG p0.Tools.length zH), (.slice zL p0.Steps.length zK)]) (wn rfl) rfl rfl rfl fun QB => ?_)
 refine Tr.box 2 (cs := [(iv p1.Unit), (.slice zX p1.Tools.length zY), (.slice QL p1.Steps.length QJ)]) (wn rfl) rfl rfl rfl fun JS => ?_
 refine Tr.asg rfl rfl (Tr.nil (Tr.zA (Tr.seq (Tr.sr (Tr.va rfl (fun _ _ h1 h2 => zB zBe (h1.ev rfl)) ?_)))))
 refine Tr.va rfl (fun _ _ h1 h2 => zF Qu (h1.ev rfl) (rdb h2 (vs := [(iv p0.Unit), (.slice zG p0.Tools.length zH), (.slice zL p0.Steps.length zK)]) (k := 1) rfl 0) rfl) ?_
 refine Tr.va rfl (fun _ _ h1 h2 => zB zBe (h1.ev rfl)) ?_
 refine Tr.va rfl (fun _ _ h1 h2 => zF Qu (h1.ev rfl) (rdb h2 (vs := [(iv p1.Unit), (.slice zX p1.Tools.length zY), (.slice QL p1.Steps.length QJ)]) (k := 2) rfl 0) rfl) ?_
 refine Tr.va rfl (fun _ _ h1 h2 => KV (h1.ev rfl) (h1.ev rfl)) ?_
 refine Tr.mv rfl rfl (Tr.Jl 8 [(2, (.pointer (some ⟨QB, 0, none⟩))), (3, (.pointer (some ⟨JS, 0, none⟩))), (19, (.bool ((p0.Unit != p1.Unit) || ((p0.Tools.length : Int) != (p1.Tools.length : Int)))))] [(1, bx QB #[(iv p0.Unit), (.slice zG p0.Tools.length zH), (.slice zL p0.Steps.length zK)] 25), (2, bx JS #[(iv p1.Unit), (.slice zX p1.Tools.length zY), (.slice QL p1.Steps.length QJ)] 25)] ?_ ?_)
 ·cases hg153 : (p0.Unit != p1.Unit)
  ·refine Tr.val (wg rfl rfl rfl) rfl (fun _ _ h1 h2 => zB Vl (h1.ev rfl)) ?_
   refine Tr.val (wg rfl rfl rfl) rfl (fun _ _ h1 h2 => zF zBp (h1.ev rfl) (rdb h2 (vs := [(iv p0.Unit), (.slice zG p0.Tools.length zH), (.slice zL p0.Steps.length zK)]) (k := 1) rfl 1) rfl) ?_
   refine Tr.val (wg rfl rfl rfl) rfl (fun _ _ h1 h2 => QG zFJ (h1.ev rfl)) ?_
   refine Tr.val (wg rfl rfl rfl) rfl (fun _ _ h1 h2 => zB Vl (h1.ev rfl)) ?_
   refine Tr.val (wg rfl rfl rfl) rfl (fun _ _ h1 h2 => zF zBp (h1.ev rfl) (rdb h2 (vs := [(iv p1.Unit), (.slice zX p1.Tools.length zY), (.slice QL p1.Steps.length QJ)]) (k := 2) rfl 1) rfl) ?_
   refine Tr.val (wg rfl rfl rfl) rfl (fun _ _ h1 h2 => QG zFJ (h1.ev rfl)) ?_
   refine Tr.val (wg rfl rfl rfl) rfl (fun _ _ h1 h2 => KV (h1.ev rfl) (h1.ev rfl)) ?_
   refine Tr.va rfl (fun _ _ h1 h2 => zV (h1.ev rfl) (h1.ev rfl)) ?_
   exact Tr.nil (Tr.QI (.cons rfl (.cons rfl (.cons rfl .nil))) (.cons rfl (.cons rfl .nil)))
  ·refine Tr.pass rfl rfl rfl rfl rfl (by decide) ?_
   refine Tr.pass rfl rfl rfl rfl rfl (by decide) ?_
   refine Tr.pass rfl rfl rfl rfl rfl (by decide) ?_
   refine Tr.pass rfl rfl rfl rfl rfl (by decide) ?_
   refine Tr.pass rfl rfl rfl rfl rfl (by decide) ?_
   refine Tr.pass rfl rfl rfl rfl rfl (by decide) ?_
   refine Tr.pass rfl rfl rfl rfl rfl (by decide) ?_
   refine Tr.va rfl (fun _ _ h1 h2 => zU (h1.ev rfl) (h1.ev rfl)) ?_
   exact Tr.nil (Tr.QI (.cons rfl (.cons rfl (.cons rfl .nil))) (.cons rfl (.cons rfl .nil)))
 ·show Tr _ _ (LF [(2, (.pointer (some ⟨QB, 0, none⟩))), (3, (.pointer (some ⟨JS, 0, none⟩))), (19, (.bool ((p0.Unit != p1.Unit) || ((p0.Tools.length : Int) != (p1.Tools.length : Int)))))]) (LE [(1, bx QB #[(iv p0.Unit), (.slice zG p0.Tools.length zH), (.slice zL p0.Steps.length zK)] 25), (2, bx JS #[(iv p1.Unit), (.slice zX p1.Tools.length zY), (.slice QL p1.Steps.length QJ)] 25)]) _
  refine Tr.mv rfl rfl ?_
  obtain ⟨zEB, Wz, H⟩ := bnd H
  refine Tr.Jl 7 [(2, (.pointer (some ⟨QB, 0, none⟩))), (3, (.pointer (some ⟨JS, 0, none⟩))), (27, (.bool zEB))] [(1, bx QB #[(iv p0.Unit), (.slice zG p0.Tools.length zH), (.slice zL p0.Steps.length zK)] 25), (2, bx JS #[(iv p1.Unit), (.slice zX p1.Tools.length zY), (.slice QL p1.Steps.length QJ)] 25)] ?_ ?_
  ·cases hg153 : ((p0.Unit != p1.Unit) || ((p0.Tools.length : Int) != (p1.Tools.length : Int)))
   ·rw [hg153] at Wz
    rw [if_neg (by decide)] at Wz
    have H := Wz
    refine Tr.val (wg rfl rfl rfl) rfl (fun _ _ h1 h2 => zB zCg (h1.ev rfl)) ?_
    refine Tr.val (wg rfl rfl rfl) rfl (fun _ _ h1 h2 => zF zBR (h1.ev rfl) (rdb h2 (vs := [(iv p0.Unit), (.slice zG p0.Tools.length zH), (.slice zL p0.Steps.length zK)]) (k := 1) rfl 2) rfl) ?_
    refine Tr.val (wg rfl rfl rfl) rfl (fun _ _ h1 h2 => zB zCg (h1.ev rfl)) ?_
    refine Tr.val (wg rfl rfl rfl) rfl (fun _ _ h1 h2 => zF zBR (h1.ev rfl) (rdb h2 (vs := [(iv p1.Unit), (.slice zX p1.Tools.length zY), (.slice QL p1.Steps.length QJ)]) (k := 2) rfl 2) rfl) ?_
    obtain ⟨y104, hy104, H⟩ := bnd H
    refine Tr.Qa (r := (.bool y104)) (wg rfl rfl rfl) rfl Tryz.call19 (zI rfl (zI rfl zT)) (fun W hW => zAr N p0.Steps zL zK (KE.ext hW.Qc) p1.Steps QL QJ (zHB.ext hW.Qc) y104 hy104 (HF.start _)) ?_
    refine Tr.val (wg rfl rfl rfl) rfl (fun _ _ h1 h2 => Qb (h1.ev rfl)) ?_
    refine Tr.va rfl (fun _ _ h1 h2 => zV (h1.ev rfl) (h1.ev rfl)) ?_
    obtain rfl := Option.some.inj H
    exact Tr.nil (Tr.QI (.cons rfl (.cons rfl (.cons rfl .nil))) (.cons rfl (.cons rfl .nil)))
   ·rw [hg153] at Wz
    rw [if_pos rfl] at Wz
    have H := Wz
    obtain rfl := Option.some.inj H
    refine Tr.pass rfl rfl rfl rfl rfl (by decide) ?_
    refine Tr.pass rfl rfl rfl rfl rfl (by decide) ?_
    refine Tr.pass rfl rfl rfl rfl rfl (by decide) ?_
    refine Tr.pass rfl rfl rfl rfl rfl (by decide) ?_
    refine Tr.pass rfl rfl rfl rfl rfl (by decide) ?_
    refine Tr.pass rfl rfl rfl rfl rfl (by decide) ?_
    refine Tr.va rfl (fun _ _ h1 h2 => zU (h1.ev rfl) (h1.ev rfl)) ?_
    exact Tr.nil (Tr.QI (.cons rfl (.cons rfl (.cons rfl .nil))) (.cons rfl (.cons rfl .nil)))
  ·show Tr _ _ (LF [(2, (.pointer (some ⟨QB, 0, none⟩))), (3, (.pointer (some ⟨JS, 0, none⟩))), (27, (.bool zEB))]) (LE [(1, bx QB #[(iv p0.Unit), (.slice zG p0.Tools.length zH), (.slice zL p0.Steps.length zK)] 25), (2, bx JS #[(iv p1.Unit), (.slice zX p1.Tools.length zY), (.slice QL p1.Steps.length QJ)] 25)]) _
   refine Tr.nil (Tr.zA (Tr.cond rfl H (fun H => ?_) (fun H => ?_)))
   ·refine Tr.sr (Tr.asg rfl rfl (Tr.nil (Tr.zA (Tr.ret (Tr.zM ?_)))))
    obtain rfl := Option.some.inj H
    exact Tr.out (m := [(.bool false)]) [] (zJ rfl zR) (fun W hW => ⟨rfl, hW.low leB⟩)
   ·refine Tr.skip (Tr.zA (Tr.seq (Tr.sr (Tr.asg rfl rfl (Tr.nil (Tr.zA (Tr.block (Tr.loop (σ := Int) (fun m w s => JN N p0 p1 m s = some r) (fun s => [(2, (.pointer (some ⟨QB, 0, none⟩))), (3, (.pointer (some ⟨JS, 0, none⟩))), (5, (iv s))]) (fun s => [(1, bx QB #[(iv p0.Unit), (.slice zG p0.Tools.length zH), (.slice zL p0.Steps.length zK)] 25), (2, bx JS #[(iv p1.Unit), (.slice zX p1.Tools.length zY), (.slice QL p1.Steps.length QJ)] 25)]) N 0 H (.cons rfl (.cons rfl (.cons rfl .nil))) (.cons rfl (.cons rfl .nil)) (fun _ _ h => WM (h)) ?_))))))))
    intro w Qs mL1 zAv hs
    have H := hs
    replace H : JN N p0 p1 (mL1 + 1) zAv = some r := H
    replace ze := ze.leR Qs
    replace Qv := Qv.leR Qs
    replace leB := leB.trans Qs
    rw [JN.eq_2] at H
    show Tr _ _ (LF [(2, (.pointer (some ⟨QB, 0, none⟩))), (3, (.pointer (some ⟨JS, 0, none⟩))), (5, (iv zAv))]) (LE [(1, bx QB #[(iv p0.Unit), (.slice zG p0.Tools.length zH), (.slice zL p0.Steps.length zK)] 25), (2, bx JS #[(iv p1.Unit), (.slice zX p1.Tools.length zY), (.slice QL p1.Steps.length QJ)] 25)]) _
    refine Tr.seq (Tr.sr (Tr.mv rfl rfl (Tr.va rfl (fun _ _ h1 h2 => zB Vl (h1.ev rfl)) ?_)))
    refine Tr.va rfl (fun _ _ h1 h2 => zF zBp (h1.ev rfl) (rdb h2 (vs := [(iv p0.Unit), (.slice zG p0.Tools.length zH), (.slice zL p0.Steps.length zK)]) (k := 1) rfl 1) rfl) ?_
    refine Tr.va rfl (fun _ _ h1 h2 => QG zFJ (h1.ev rfl)) ?_
    refine Tr.va rfl (fun _ _ h1 h2 => QV (h1.ev rfl) (h1.ev rfl)) ?_
    refine Tr.nil (Tr.zA (Tr.cond rfl H (fun H => ?_) (fun H => ?_)))
    ·refine Tr.skip (Tr.zA (Tr.seq (Tr.block (Tr.seq (Tr.draw (by kernel_rfl) (by kernel_rfl) ?_)))))
     refine Tq.va rfl (fun _ _ h1 h2 => zB Vl (h1.ev rfl)) ?_
     refine Tq.va rfl (fun _ _ h1 h2 => zF zBp (h1.ev rfl) (rdb h2 (vs := [(iv p0.Unit), (.slice zG p0.Tools.length zH), (.slice zL p0.Steps.length zK)]) (k := 1) rfl 1) rfl) ?_
     refine Tq.mv rfl rfl ?_
     obtain ⟨Vt, hx139, H⟩ := bnd H
     obtain ⟨zJ3, zJ2, zJ1⟩ := zw hx139
     obtain ⟨u140, hRu140, hoku140, hcu140⟩ := (ze).el zJ1
     obtain ⟨Au140_0, cu140_0⟩ := u140
     have hoku140_0 := hoku140
     refine Tq.va rfl (fun _ _ h1 h2 => zN zFm (h1.ev rfl) ze.form (h1.ev rfl) zJ3 zJ2) ?_
     refine Tq.va rfl (fun _ _ h1 h2 => zB zCA (h1.ev rfl)) ?_
     refine Tq.va rfl (fun _ _ h1 h2 => zF zAR (h1.ev rfl) (za.drop (rdR hRu140 hcu140 h2) 0) rfl) ?_
     refine Tq.va rfl (fun _ _ h1 h2 => zB Vl (h1.ev rfl)) ?_
     refine Tq.va rfl (fun _ _ h1 h2 => zF zBp (h1.ev rfl) (rdb h2 (vs := [(iv p1.Unit), (.slice zX p1.Tools.length zY), (.slice QL p1.Steps.length QJ)]) (k := 2) rfl 1) rfl) ?_
     refine Tq.mv rfl rfl ?_
     obtain ⟨x141, hx141, H⟩ := bnd H
     obtain ⟨hx1410, hx1411, hx1412⟩ := zw hx141
     obtain ⟨u142, hRu142, hoku142, hcu142⟩ := (Qv).el hx1412
     obtain ⟨Au142_0, cu142_0⟩ := u142
     have hoku142_0 := hoku142
     refine Tq.va rfl (fun _ _ h1 h2 => zN zFm (h1.ev rfl) Qv.form (h1.ev rfl) hx1410 hx1411) ?_
     refine Tq.va rfl (fun _ _ h1 h2 => zB zCA (h1.ev rfl)) ?_
     refine Tq.va rfl (fun _ _ h1 h2 => zF zAR (h1.ev rfl) (za.drop (rdR hRu142 hcu142 h2) 0) rfl) ?_
     refine Tq.va rfl (fun _ _ h1 h2 => zBW (h1.ev rfl) (h1.ev rfl)) ?_
     refine Tq.mv rfl rfl ?_
     obtain ⟨g148, zDT, H⟩ := bnd H
     refine Tq.mid 15 [(2, (.pointer (some ⟨QB, 0, none⟩))), (3, (.pointer (some ⟨JS, 0, none⟩))), (5, (iv zAv)), (63, (.bool g148))] ?_ ?_
     ·cases hg153 : (!sEq Vt.Name x141.Name)
      ·rw [hg153] at zDT
       rw [if_neg (by decide)] at zDT
       have H := zDT
       refine Tq.val (wg rfl rfl rfl) rfl (fun _ _ h1 h2 => zB Vl (h1.ev rfl)) ?_
       refine Tq.val (wg rfl rfl rfl) rfl (fun _ _ h1 h2 => zF zBp (h1.ev rfl) (rdb h2 (vs := [(iv p0.Unit), (.slice zG p0.Tools.length zH), (.slice zL p0.Steps.length zK)]) (k := 1) rfl 1) rfl) ?_
       refine Tq.val (wg rfl rfl rfl) rfl (fun _ _ h1 h2 => run_move (h1.ev rfl)) ?_
       obtain ⟨x149, hx149, H⟩ := bnd H
       obtain ⟨hx1490, hx1491, hx1492⟩ := zw hx149
       obtain ⟨u150, hRu150, hoku150, hcu150⟩ := (ze).el hx1492
       obtain ⟨Au150_0, cu150_0⟩ := u150
       have zH5 := hoku150
       replace zH5 : Sl w.R w.W KW Au150_0 cu150_0 x149.Rects := zH5
       refine Tq.val (wg rfl rfl rfl) rfl (fun _ _ h1 h2 => zN zFm (h1.ev rfl) ze.form (h1.ev rfl) hx1490 hx1491) ?_
       refine Tq.val (wg rfl rfl rfl) rfl (fun _ _ h1 h2 => zB zB9 (h1.ev rfl)) ?_
       refine Tq.val (wg rfl rfl rfl) rfl (fun _ _ h1 h2 => zF zHZ (h1.ev rfl) (za.drop (rdR hRu150 hcu150 h2) 1) rfl) ?_
       refine Tq.val (wg rfl rfl rfl) rfl (fun _ _ h1 h2 => zB Vl (h1.ev rfl)) ?_
       refine Tq.val (wg rfl rfl rfl) rfl (fun _ _ h1 h2 => zF zBp (h1.ev rfl) (rdb h2 (vs := [(iv p1.Unit), (.slice zX p1.Tools.length zY), (.slice QL p1.Steps.length QJ)]) (k := 2) rfl 1) rfl) ?_
       refine Tq.val (wg rfl rfl rfl) rfl (fun _ _ h1 h2 => run_move (h1.ev rfl)) ?_
       obtain ⟨x151, hx151, H⟩ := bnd H
       obtain ⟨hx1510, hx1511, hx1512⟩ := zw hx151
       obtain ⟨u152, hRu152, hoku152, hcu152⟩ := (Qv).el hx1512
       obtain ⟨Au152_0, cu152_0⟩ := u152
       have zH4 := hoku152
       replace zH4 : Sl w.R w.W KW Au152_0 cu152_0 x151.Rects := zH4
       refine Tq.val (wg rfl rfl rfl) rfl (fun _ _ h1 h2 => zN zFm (h1.ev rfl) Qv.form (h1.ev rfl) hx1510 hx1511) ?_
       refine Tq.val (wg rfl rfl rfl) rfl (fun _ _ h1 h2 => zB zB9 (h1.ev rfl)) ?_
       refine Tq.val (wg rfl rfl rfl) rfl (fun _ _ h1 h2 => zF zHZ (h1.ev rfl) (za.drop (rdR hRu152 hcu152 h2) 1) rfl) ?_
       obtain ⟨y153, hy153, H⟩ := bnd H
       refine Tq.Qa (r := (.bool y153)) (wg rfl rfl rfl) rfl Tryz.call20 (zI rfl (zI rfl zT)) (fun W hW => zC4 N x149.Rects Au150_0 cu150_0 (zH5.ext hW.Qc) x151.Rects Au152_0 cu152_0 (zH4.ext hW.Qc) y153 hy153 (HF.start _)) ?_
       refine Tq.val (wg rfl rfl rfl) rfl (fun _ _ h1 h2 => Qb (h1.ev rfl)) ?_
       refine Tq.va rfl (fun _ _ h1 h2 => zV (h1.ev rfl) (h1.ev rfl)) ?_
       obtain rfl := Option.some.inj H
       exact Tq.fin (.cons rfl (.cons rfl (.cons rfl (.cons rfl .nil))))
      ·rw [hg153] at zDT
       rw [if_pos rfl] at zDT
       have H := zDT
       obtain rfl := Option.some.inj H
       refine Tq.pass rfl rfl rfl rfl rfl (by decide) ?_
       refine Tq.pass rfl rfl rfl rfl rfl (by decide) ?_
       refine Tq.pass rfl rfl rfl rfl rfl (by decide) ?_
       refine Tq.pass rfl rfl rfl rfl rfl (by decide) ?_
       refine Tq.pass rfl rfl rfl rfl rfl (by decide) ?_
       refine Tq.pass rfl rfl rfl rfl rfl (by decide) ?_
       refine Tq.pass rfl rfl rfl rfl rfl (by decide) ?_
       refine Tq.pass rfl rfl rfl rfl rfl (by decide) ?_
       refine Tq.pass rfl rfl rfl rfl rfl (by decide) ?_
       refine Tq.pass rfl rfl rfl rfl rfl (by decide) ?_
       refine Tq.pass rfl rfl rfl rfl rfl (by decide) ?_
       refine Tq.pass rfl rfl rfl rfl rfl (by decide) ?_
       refine Tq.pass rfl rfl rfl rfl rfl (by decide) ?_
       refine Tq.pass rfl rfl rfl rfl rfl (by decide) ?_
       refine Tq.va rfl (fun _ _ h1 h2 => zU (h1.ev rfl) (h1.ev rfl)) ?_
       exact Tq.fin (.cons rfl (.cons rfl (.cons rfl (.cons rfl .nil))))
     ·refine Tq.nil (Tr.zA (Tr.cond rfl H (fun H => ?_) (fun H => ?_)))
      ·refine Tr.sr (Tr.asg rfl rfl (Tr.nil (Tr.zA (Tr.ret (Tr.zW (Tr.zM (Tr.zM (Tr.zW (Tr.zM ?_)))))))))
       obtain rfl := Option.some.inj H
       exact Tr.out (m := [(.bool false)]) [] (zJ rfl zR) (fun W hW => ⟨rfl, hW.low leB⟩)
      ·refine Tr.skip (Tr.zi (Tr.zA (Tr.region (Tr.mv rfl rfl (Tr.va rfl (fun _ _ h1 h2 => QS (h1.ev rfl) (h1.ev rfl)) ?_)))))
       exact Tr.asg rfl rfl (Tr.nil (Tr.zb Qs (w64 (zAv + 1)) H (.cons rfl (.cons rfl (.cons rfl .nil))) (.cons rfl (.cons rfl .nil))))
    ·refine Tr.exit (Tr.zx (Tr.zx (Tr.Qd (Tr.zA (Tr.sr (Tr.asg rfl rfl (Tr.nil (Tr.zA (Tr.ret ?_)))))))))
     obtain rfl := Option.some.inj H
     exact Tr.out (m := [(.bool true)]) [] (zJ rfl zR) (fun W hW => ⟨rfl, hW.low leB⟩)

theorem zCE {w : Bs} (hT : Tab Tryz.prog w) (p0 : Int) (r : ByteArray) (H : zG9 p0 = some r) (hE : HF w w.W E0) : Calls Tryz.prog 12 [(iv p0)].toArray w.W fun e W' => e = .returned (sv r) ∧ HF w W' E0 :=
 itoaF_rule (ρ := Tryz.zJv) Tryz.itoa12 hT H hE

end Go.Proofs.YtokanbmnoghafaaGreatDoor
namespace Go.Proofs
open Go.Shelf
def Tryz.zIJ : Go.Shelf.Ren := ⟨fun | 166 => 11 | 240 => 29 | 276 => 51 | n => n, fun | 5 => 5 | 37 => 37 | 70 => 36 | 72 => 39 | 75 => 41 | 80 => 55 | 164 => 97 | n => n, fun n => n⟩
theorem Tryz.bld11 : Go.Proofs.Lays.n166 Tryz.prog Tryz.zIJ := {
 mixed := by kernel_rfl
 f166 := Tryz.func11.trans (congrArg some (by kernel_rfl))
 f240 := Tryz.func29.trans (congrArg some (by kernel_rfl))
 f276 := Tryz.func51.trans (congrArg some (by kernel_rfl))
 t0 := Tryz.underlying0
 a0 := Tryz.isAgg0
 z0 := Tryz.sizeOf0
 v0 := Tryz.zeroValue0
 t3 := Tryz.underlying3
 a3 := Tryz.isAgg3
 z3 := Tryz.sizeOf3
 v3 := Tryz.zeroValue3
 t4 := Tryz.underlying4
 a4 := Tryz.isAgg4
 z4 := Tryz.sizeOf4
 v4 := Tryz.zeroValue4
 t9 := Tryz.underlying9
 a9 := Tryz.isAgg9
 z9 := Tryz.sizeOf9
 v9 := Tryz.zeroValue9
 t20 := Tryz.underlying20
 a20 := Tryz.isAgg20
 z20 := Tryz.sizeOf20
 v20 := Tryz.zeroValue20
 t37 := Tryz.underlying37
 a37 := Tryz.isAgg37
 z37 := Tryz.sizeOf37
 v37 := Tryz.zeroValue37
 t70 := Tryz.underlying36
 a70 := Tryz.isAgg36
 z70 := Tryz.sizeOf36
 v70 := Tryz.zeroValue36
 t72 := Tryz.underlying39
 a72 := Tryz.isAgg39
 z72 := Tryz.sizeOf39
 v72 := Tryz.zeroValue39
 t75 := Tryz.underlying41
 a75 := Tryz.isAgg41
 z75 := Tryz.sizeOf41
 v75 := Tryz.zeroValue41
 t164 := Tryz.underlying97
 a164 := Tryz.isAgg97
 z164 := Tryz.sizeOf97
 v164 := Tryz.zeroValue97
}
end Go.Proofs
namespace Go.Proofs.YtokanbmnoghafaaGreatDoor
open Go.RowKit
theorem bX11 : Builder.Extra Tryz.prog Tryz.zIJ where
 sizeBuilder := by kernel_rfl
 liesBuilder := by kernel_rfl
 t5 := Tryz.underlying5
 a5 := Tryz.isAgg5
 z5 := Tryz.sizeOf5
 v5 := Tryz.zeroValue5
 infoByte := by kernel_rfl
 cellsByte := by kernel_rfl
 sizeByte := by kernel_rfl
 neB5 := by decide
theorem QD {w : Bs} (p0 : ByteArray) (zG : Option Addr) (zH : Nat) (bp0 : Nat) (p1 : ByteArray) (r : ByteArray) (H : sbW p0 p1 = some r) (hE : HF w w.W (LEn [sb 39 5 bp0 zG zH p0])) : Calls Tryz.prog 11 [(.pointer (some ⟨bp0, 0, none⟩)), .string p1].toArray w.W fun e W' => ∃ u : (Option Addr × Nat), e = .returned (.tuple #[.int .i64 p1.size, .nilIface]) ∧ (True) ∧ HF w W' (LEn [sb 39 5 bp0 u.1 u.2 r]) :=
 sb_write (ρ := Tryz.zIJ) Tryz.bld11 bX11 H hE

theorem Wj {w : Bs} (hT : Tab Tryz.prog w) (p0 : (List zf)) (zG : Option Addr) (zH : Nat) (ze : Sl w.R w.W QM zG zH p0) (r : ByteArray) (H : WZ p0 = some r) (hE : HF w w.W E0) : Calls Tryz.prog 13 [(.slice zG p0.length zH)].toArray w.W fun e W' => e = .returned (sv r) ∧ HF w W' E0 := by
 unfold WZ at H
 have leB := Bs.Le.refl w
 refine Tr.enter (n := 25) Tryz.func13 rfl rfl rfl hE ?_
 refine Tr.sr (Tr.asg rfl rfl (Tr.nil (Tr.zA (Tr.sr (Tr.asg rfl rfl (Tr.nil (Tr.zA (Tr.seq (Tr.sr (Tr.mv rfl rfl ?_))))))))))
 refine Tr.va rfl (fun _ _ h1 h2 => QG zCM (h1.ev rfl)) ?_
 refine Tr.mv rfl rfl (Tr.nil (Tr.zA (Tr.block (Tr.loop (σ := (List zf) × Nat × ByteArray) (fun m w s => m = s.1.length + 1 ∧ s.1 = List.drop s.2.1 p0 ∧ s.2.1 ≤ p0.length ∧ Wl s.1 s.2.1 s.2.2 = some r) (fun s => [(3, (sv s.2.2)), (6, (.slice zG p0.length zH)), (7, (iv (p0.length : Int))), (8, (iv (s.2.1 : Int)))]) (fun s => []) (p0.length + 1) (p0, 0, ⟨#[]⟩) ⟨rfl, rfl, Nat.zero_le _, H⟩ (.cons rfl (.cons rfl (.cons rfl (.cons rfl .nil)))) .nil (fun _ _ h => absurd h.1 (by simp)) ?_))))
 intro w Qs m s hs
 obtain ⟨zz, iL1, zGo⟩ := s
 obtain ⟨zAe, Qt, hiL1, H⟩ := hs
 replace Qt : zz = List.drop iL1 p0 := Qt
 replace H : Wl zz iL1 zGo = some r := H
 replace zAe : m + 1 = zz.length + 1 := zAe
 replace hT := hT.ext Qs.ext
 replace ze := ze.leR Qs
 replace leB := leB.trans Qs
 obtain rfl : m = zz.length := by omega
 clear zAe
 show Tr _ _ (LF [(3, (sv zGo)), (6, (.slice zG p0.length zH)), (7, (iv (p0.length : Int))), (8, (iv (iL1 : Int)))]) (LE []) _
 cases zz with
 | nil =>
  rw [Wl.eq_1] at H
  refine Tr.sr (Tr.va rfl (fun _ _ h1 h2 => QV (h1.ev rfl) (h1.ev rfl)) ?_)
  refine Tr.nil (Tr.zA (Tr.seq (Tr.zDV rfl (Wh Qt) ?_)))
  refine Tr.exit (Tr.zx (Tr.zx (Tr.Qd (Tr.zA (Tr.sr (Tr.mv rfl rfl (Tr.asg rfl rfl (Tr.nil (Tr.zA (Tr.ret ?_))))))))))
  obtain rfl := Option.some.inj H
  exact Tr.out (m := [(sv zGo)]) [] (zJ rfl zR) (fun W hW => ⟨rfl, hW.low leB⟩)
 | cons xL1 zz =>
  rw [Wl.eq_2] at H
  refine Tr.sr (Tr.va rfl (fun _ _ h1 h2 => QV (h1.ev rfl) (h1.ev rfl)) ?_)
  refine Tr.nil (Tr.zA (Tr.seq (Tr.zC7 rfl (zAL Qt) ?_)))
  refine Tr.skip (Tr.zA (Tr.seq (Tr.block (Tr.sr (Tr.va rfl (fun _ _ h1 h2 => zN zHN (h1.ev rfl) ze.form (h1.ev rfl) (Int.natCast_nonneg _) (Qz Qt)) ?_)))))
  refine Tr.va rfl (fun _ _ h1 h2 => zu (cs := [(iv xL1.X), (iv xL1.Y)]) zBo Wx (h1.ev rfl) (za.take (rdF zBJ ze (zAM Qt) h2) 2) rfl) ?_
  refine Tr.alloc 3 (wn rfl) rfl zJQ fun b123 => ?_
  refine Tr.store 3 (cs := [(iv xL1.X), (iv xL1.Y)]) [(iv xL1.X), (iv xL1.Y)] (wn rfl) rfl rfl rfl rfl Wx rfl rfl rfl ?_
  refine Tr.nil (Tr.zA (Tr.draw (by kernel_rfl) (by kernel_rfl) ?_))
  refine Tq.mv rfl rfl (Tq.va rfl (fun _ _ h1 h2 => zB zE4 (h1.ev rfl)) ?_)
  refine Tq.va rfl (fun _ _ h1 h2 => zF Qu (h1.ev rfl) (rdb h2 (vs := [(iv xL1.X), (iv xL1.Y)]) (k := 3) rfl 0) rfl) ?_
  obtain ⟨y124, hy124, H⟩ := bnd H
  refine Tq.Qa (r := (sv y124)) (wn rfl) rfl Tryz.call12 (zI rfl zT) (fun W hW => zCE (hT.ext hW.Qc) xL1.X y124 hy124 (HF.start _)) ?_
  obtain ⟨t125, ht125, H⟩ := bnd H
  refine Tq.va rfl (fun _ _ h1 h2 => Va (h1.ev rfl) (h1.ev rfl) ht125) ?_
  obtain ⟨t126, ht126, H⟩ := bnd H
  refine Tq.va rfl (fun _ _ h1 h2 => Va (h1.ev rfl) (h1.ev rfl) ht126) ?_
  refine Tq.va rfl (fun _ _ h1 h2 => zB zE3 (h1.ev rfl)) ?_
  refine Tq.va rfl (fun _ _ h1 h2 => zF Qu (h1.ev rfl) (rdb h2 (vs := [(iv xL1.X), (iv xL1.Y)]) (k := 3) rfl 1) rfl) ?_
  obtain ⟨y127, hy127, H⟩ := bnd H
  refine Tq.Qa (r := (sv y127)) (wn rfl) rfl Tryz.call12 (zI rfl zT) (fun W hW => zCE (hT.ext hW.Qc) xL1.Y y127 hy127 (HF.start _)) ?_
  obtain ⟨t128, ht128, H⟩ := bnd H
  refine Tq.va rfl (fun _ _ h1 h2 => Va (h1.ev rfl) (h1.ev rfl) ht128) ?_
  obtain ⟨t129, ht129, H⟩ := bnd H
  refine Tq.va rfl (fun _ _ h1 h2 => Va (h1.ev rfl) (h1.ev rfl) ht129) ?_
  refine Tq.asg rfl rfl (Tq.nil (Tr.zi (Tr.zA (Tr.region (Tr.va rfl (fun _ _ h1 h2 => QS (h1.ev rfl) (h1.ev rfl)) ?_)))))
  exact Tr.mv rfl rfl (Tr.nil (Tr.zb Qs (zz, (iL1 + 1), t129) ⟨rfl, VN Qt, Qz Qt, H⟩ (.cons rfl (.cons rfl (.cons rfl (.cons (congrArg (fun z => some (Value.int .i64 z)) (VM Qt ze.form)) .nil)))) .nil))

theorem zFC (N : Nat) (rec : ByteArray → (List zD) → Option ByteArray) (hrec : ∀ {w : Bs} (hT : Tab Tryz.prog w) (p0 : ByteArray) (zG : Option Addr) (zH : Nat) (bp0 : Nat) (p1 : (List zD)) (zX : Option Addr) (zY : Nat) (Qv : Sl w.R w.W zC zX zY p1) (r : ByteArray) (H : rec p0 p1 = some r) (hE : HF w w.W (LEn [sb 39 5 bp0 zG zH p0])), Calls Tryz.prog 14 [(.pointer (some ⟨bp0, 0, none⟩)), (.slice zX p1.length zY)].toArray w.W fun e W' => ∃ u : (Option Addr × Nat), e = .returned (.tuple #[]) ∧ (True) ∧ HF w W' (LEn [sb 39 5 bp0 u.1 u.2 r])) {w : Bs} (hT : Tab Tryz.prog w) (p0 : ByteArray) (zG : Option Addr) (zH : Nat) (bp0 : Nat) (p1 : (List zD)) (zX : Option Addr) (zY : Nat) (Qv : Sl w.R w.W zC zX zY p1) (r : ByteArray) (H : zBU N rec p0 p1 = some r) (hE : HF w w.W (LEn [sb 39 5 bp0 zG zH p0])) : Calls Tryz.prog 14 [(.pointer (some ⟨bp0, 0, none⟩)), (.slice zX p1.length zY)].toArray w.W fun e W' => ∃ u : (Option Addr × Nat), e = .returned (.tuple #[]) ∧ (True) ∧ HF w W' (LEn [sb 39 5 bp0 u.1 u.2 r]) := by
 unfold zBU at H
 have leB := Bs.Le.refl w
 refine Tr.enter (n := 91) Tryz.func14 rfl rfl rfl hE ?_
 refine Tr.sr (Tr.mv rfl rfl (Tr.va rfl (fun _ _ h1 h2 => QG zBx (h1.ev rfl)) ?_))
 refine Tr.mv rfl rfl (Tr.nil (Tr.zA (Tr.block (Tr.loop (σ := (List zD) × Nat × ByteArray × (Option Addr) × Nat) (fun m w s => m = s.1.length + 1 ∧ s.1 = List.drop s.2.1 p1 ∧ s.2.1 ≤ p1.length ∧ Qi rec s.1 s.2.1 s.2.2.1 = some r) (fun s => [(0, (.pointer (some ⟨bp0, 0, none⟩))), (6, (.slice zX p1.length zY)), (7, (iv (p1.length : Int))), (8, (iv (s.2.1 : Int)))]) (fun s => [(0, sb 39 5 bp0 s.2.2.2.1 s.2.2.2.2 s.2.2.1)]) (p1.length + 1) (p1, 0, p0, zG, zH) ⟨rfl, rfl, Nat.zero_le _, H⟩ (.cons rfl (.cons rfl (.cons rfl (.cons rfl .nil)))) (.cons rfl .nil) (fun _ _ h => absurd h.1 (by simp)) ?_))))
 intro w Qs m s hs
 obtain ⟨zz, iL1, m194, Am194, cm194⟩ := s
 obtain ⟨zAe, Qt, hiL1, H⟩ := hs
 replace Qt : zz = List.drop iL1 p1 := Qt
 replace H : Qi rec zz iL1 m194 = some r := H
 replace zAe : m + 1 = zz.length + 1 := zAe
 replace hT := hT.ext Qs.ext
 replace Qv := Qv.leR Qs
 replace leB := leB.trans Qs
 obtain rfl : m = zz.length := by omega
 clear zAe
 show Tr _ _ (LF [(0, (.pointer (some ⟨bp0, 0, none⟩))), (6, (.slice zX p1.length zY)), (7, (iv (p1.length : Int))), (8, (iv (iL1 : Int)))]) (LE [(0, sb 39 5 bp0 Am194 cm194 m194)]) _
 cases zz with
 | nil =>
  rw [Qi.eq_1] at H
  refine Tr.sr (Tr.va rfl (fun _ _ h1 h2 => QV (h1.ev rfl) (h1.ev rfl)) ?_)
  refine Tr.nil (Tr.zA (Tr.seq (Tr.zDV rfl (Wh Qt) ?_)))
  refine Tr.exit (Tr.zx (Tr.zx (Tr.Qd (Tr.zJn ?_))))
  obtain rfl := Option.some.inj H
  exact Tr.out (m := []) [] zR (fun W hW => ⟨(Am194, cm194), rfl, trivial, HF.zH0 leB (hW.pick (ks := [0]) (by decide) (zO rfl QH)) ⟨sb_any, trivial⟩⟩)
 | cons xL1 zz =>
  rw [Qi.eq_2] at H
  refine Tr.sr (Tr.va rfl (fun _ _ h1 h2 => QV (h1.ev rfl) (h1.ev rfl)) ?_)
  refine Tr.nil (Tr.zA (Tr.seq (Tr.zC7 rfl (zAL Qt) ?_)))
  refine Tr.skip (Tr.zA (Tr.seq (Tr.block (Tr.sr ?_))))
  obtain ⟨u195, hRu195, hoku195, hcu195⟩ := (Qv).el (zAM Qt)
  obtain ⟨⟨zAl, zAg⟩, ⟨zAk, zAf⟩⟩ := u195
  obtain ⟨zH2, zH1⟩ := Jc.1 hoku195
  replace zH2 : Sl w.R w.W QM zAl zAg xL1.Points := zH2
  replace zH1 : Sl w.R w.W zC zAk zAf xL1.Steps := zH1
  refine Tr.va rfl (fun _ _ h1 h2 => zN zDt (h1.ev rfl) Qv.form (h1.ev rfl) (Int.natCast_nonneg _) (Qz Qt)) ?_
  refine Tr.va rfl (fun _ _ h1 h2 => zu (cs := [(iv xL1.Kind), (sv xL1.Name), (iv xL1.At.X), (iv xL1.At.Y), (.slice zAl xL1.Points.length zAg), (iv xL1.NX), (iv xL1.NY), (.slice zAk xL1.Steps.length zAf)]) zDA Wo (h1.ev rfl) (za.take (rdR hRu195 hcu195 h2) 8) rfl) ?_
  refine Tr.alloc 11 (wn rfl) rfl zGG fun b196 => ?_
  refine Tr.store 11 (cs := [(iv xL1.Kind), (sv xL1.Name), (iv xL1.At.X), (iv xL1.At.Y), (.slice zAl xL1.Points.length zAg), (iv xL1.NX), (iv xL1.NY), (.slice zAk xL1.Steps.length zAf)]) [(iv xL1.Kind), (sv xL1.Name), (iv xL1.At.X), (iv xL1.At.Y), (.slice zAl xL1.Points.length zAg), (iv xL1.NX), (iv xL1.NY), (.slice zAk xL1.Steps.length zAf)] (wn rfl) rfl rfl rfl rfl Wo rfl rfl rfl ?_
  refine Tr.nil (Tr.zA (Tr.sr (Tr.va rfl (fun _ _ h1 h2 => zB zBd (h1.ev rfl)) ?_)))
  refine Tr.va rfl (fun _ _ h1 h2 => zF Qu (h1.ev rfl) (rdb h2 (vs := [(iv xL1.Kind), (sv xL1.Name), (iv xL1.At.X), (iv xL1.At.Y), (.slice zAl xL1.Points.length zAg), (iv xL1.NX), (iv xL1.NY), (.slice zAk xL1.Steps.length zAf)]) (k := 11) rfl 0) rfl) ?_
  refine Tr.nil (Tr.zA (Tr.block (Tr.sr (Tr.va rfl (fun _ _ h1 h2 => QY (h1.ev rfl) (h1.ev rfl)) ?_))))
  refine Tr.asg rfl rfl (Tr.nil (Tr.zA (Tr.cond rfl H (fun H => ?_) (fun H => ?_))))
  ·refine Tr.region (Tr.mv rfl rfl ?_)
   obtain ⟨y197, hy197, H⟩ := bnd H
   refine Tr.zAC [0] [sb 39 5 bp0 Am194 cm194 m194] (U := (Option Addr × Nat)) (fun u => (.tuple #[(iv (((⟨#[100, 97, 114, 107, 10]⟩) : ByteArray).size : Int)), .nilIface])) (fun u => True) (fun u => [sb 39 5 bp0 u.1 u.2 y197]) rfl (zO rfl QH) (fun _ => rfl) (wn rfl) rfl Tryz.call11 (zI rfl (zI rfl zT)) (fun W hW hp hE => QD m194 Am194 cm194 bp0 (⟨#[100, 97, 114, 107, 10]⟩) y197 hy197 hE) ?_
   intro u hu
   obtain ⟨Ay197_0, cy197_0⟩ := u
   have gy197_0 := hu
   have hgy197_0 : True := gy197_0 --@phi
   show Tr _ _ (uf _ 17 (.tuple #[(iv (((⟨#[100, 97, 114, 107, 10]⟩) : ByteArray).size : Int)), .nilIface])) (up _ 0 (sb 39 5 bp0 Ay197_0 cy197_0 y197)) _
   refine Tr.nil (Tr.zi (Tr.zi (Tr.zA (Tr.region (Tr.va rfl (fun _ _ h1 h2 => QS (h1.ev rfl) (h1.ev rfl)) ?_)))))
   exact Tr.mv rfl rfl (Tr.nil (Tr.zb Qs (zz, (iL1 + 1), y197, Ay197_0, cy197_0) ⟨rfl, VN Qt, Qz Qt, H⟩ (.cons rfl (.cons rfl (.cons rfl (.cons (congrArg (fun z => some (Value.int .i64 z)) (VM Qt Qv.form)) .nil)))) (.cons rfl .nil)))
  ·refine Tr.sr (Tr.va rfl (fun _ _ h1 h2 => QY (h1.ev rfl) (h1.ev rfl)) ?_)
   refine Tr.asg rfl rfl (Tr.nil (Tr.zA (Tr.cond rfl H (fun H => ?_) (fun H => ?_))))
   ·refine Tr.region (Tr.mv rfl rfl ?_)
    obtain ⟨y199, hy199, H⟩ := bnd H
    refine Tr.zAC [0] [sb 39 5 bp0 Am194 cm194 m194] (U := (Option Addr × Nat)) (fun u => (.tuple #[(iv (((⟨#[99, 108, 101, 97, 114, 10]⟩) : ByteArray).size : Int)), .nilIface])) (fun u => True) (fun u => [sb 39 5 bp0 u.1 u.2 y199]) rfl (zO rfl QH) (fun _ => rfl) (wn rfl) rfl Tryz.call11 (zI rfl (zI rfl zT)) (fun W hW hp hE => QD m194 Am194 cm194 bp0 (⟨#[99, 108, 101, 97, 114, 10]⟩) y199 hy199 hE) ?_
    intro u hu
    obtain ⟨Ay199_0, cy199_0⟩ := u
    have gy199_0 := hu
    have hgy199_0 : True := gy199_0 --@phi
    show Tr _ _ (uf _ 21 (.tuple #[(iv (((⟨#[99, 108, 101, 97, 114, 10]⟩) : ByteArray).size : Int)), .nilIface])) (up _ 0 (sb 39 5 bp0 Ay199_0 cy199_0 y199)) _
    refine Tr.nil (Tr.zi (Tr.zi (Tr.zA (Tr.region (Tr.va rfl (fun _ _ h1 h2 => QS (h1.ev rfl) (h1.ev rfl)) ?_)))))
    exact Tr.mv rfl rfl (Tr.nil (Tr.zb Qs (zz, (iL1 + 1), y199, Ay199_0, cy199_0) ⟨rfl, VN Qt, Qz Qt, H⟩ (.cons rfl (.cons rfl (.cons rfl (.cons (congrArg (fun z => some (Value.int .i64 z)) (VM Qt Qv.form)) .nil)))) (.cons rfl .nil)))
   ·refine Tr.sr (Tr.va rfl (fun _ _ h1 h2 => QY (h1.ev rfl) (h1.ev rfl)) ?_)
    refine Tr.asg rfl rfl (Tr.nil (Tr.zA (Tr.cond rfl H (fun H => ?_) (fun H => ?_))))
    ·refine Tr.region (Tr.mv rfl rfl (Tr.va rfl (fun _ _ h1 h2 => zB zE1 (h1.ev rfl)) ?_))
     refine Tr.va rfl (fun _ _ h1 h2 => zF zAR (h1.ev rfl) (rdb h2 (vs := [(iv xL1.Kind), (sv xL1.Name), (iv xL1.At.X), (iv xL1.At.Y), (.slice zAl xL1.Points.length zAg), (iv xL1.NX), (iv xL1.NY), (.slice zAk xL1.Steps.length zAf)]) (k := 11) rfl 1) rfl) ?_
     obtain ⟨t201, ht201, H⟩ := bnd H
     refine Tr.va rfl (fun _ _ h1 h2 => Va (h1.ev rfl) (h1.ev rfl) ht201) ?_
     obtain ⟨t202, ht202, H⟩ := bnd H
     refine Tr.va rfl (fun _ _ h1 h2 => Va (h1.ev rfl) (h1.ev rfl) ht202) ?_
     obtain ⟨y203, hy203, H⟩ := bnd H
     refine Tr.zAC [0] [sb 39 5 bp0 Am194 cm194 m194] (U := (Option Addr × Nat)) (fun u => (.tuple #[(iv ((t202 : ByteArray).size : Int)), .nilIface])) (fun u => True) (fun u => [sb 39 5 bp0 u.1 u.2 y203]) rfl (zO rfl QH) (fun _ => rfl) (wn rfl) rfl Tryz.call11 (zI rfl (zI rfl zT)) (fun W hW hp hE => QD m194 Am194 cm194 bp0 t202 y203 hy203 hE) ?_
     intro u hu
     obtain ⟨Ay203_0, cy203_0⟩ := u
     have gy203_0 := hu
     have hgy203_0 : True := gy203_0 --@phi
     show Tr _ _ (uf _ 29 (.tuple #[(iv ((t202 : ByteArray).size : Int)), .nilIface])) (up _ 0 (sb 39 5 bp0 Ay203_0 cy203_0 y203)) _
     refine Tr.nil (Tr.zi (Tr.zi (Tr.zA (Tr.region (Tr.va rfl (fun _ _ h1 h2 => QS (h1.ev rfl) (h1.ev rfl)) ?_)))))
     exact Tr.mv rfl rfl (Tr.nil (Tr.zb Qs (zz, (iL1 + 1), y203, Ay203_0, cy203_0) ⟨rfl, VN Qt, Qz Qt, H⟩ (.cons rfl (.cons rfl (.cons rfl (.cons (congrArg (fun z => some (Value.int .i64 z)) (VM Qt Qv.form)) .nil)))) (.cons rfl .nil)))
    ·refine Tr.sr (Tr.va rfl (fun _ _ h1 h2 => QY (h1.ev rfl) (h1.ev rfl)) ?_)
     refine Tr.asg rfl rfl (Tr.nil (Tr.zA (Tr.cond rfl H (fun H => ?_) (fun H => ?_))))
     ·refine Tr.region (Tr.mv rfl rfl (Tr.va rfl (fun _ _ h1 h2 => zB zBH (h1.ev rfl)) ?_))
      refine Tr.va rfl (fun _ _ h1 h2 => zu (cs := [(iv xL1.At.X), (iv xL1.At.Y)]) zBo Wx (h1.ev rfl) (za.take (rdb h2 (vs := [(iv xL1.Kind), (sv xL1.Name), (iv xL1.At.X), (iv xL1.At.Y), (.slice zAl xL1.Points.length zAg), (iv xL1.NX), (iv xL1.NY), (.slice zAk xL1.Steps.length zAf)]) (k := 11) rfl 2) 2) rfl) ?_
      refine Tr.buildSlice 12 (e := 52) (vs := [(0, (.agg #[(iv xL1.At.X), (iv xL1.At.Y)]))]) (cs := [(iv xL1.At.X), (iv xL1.At.Y)]) (wn rfl) rfl (QE rfl Qj) (by kernel_rfl) fun b205 => ?_
      refine Tr.own 12 QM [xL1.At] (css := [[(iv xL1.At.X), (iv xL1.At.Y)]]) rfl (.cons ⟨(), trivial, rfl⟩ .nil) rfl (by decide) (zF1 rfl) ?_
      obtain ⟨y206, hy206, H⟩ := bnd H
      refine Tr.Qa (r := (sv y206)) (wn rfl) rfl Tryz.call13 (zI rfl zT) (fun W hW => Wj (hT.ext hW.Qc) [xL1.At] (some ⟨b205, 0, none⟩) 1 (hW.zBy (k := 12) rfl) y206 hy206 (HF.start _)) ?_
      obtain ⟨t207, ht207, H⟩ := bnd H
      refine Tr.va rfl (fun _ _ h1 h2 => Va (h1.ev rfl) (h1.ev rfl) ht207) ?_
      obtain ⟨t208, ht208, H⟩ := bnd H
      refine Tr.va rfl (fun _ _ h1 h2 => Va (h1.ev rfl) (h1.ev rfl) ht208) ?_
      obtain ⟨zHm, hy209, H⟩ := bnd H
      refine Tr.zAC [0] [sb 39 5 bp0 Am194 cm194 m194] (U := (Option Addr × Nat)) (fun u => (.tuple #[(iv ((t208 : ByteArray).size : Int)), .nilIface])) (fun u => True) (fun u => [sb 39 5 bp0 u.1 u.2 zHm]) rfl (zO rfl QH) (fun _ => rfl) (wn rfl) rfl Tryz.call11 (zI rfl (zI rfl zT)) (fun W hW hp hE => QD m194 Am194 cm194 bp0 t208 zHm hy209 hE) ?_
      intro u hu
      obtain ⟨zHh, zHO⟩ := u
      have gy209_0 := hu
      have hgy209_0 : True := gy209_0 --@phi
      show Tr _ _ (uf _ 39 (.tuple #[(iv ((t208 : ByteArray).size : Int)), .nilIface])) (up _ 0 (sb 39 5 bp0 zHh zHO zHm)) _
      refine Tr.nil (Tr.zi (Tr.zi (Tr.zA (Tr.region (Tr.va rfl (fun _ _ h1 h2 => QS (h1.ev rfl) (h1.ev rfl)) ?_)))))
      exact Tr.mv rfl rfl (Tr.nil (Tr.zb Qs (zz, (iL1 + 1), zHm, zHh, zHO) ⟨rfl, VN Qt, Qz Qt, H⟩ (.cons rfl (.cons rfl (.cons rfl (.cons (congrArg (fun z => some (Value.int .i64 z)) (VM Qt Qv.form)) .nil)))) (.cons rfl .nil)))
     ·refine Tr.sr (Tr.va rfl (fun _ _ h1 h2 => QY (h1.ev rfl) (h1.ev rfl)) ?_)
      refine Tr.asg rfl rfl (Tr.nil (Tr.zA (Tr.cond rfl H (fun H => ?_) (fun H => ?_))))
      ·refine Tr.region (Tr.mv rfl rfl (Tr.va rfl (fun _ _ h1 h2 => zB zBH (h1.ev rfl)) ?_))
       refine Tr.va rfl (fun _ _ h1 h2 => zu (cs := [(iv xL1.At.X), (iv xL1.At.Y)]) zBo Wx (h1.ev rfl) (za.take (rdb h2 (vs := [(iv xL1.Kind), (sv xL1.Name), (iv xL1.At.X), (iv xL1.At.Y), (.slice zAl xL1.Points.length zAg), (iv xL1.NX), (iv xL1.NY), (.slice zAk xL1.Steps.length zAf)]) (k := 11) rfl 2) 2) rfl) ?_
       refine Tr.buildSlice 13 (e := 52) (vs := [(0, (.agg #[(iv xL1.At.X), (iv xL1.At.Y)]))]) (cs := [(iv xL1.At.X), (iv xL1.At.Y)]) (wn rfl) rfl (QE rfl Qj) (by kernel_rfl) fun b211 => ?_
       refine Tr.own 13 QM [xL1.At] (css := [[(iv xL1.At.X), (iv xL1.At.Y)]]) rfl (.cons ⟨(), trivial, rfl⟩ .nil) rfl (by decide) (zF1 rfl) ?_
       obtain ⟨y212, hy212, H⟩ := bnd H
       refine Tr.Qa (r := (sv y212)) (wn rfl) rfl Tryz.call13 (zI rfl zT) (fun W hW => Wj (hT.ext hW.Qc) [xL1.At] (some ⟨b211, 0, none⟩) 1 (hW.zBy (k := 13) rfl) y212 hy212 (HF.start _)) ?_
       obtain ⟨t213, ht213, H⟩ := bnd H
       refine Tr.va rfl (fun _ _ h1 h2 => Va (h1.ev rfl) (h1.ev rfl) ht213) ?_
       obtain ⟨t214, ht214, H⟩ := bnd H
       refine Tr.va rfl (fun _ _ h1 h2 => Va (h1.ev rfl) (h1.ev rfl) ht214) ?_
       obtain ⟨y215, hy215, H⟩ := bnd H
       refine Tr.zAC [0] [sb 39 5 bp0 Am194 cm194 m194] (U := (Option Addr × Nat)) (fun u => (.tuple #[(iv ((t214 : ByteArray).size : Int)), .nilIface])) (fun u => True) (fun u => [sb 39 5 bp0 u.1 u.2 y215]) rfl (zO rfl QH) (fun _ => rfl) (wn rfl) rfl Tryz.call11 (zI rfl (zI rfl zT)) (fun W hW hp hE => QD m194 Am194 cm194 bp0 t214 y215 hy215 hE) ?_
       intro u hu
       obtain ⟨Ay215_0, cy215_0⟩ := u
       have gy215_0 := hu
       have hgy215_0 : True := gy215_0 --@phi
       show Tr _ _ (uf _ 49 (.tuple #[(iv ((t214 : ByteArray).size : Int)), .nilIface])) (up _ 0 (sb 39 5 bp0 Ay215_0 cy215_0 y215)) _
       refine Tr.nil (Tr.zi (Tr.zi (Tr.zA (Tr.region (Tr.va rfl (fun _ _ h1 h2 => QS (h1.ev rfl) (h1.ev rfl)) ?_)))))
       exact Tr.mv rfl rfl (Tr.nil (Tr.zb Qs (zz, (iL1 + 1), y215, Ay215_0, cy215_0) ⟨rfl, VN Qt, Qz Qt, H⟩ (.cons rfl (.cons rfl (.cons rfl (.cons (congrArg (fun z => some (Value.int .i64 z)) (VM Qt Qv.form)) .nil)))) (.cons rfl .nil)))
      ·refine Tr.sr (Tr.va rfl (fun _ _ h1 h2 => QY (h1.ev rfl) (h1.ev rfl)) ?_)
       refine Tr.asg rfl rfl (Tr.nil (Tr.zA (Tr.cond rfl H (fun H => ?_) (fun H => ?_))))
       ·refine Tr.region (Tr.mv rfl rfl (Tr.va rfl (fun _ _ h1 h2 => zB zBH (h1.ev rfl)) ?_))
        refine Tr.va rfl (fun _ _ h1 h2 => zu (cs := [(iv xL1.At.X), (iv xL1.At.Y)]) zBo Wx (h1.ev rfl) (za.take (rdb h2 (vs := [(iv xL1.Kind), (sv xL1.Name), (iv xL1.At.X), (iv xL1.At.Y), (.slice zAl xL1.Points.length zAg), (iv xL1.NX), (iv xL1.NY), (.slice zAk xL1.Steps.length zAf)]) (k := 11) rfl 2) 2) rfl) ?_
        refine Tr.buildSlice 14 (e := 52) (vs := [(0, (.agg #[(iv xL1.At.X), (iv xL1.At.Y)]))]) (cs := [(iv xL1.At.X), (iv xL1.At.Y)]) (wn rfl) rfl (QE rfl Qj) (by kernel_rfl) fun b217 => ?_
        refine Tr.own 14 QM [xL1.At] (css := [[(iv xL1.At.X), (iv xL1.At.Y)]]) rfl (.cons ⟨(), trivial, rfl⟩ .nil) rfl (by decide) (zF1 rfl) ?_
        obtain ⟨y218, hy218, H⟩ := bnd H
        refine Tr.Qa (r := (sv y218)) (wn rfl) rfl Tryz.call13 (zI rfl zT) (fun W hW => Wj (hT.ext hW.Qc) [xL1.At] (some ⟨b217, 0, none⟩) 1 (hW.zBy (k := 14) rfl) y218 hy218 (HF.start _)) ?_
        obtain ⟨t219, ht219, H⟩ := bnd H
        refine Tr.va rfl (fun _ _ h1 h2 => Va (h1.ev rfl) (h1.ev rfl) ht219) ?_
        obtain ⟨t220, ht220, H⟩ := bnd H
        refine Tr.va rfl (fun _ _ h1 h2 => Va (h1.ev rfl) (h1.ev rfl) ht220) ?_
        obtain ⟨y221, hy221, H⟩ := bnd H
        refine Tr.zAC [0] [sb 39 5 bp0 Am194 cm194 m194] (U := (Option Addr × Nat)) (fun u => (.tuple #[(iv ((t220 : ByteArray).size : Int)), .nilIface])) (fun u => True) (fun u => [sb 39 5 bp0 u.1 u.2 y221]) rfl (zO rfl QH) (fun _ => rfl) (wn rfl) rfl Tryz.call11 (zI rfl (zI rfl zT)) (fun W hW hp hE => QD m194 Am194 cm194 bp0 t220 y221 hy221 hE) ?_
        intro u hu
        obtain ⟨Ay221_0, cy221_0⟩ := u
        have gy221_0 := hu
        have hgy221_0 : True := gy221_0 --@phi
        show Tr _ _ (uf _ 59 (.tuple #[(iv ((t220 : ByteArray).size : Int)), .nilIface])) (up _ 0 (sb 39 5 bp0 Ay221_0 cy221_0 y221)) _
        refine Tr.nil (Tr.zi (Tr.zi (Tr.zA (Tr.region (Tr.va rfl (fun _ _ h1 h2 => QS (h1.ev rfl) (h1.ev rfl)) ?_)))))
        exact Tr.mv rfl rfl (Tr.nil (Tr.zb Qs (zz, (iL1 + 1), y221, Ay221_0, cy221_0) ⟨rfl, VN Qt, Qz Qt, H⟩ (.cons rfl (.cons rfl (.cons rfl (.cons (congrArg (fun z => some (Value.int .i64 z)) (VM Qt Qv.form)) .nil)))) (.cons rfl .nil)))
       ·refine Tr.sr (Tr.va rfl (fun _ _ h1 h2 => QY (h1.ev rfl) (h1.ev rfl)) ?_)
        refine Tr.asg rfl rfl (Tr.nil (Tr.zA (Tr.cond rfl H (fun H => ?_) (fun H => ?_))))
        ·refine Tr.region (Tr.mv rfl rfl (Tr.va rfl (fun _ _ h1 h2 => zB zBG (h1.ev rfl)) ?_))
         refine Tr.va rfl (fun _ _ h1 h2 => zF zFs (h1.ev rfl) (rdb h2 (vs := [(iv xL1.Kind), (sv xL1.Name), (iv xL1.At.X), (iv xL1.At.Y), (.slice zAl xL1.Points.length zAg), (iv xL1.NX), (iv xL1.NY), (.slice zAk xL1.Steps.length zAf)]) (k := 11) rfl 4) rfl) ?_
         obtain ⟨y223, hy223, H⟩ := bnd H
         refine Tr.Qa (r := (sv y223)) (wn rfl) rfl Tryz.call13 (zI rfl zT) (fun W hW => Wj (hT.ext hW.Qc) xL1.Points zAl zAg (zH2.ext hW.Qc) y223 hy223 (HF.start _)) ?_
         obtain ⟨t224, ht224, H⟩ := bnd H
         refine Tr.va rfl (fun _ _ h1 h2 => Va (h1.ev rfl) (h1.ev rfl) ht224) ?_
         obtain ⟨t225, ht225, H⟩ := bnd H
         refine Tr.va rfl (fun _ _ h1 h2 => Va (h1.ev rfl) (h1.ev rfl) ht225) ?_
         obtain ⟨y226, hy226, H⟩ := bnd H
         refine Tr.zAC [0] [sb 39 5 bp0 Am194 cm194 m194] (U := (Option Addr × Nat)) (fun u => (.tuple #[(iv ((t225 : ByteArray).size : Int)), .nilIface])) (fun u => True) (fun u => [sb 39 5 bp0 u.1 u.2 y226]) rfl (zO rfl QH) (fun _ => rfl) (wn rfl) rfl Tryz.call11 (zI rfl (zI rfl zT)) (fun W hW hp hE => QD m194 Am194 cm194 bp0 t225 y226 hy226 hE) ?_
         intro u hu
         obtain ⟨Ay226_0, cy226_0⟩ := u
         have gy226_0 := hu
         have hgy226_0 : True := gy226_0 --@phi
         show Tr _ _ (uf _ 68 (.tuple #[(iv ((t225 : ByteArray).size : Int)), .nilIface])) (up _ 0 (sb 39 5 bp0 Ay226_0 cy226_0 y226)) _
         refine Tr.nil (Tr.zi (Tr.zi (Tr.zA (Tr.region (Tr.va rfl (fun _ _ h1 h2 => QS (h1.ev rfl) (h1.ev rfl)) ?_)))))
         exact Tr.mv rfl rfl (Tr.nil (Tr.zb Qs (zz, (iL1 + 1), y226, Ay226_0, cy226_0) ⟨rfl, VN Qt, Qz Qt, H⟩ (.cons rfl (.cons rfl (.cons rfl (.cons (congrArg (fun z => some (Value.int .i64 z)) (VM Qt Qv.form)) .nil)))) (.cons rfl .nil)))
        ·refine Tr.sr (Tr.va rfl (fun _ _ h1 h2 => QY (h1.ev rfl) (h1.ev rfl)) ?_)
         refine Tr.asg rfl rfl (Tr.nil (Tr.zA (Tr.cond rfl H (fun H => ?_) (fun H => ?_))))
         ·refine Tr.sr (Tr.mv rfl rfl (Tr.va rfl (fun _ _ h1 h2 => zB zB7 (h1.ev rfl)) ?_))
          refine Tr.va rfl (fun _ _ h1 h2 => zF Qu (h1.ev rfl) (rdb h2 (vs := [(iv xL1.Kind), (sv xL1.Name), (iv xL1.At.X), (iv xL1.At.Y), (.slice zAl xL1.Points.length zAg), (iv xL1.NX), (iv xL1.NY), (.slice zAk xL1.Steps.length zAf)]) (k := 11) rfl 5) rfl) ?_
          refine Tr.va rfl (fun _ _ h1 h2 => zB zB6 (h1.ev rfl)) ?_
          refine Tr.va rfl (fun _ _ h1 h2 => zF Qu (h1.ev rfl) (rdb h2 (vs := [(iv xL1.Kind), (sv xL1.Name), (iv xL1.At.X), (iv xL1.At.Y), (.slice zAl xL1.Points.length zAg), (iv xL1.NX), (iv xL1.NY), (.slice zAk xL1.Steps.length zAf)]) (k := 11) rfl 6) rfl) ?_
          refine Tr.build (vs := [(0, (iv xL1.NX)), (1, (iv xL1.NY))]) (cs := [(iv xL1.NX), (iv xL1.NY)]) (wn rfl) rfl (QE rfl (QE rfl Qj)) (by kernel_rfl) ?_
          refine Tr.va rfl (fun _ _ h1 h2 => zB zBH (h1.ev rfl)) ?_
          refine Tr.va rfl (fun _ _ h1 h2 => zu (cs := [(iv xL1.At.X), (iv xL1.At.Y)]) zBo Wx (h1.ev rfl) (za.take (rdb h2 (vs := [(iv xL1.Kind), (sv xL1.Name), (iv xL1.At.X), (iv xL1.At.Y), (.slice zAl xL1.Points.length zAg), (iv xL1.NX), (iv xL1.NY), (.slice zAk xL1.Steps.length zAf)]) (k := 11) rfl 2) 2) rfl) ?_
          refine Tr.buildSlice 15 (e := 52) (vs := [(0, (.agg #[(iv xL1.NX), (iv xL1.NY)])), (1, (.agg #[(iv xL1.At.X), (iv xL1.At.Y)]))]) (cs := [(iv xL1.NX), (iv xL1.NY), (iv xL1.At.X), (iv xL1.At.Y)]) (wn rfl) rfl (QE rfl (QE rfl Qj)) (by kernel_rfl) fun b228 => ?_
          refine Tr.own 15 QM [(zf.mk xL1.NX xL1.NY), xL1.At] (css := [[(iv xL1.NX), (iv xL1.NY)], [(iv xL1.At.X), (iv xL1.At.Y)]]) rfl (.cons ⟨(), trivial, rfl⟩ (.cons ⟨(), trivial, rfl⟩ .nil)) rfl (by decide) (zF1 rfl) ?_
          obtain ⟨y229, hy229, H⟩ := bnd H
          refine Tr.Qa (r := (sv y229)) (wn rfl) rfl Tryz.call13 (zI rfl zT) (fun W hW => Wj (hT.ext hW.Qc) [(zf.mk xL1.NX xL1.NY), xL1.At] (some ⟨b228, 0, none⟩) 2 (hW.zBy (k := 15) rfl) y229 hy229 (HF.start _)) ?_
          obtain ⟨t230, ht230, H⟩ := bnd H
          refine Tr.va rfl (fun _ _ h1 h2 => Va (h1.ev rfl) (h1.ev rfl) ht230) ?_
          obtain ⟨t231, ht231, H⟩ := bnd H
          refine Tr.va rfl (fun _ _ h1 h2 => Va (h1.ev rfl) (h1.ev rfl) ht231) ?_
          obtain ⟨y232, hy232, H⟩ := bnd H
          refine Tr.zAC [0] [sb 39 5 bp0 Am194 cm194 m194] (U := (Option Addr × Nat)) (fun u => (.tuple #[(iv ((t231 : ByteArray).size : Int)), .nilIface])) (fun u => True) (fun u => [sb 39 5 bp0 u.1 u.2 y232]) rfl (zO rfl QH) (fun _ => rfl) (wn rfl) rfl Tryz.call11 (zI rfl (zI rfl zT)) (fun W hW hp hE => QD m194 Am194 cm194 bp0 t231 y232 hy232 hE) ?_
          intro u hu
          obtain ⟨Ay232_0, cy232_0⟩ := u
          have gy232_0 := hu
          have hgy232_0 : True := gy232_0 --@phi
          show Tr _ _ (uf _ 83 (.tuple #[(iv ((t231 : ByteArray).size : Int)), .nilIface])) (up _ 0 (sb 39 5 bp0 Ay232_0 cy232_0 y232)) _
          refine Tr.nil (Tr.zA (Tr.sr (Tr.mv rfl rfl (Tr.va rfl (fun _ _ h1 h2 => zB zAB (h1.ev rfl)) ?_))))
          refine Tr.va rfl (fun _ _ h1 h2 => zF zBR (h1.ev rfl) (rdb h2 (vs := [(iv xL1.Kind), (sv xL1.Name), (iv xL1.At.X), (iv xL1.At.Y), (.slice zAl xL1.Points.length zAg), (iv xL1.NX), (iv xL1.NY), (.slice zAk xL1.Steps.length zAf)]) (k := 11) rfl 7) rfl) ?_
          obtain ⟨y234, hy234, H⟩ := bnd H
          refine Tr.zAC [0] [sb 39 5 bp0 Ay232_0 cy232_0 y232] (U := (Option Addr × Nat)) (fun u => (.tuple #[])) (fun u => True) (fun u => [sb 39 5 bp0 u.1 u.2 y234]) rfl (zO rfl QH) (fun _ => rfl) (wn rfl) rfl Tryz.call14 (zI rfl (zI rfl zT)) (fun W hW hp hE => hrec (hT.ext (hW.zCb hp)) y232 Ay232_0 cy232_0 bp0 xL1.Steps zAk zAf (zH1.ext (hW.zCb hp)) y234 hy234 hE) ?_
          intro u hu
          obtain ⟨Ay234_0, cy234_0⟩ := u
          have gy234_0 := hu
          have hgy234_0 : True := gy234_0 --@phi
          show Tr _ _ (uf _ 87 (.tuple #[])) (up _ 0 (sb 39 5 bp0 Ay234_0 cy234_0 y234)) _
          refine Tr.nil (Tr.zA (Tr.region (Tr.mv rfl rfl ?_)))
          obtain ⟨y236, hy236, H⟩ := bnd H
          refine Tr.zAC [0] [sb 39 5 bp0 Ay234_0 cy234_0 y234] (U := (Option Addr × Nat)) (fun u => (.tuple #[(iv (((⟨#[100, 111, 110, 101, 10]⟩) : ByteArray).size : Int)), .nilIface])) (fun u => True) (fun u => [sb 39 5 bp0 u.1 u.2 y236]) rfl (zO rfl QH) (fun _ => rfl) (wn rfl) rfl Tryz.call11 (zI rfl (zI rfl zT)) (fun W hW hp hE => QD y234 Ay234_0 cy234_0 bp0 (⟨#[100, 111, 110, 101, 10]⟩) y236 hy236 hE) ?_
          intro u hu
          obtain ⟨Ay236_0, cy236_0⟩ := u
          have gy236_0 := hu
          have hgy236_0 : True := gy236_0 --@phi
          show Tr _ _ (uf _ 89 (.tuple #[(iv (((⟨#[100, 111, 110, 101, 10]⟩) : ByteArray).size : Int)), .nilIface])) (up _ 0 (sb 39 5 bp0 Ay236_0 cy236_0 y236)) _
          refine Tr.nil (Tr.zi (Tr.zi (Tr.zA (Tr.region (Tr.va rfl (fun _ _ h1 h2 => QS (h1.ev rfl) (h1.ev rfl)) ?_)))))
          exact Tr.mv rfl rfl (Tr.nil (Tr.zb Qs (zz, (iL1 + 1), y236, Ay236_0, cy236_0) ⟨rfl, VN Qt, Qz Qt, H⟩ (.cons rfl (.cons rfl (.cons rfl (.cons (congrArg (fun z => some (Value.int .i64 z)) (VM Qt Qv.form)) .nil)))) (.cons rfl .nil)))
         ·refine Tr.skip (Tr.zi (Tr.zi (Tr.zA (Tr.region (Tr.va rfl (fun _ _ h1 h2 => QS (h1.ev rfl) (h1.ev rfl)) ?_)))))
          exact Tr.mv rfl rfl (Tr.nil (Tr.zb Qs (zz, (iL1 + 1), m194, Am194, cm194) ⟨rfl, VN Qt, Qz Qt, H⟩ (.cons rfl (.cons rfl (.cons rfl (.cons (congrArg (fun z => some (Value.int .i64 z)) (VM Qt Qv.form)) .nil)))) (.cons rfl .nil)))
theorem zCv : ∀ (N : Nat) {w : Bs} (hT : Tab Tryz.prog w) (p0 : ByteArray) (zG : Option Addr) (zH : Nat) (bp0 : Nat) (p1 : (List zD)) (zX : Option Addr) (zY : Nat) (Qv : Sl w.R w.W zC zX zY p1) (r : ByteArray) (H : WI N p0 p1 = some r) (hE : HF w w.W (LEn [sb 39 5 bp0 zG zH p0])), Calls Tryz.prog 14 [(.pointer (some ⟨bp0, 0, none⟩)), (.slice zX p1.length zY)].toArray w.W fun e W' => ∃ u : (Option Addr × Nat), e = .returned (.tuple #[]) ∧ (True) ∧ HF w W' (LEn [sb 39 5 bp0 u.1 u.2 r])
 | 0 => by intros; rename_i H _; cases H
 | N + 1 => zFC N (WI N) (zCv N)

theorem zEC {w : Bs} (p0 : ByteArray) (zG : Option Addr) (zH : Nat) (bp0 : Nat) (r : (Int × ByteArray)) (H : sbL p0 = some r) (hE : HF w w.W (LEn [sb 39 5 bp0 zG zH p0])) : Calls Tryz.prog 15 [(.pointer (some ⟨bp0, 0, none⟩))].toArray w.W fun e W' => ∃ u : (Option Addr × Nat), e = .returned (iv r.1) ∧ (True) ∧ HF w W' (LEn [sb 39 5 bp0 u.1 u.2 r.2]) :=
 sb_len (ρ := Tryz.bld15_ren) Tryz.bld15 H hE

end Go.Proofs.YtokanbmnoghafaaGreatDoor
namespace Go.Proofs
open Go.Shelf
def Tryz.zII : Go.Shelf.Ren := ⟨fun | 169 => 16 | n => n, fun | 5 => 5 | 37 => 37 | 70 => 36 | 72 => 39 | 127 => 81 | n => n, fun n => n⟩
theorem Tryz.bld16 : Go.Proofs.Lays.n169 Tryz.prog Tryz.zII := {
 mixed := by kernel_rfl
 f169 := Tryz.func16.trans (congrArg some (by kernel_rfl))
 t0 := Tryz.underlying0
 a0 := Tryz.isAgg0
 z0 := Tryz.sizeOf0
 v0 := Tryz.zeroValue0
 t3 := Tryz.underlying3
 a3 := Tryz.isAgg3
 z3 := Tryz.sizeOf3
 v3 := Tryz.zeroValue3
 t9 := Tryz.underlying9
 a9 := Tryz.isAgg9
 z9 := Tryz.sizeOf9
 v9 := Tryz.zeroValue9
 t37 := Tryz.underlying37
 a37 := Tryz.isAgg37
 z37 := Tryz.sizeOf37
 v37 := Tryz.zeroValue37
 t70 := Tryz.underlying36
 a70 := Tryz.isAgg36
 z70 := Tryz.sizeOf36
 v70 := Tryz.zeroValue36
 t72 := Tryz.underlying39
 a72 := Tryz.isAgg39
 z72 := Tryz.sizeOf39
 v72 := Tryz.zeroValue39
 t127 := Tryz.underlying81
 a127 := Tryz.isAgg81
 z127 := Tryz.sizeOf81
 v127 := Tryz.zeroValue81
}
end Go.Proofs
namespace Go.Proofs.YtokanbmnoghafaaGreatDoor
open Go.RowKit
theorem bX16 : Builder.Extra Tryz.prog Tryz.zII where
 sizeBuilder := by kernel_rfl
 liesBuilder := by kernel_rfl
 t5 := Tryz.underlying5
 a5 := Tryz.isAgg5
 z5 := Tryz.sizeOf5
 v5 := Tryz.zeroValue5
 infoByte := by kernel_rfl
 cellsByte := by kernel_rfl
 sizeByte := by kernel_rfl
 neB5 := by decide
theorem zDM {w : Bs} (p0 : ByteArray) (zG : Option Addr) (zH : Nat) (bp0 : Nat) (r : (ByteArray × ByteArray)) (H : sbS p0 = some r) (hE : HF w w.W (LEn [sb 39 5 bp0 zG zH p0])) : Calls Tryz.prog 16 [(.pointer (some ⟨bp0, 0, none⟩))].toArray w.W fun e W' => ∃ u : (Option Addr × Nat), e = .returned (sv r.1) ∧ (True) ∧ HF w W' (LEn [sb 39 5 bp0 u.1 u.2 r.2]) :=
 sb_string (ρ := Tryz.zII) Tryz.bld16 bX16 H hE

theorem F_plot_Text_ok (N : Nat) {w : Bs} (hT : Tab Tryz.prog w) (p0 : QN) (zG : Option Addr) (zH : Nat) (ze : Sl w.R w.W zQ zG zH p0.Tools) (zL : Option Addr) (zK : Nat) (KE : Sl w.R w.W zC zL zK p0.Steps) (r : (ByteArray × Int)) (H : zD2 N p0 = some r) (hE : HF w w.W E0) : Calls Tryz.prog 5 [(.agg #[(iv p0.Unit), (.slice zG p0.Tools.length zH), (.slice zL p0.Steps.length zK)])].toArray w.W fun e W' => e = .returned (.tuple #[(sv r.1), (iv r.2)]) ∧ HF w W' E0 := by
 unfold zD2 at H
 have leB := Bs.Le.refl w
 refine Tr.enter (n := 61) Tryz.func5 rfl rfl rfl hE ?_
 refine Tr.sr (Tr.box 1 (cs := [(iv p0.Unit), (.slice zG p0.Tools.length zH), (.slice zL p0.Steps.length zK)]) (wn rfl) rfl rfl rfl fun QB => ?_)
 refine Tr.asg rfl rfl (Tr.asg rfl rfl (Tr.nil (Tr.zA (Tr.seq (Tr.sr (Tr.va rfl (fun _ _ h1 h2 => zu (cs := [(iv p0.Unit), (.slice zG p0.Tools.length zH), (.slice zL p0.Steps.length zK)]) WY Kb (h1.ev rfl) (za.take (rdb h2 (vs := [(iv p0.Unit), (.slice zG p0.Tools.length zH), (.slice zL p0.Steps.length zK)]) (k := 1) rfl 0) 3) rfl) ?_))))))
 obtain ⟨y101, hy101, H⟩ := bnd H
 refine Tr.Qa (r := (iv y101)) (wn rfl) rfl Tryz.call10 (zI rfl zT) (fun W hW => zDB N p0 zG zH (ze.ext hW.Qc) zL zK (KE.ext hW.Qc) y101 hy101 (HF.start _)) ?_
 refine Tr.asg rfl rfl (Tr.nil (Tr.zA (Tr.sr (Tr.mv rfl rfl (Tr.va rfl (fun _ _ h1 h2 => KV (h1.ev rfl) (h1.ev rfl)) ?_)))))
 refine Tr.nil (Tr.zA (Tr.cond rfl H (fun H => ?_) (fun H => ?_)))
 ·refine Tr.sr (Tr.mv rfl rfl (Tr.asg rfl rfl (Tr.asg rfl rfl (Tr.nil (Tr.zA (Tr.ret (Tr.zM ?_)))))))
  obtain rfl := Option.some.inj H
  exact Tr.out (m := [(sv ⟨#[]⟩), (iv y101)]) [] (zJ rfl (zJ rfl zR)) (fun W hW => ⟨rfl, hW.low leB⟩)
 ·refine Tr.skip (Tr.zA (Tr.sr (Tr.sbNew (e := 5) 2 (wn rfl) rfl zb_39 fun WR => ?_)))
  refine Tr.nil (Tr.zA (Tr.sr (Tr.va rfl (fun _ _ h1 h2 => zB zBe (h1.ev rfl)) ?_)))
  refine Tr.va rfl (fun _ _ h1 h2 => zF Qu (h1.ev rfl) (rdb h2 (vs := [(iv p0.Unit), (.slice zG p0.Tools.length zH), (.slice zL p0.Steps.length zK)]) (k := 1) rfl 0) rfl) ?_
  obtain ⟨zk, zEN, H⟩ := bnd H
  refine Tr.Qa (r := (sv zk)) (wn rfl) rfl Tryz.call12 (zI rfl zT) (fun W hW => zCE (hT.ext hW.Qc) p0.Unit zk zEN (HF.start _)) ?_
  obtain ⟨t104, ht104, H⟩ := bnd H
  refine Tr.va rfl (fun _ _ h1 h2 => Va (h1.ev rfl) (h1.ev rfl) ht104) ?_
  obtain ⟨t105, ht105, H⟩ := bnd H
  refine Tr.va rfl (fun _ _ h1 h2 => Va (h1.ev rfl) (h1.ev rfl) ht105) ?_
  obtain ⟨WP, zJ0, H⟩ := bnd H
  refine Tr.zAC [2] [sb 39 5 WR none 0 ByteArray.empty] (U := (Option Addr × Nat)) (fun u => (.tuple #[(iv ((t105 : ByteArray).size : Int)), .nilIface])) (fun u => True) (fun u => [sb 39 5 WR u.1 u.2 WP]) rfl (zO rfl QH) (fun _ => rfl) (wn rfl) rfl Tryz.call11 (zI rfl (zI rfl zT)) (fun W hW hp hE => QD ByteArray.empty none 0 WR t105 WP zJ0 hE) ?_
  intro u hu
  obtain ⟨zFG, zE6⟩ := u
  have gy106_0 := hu
  have hgy106_0 : True := gy106_0 --@phi
  show Tr _ _ (uf _ 20 (.tuple #[(iv ((t105 : ByteArray).size : Int)), .nilIface])) (up _ 2 (sb 39 5 WR zFG zE6 WP)) _
  refine Tr.nil (Tr.zA (Tr.seq (Tr.sr (Tr.va rfl (fun _ _ h1 h2 => zB Vl (h1.ev rfl)) ?_))))
  refine Tr.va rfl (fun _ _ h1 h2 => zF zBp (h1.ev rfl) (rdb h2 (vs := [(iv p0.Unit), (.slice zG p0.Tools.length zH), (.slice zL p0.Steps.length zK)]) (k := 1) rfl 1) rfl) ?_
  refine Tr.va rfl (fun _ _ h1 h2 => QG zFJ (h1.ev rfl)) ?_
  refine Tr.mv rfl rfl (Tr.nil (Tr.zA (Tr.block (Tr.loop (σ := (List zt) × Nat × ByteArray × (Option Addr) × Nat) (fun m w s => m = s.1.length + 1 ∧ s.1 = List.drop s.2.1 p0.Tools ∧ s.2.1 ≤ p0.Tools.length ∧ Vf N p0 s.1 s.2.1 s.2.2.1 = some r) (fun s => [(1, (.pointer (some ⟨QB, 0, none⟩))), (5, (.pointer (some ⟨WR, 0, none⟩))), (22, (.slice zG p0.Tools.length zH)), (23, (iv (p0.Tools.length : Int))), (24, (iv (s.2.1 : Int)))]) (fun s => [(1, bx QB #[(iv p0.Unit), (.slice zG p0.Tools.length zH), (.slice zL p0.Steps.length zK)] 25), (2, sb 39 5 WR s.2.2.2.1 s.2.2.2.2 s.2.2.1)]) (p0.Tools.length + 1) (p0.Tools, 0, WP, zFG, zE6) ⟨rfl, rfl, Nat.zero_le _, H⟩ (.cons rfl (.cons rfl (.cons rfl (.cons rfl (.cons rfl .nil))))) (.cons rfl (.cons rfl .nil)) (fun _ _ h => absurd h.1 (by simp)) ?_))))
  intro w zEv m s hs
  obtain ⟨WV, iL3, m178, Am178, cm178⟩ := s
  obtain ⟨hmL3, zE0, hiL3, H⟩ := hs
  replace zE0 : WV = List.drop iL3 p0.Tools := zE0
  replace H : Vf N p0 WV iL3 m178 = some r := H
  replace hmL3 : m + 1 = WV.length + 1 := hmL3
  replace hT := hT.ext zEv.ext
  replace ze := ze.leR zEv
  replace KE := KE.leR zEv
  replace leB := leB.trans zEv
  obtain rfl : m = WV.length := by omega
  clear hmL3
  show Tr _ _ (LF [(1, (.pointer (some ⟨QB, 0, none⟩))), (5, (.pointer (some ⟨WR, 0, none⟩))), (22, (.slice zG p0.Tools.length zH)), (23, (iv (p0.Tools.length : Int))), (24, (iv (iL3 : Int)))]) (LE [(1, bx QB #[(iv p0.Unit), (.slice zG p0.Tools.length zH), (.slice zL p0.Steps.length zK)] 25), (2, sb 39 5 WR Am178 cm178 m178)]) _
  cases WV with
  | nil =>
   rw [Vf.eq_1] at H
   refine Tr.sr (Tr.va rfl (fun _ _ h1 h2 => QV (h1.ev rfl) (h1.ev rfl)) ?_)
   refine Tr.nil (Tr.zA (Tr.seq (Tr.zDV rfl (Wh zE0) ?_)))
   refine Tr.exit (Tr.zx (Tr.zx (Tr.Qd (Tr.zA (Tr.sr (Tr.va rfl (fun _ _ h1 h2 => zB zCg (h1.ev rfl)) ?_))))))
   refine Tr.va rfl (fun _ _ h1 h2 => zF zBR (h1.ev rfl) (rdb h2 (vs := [(iv p0.Unit), (.slice zG p0.Tools.length zH), (.slice zL p0.Steps.length zK)]) (k := 1) rfl 2) rfl) ?_
   obtain ⟨y179, hy179, H⟩ := bnd H
   refine Tr.zAC [2] [sb 39 5 WR Am178 cm178 m178] (U := (Option Addr × Nat)) (fun u => (.tuple #[])) (fun u => True) (fun u => [sb 39 5 WR u.1 u.2 y179]) rfl (zO rfl QH) (fun _ => rfl) (wn rfl) rfl Tryz.call14 (zI rfl (zI rfl zT)) (fun W hW hp hE => zCv N (hT.ext (hW.zCb hp)) m178 Am178 cm178 WR p0.Steps zL zK (KE.ext (hW.zCb hp)) y179 hy179 hE) ?_
   intro u hu
   obtain ⟨Ay179_0, cy179_0⟩ := u
   have gy179_0 := hu
   have hgy179_0 : True := gy179_0 --@phi
   show Tr _ _ (uf _ 57 (.tuple #[])) (up _ 2 (sb 39 5 WR Ay179_0 cy179_0 y179)) _
   refine Tr.nil (Tr.zA (Tr.seq (Tr.sr ?_)))
   obtain ⟨y181, hy181, H⟩ := bnd H
   refine Tr.zAC [2] [sb 39 5 WR Ay179_0 cy179_0 y179] (U := (Option Addr × Nat)) (fun u => (iv y181.1)) (fun u => True) (fun u => [sb 39 5 WR u.1 u.2 y181.2]) rfl (zO rfl QH) (fun _ => rfl) (wn rfl) rfl Tryz.call15 (zI rfl zT) (fun W hW hp hE => zEC y179 Ay179_0 cy179_0 WR y181 hy181 hE) ?_
   intro u hu
   obtain ⟨Ay181_0, cy181_0⟩ := u
   have gy181_0 := hu
   have hgy181_0 : True := gy181_0 --@phi
   show Tr _ _ (uf _ 58 (iv y181.1)) (up _ 2 (sb 39 5 WR Ay181_0 cy181_0 y181.2)) _
   refine Tr.va rfl (fun _ _ h1 h2 => VR (h1.ev rfl) (h1.ev rfl)) ?_
   refine Tr.nil (Tr.zA (Tr.cond rfl H (fun H => ?_) (fun H => ?_)))
   ·refine Tr.sr (Tr.asg rfl rfl (Tr.asg rfl rfl (Tr.nil (Tr.zA (Tr.ret (Tr.zM ?_))))))
    obtain rfl := Option.some.inj H
    exact Tr.out (m := [(sv ⟨#[]⟩), (iv 2)]) [] (zJ rfl (zJ rfl zR)) (fun W hW => ⟨rfl, hW.low leB⟩)
   ·refine Tr.skip (Tr.zA (Tr.sr ?_))
    obtain ⟨y183, hy183, H⟩ := bnd H
    refine Tr.zAC [2] [sb 39 5 WR Ay181_0 cy181_0 y181.2] (U := (Option Addr × Nat)) (fun u => (sv y183.1)) (fun u => True) (fun u => [sb 39 5 WR u.1 u.2 y183.2]) rfl (zO rfl QH) (fun _ => rfl) (wn rfl) rfl Tryz.call16 (zI rfl zT) (fun W hW hp hE => zDM y181.2 Ay181_0 cy181_0 WR y183 hy183 hE) ?_
    intro u hu
    obtain ⟨Ay183_0, cy183_0⟩ := u
    have gy183_0 := hu
    have hgy183_0 : True := gy183_0 --@phi
    show Tr _ _ (uf _ 60 (sv y183.1)) (up _ 2 (sb 39 5 WR Ay183_0 cy183_0 y183.2)) _
    refine Tr.asg rfl rfl (Tr.asg rfl rfl (Tr.nil (Tr.zA (Tr.ret ?_))))
    obtain rfl := Option.some.inj H
    exact Tr.out (m := [(sv y183.1), (iv 0)]) [] (zJ rfl (zJ rfl zR)) (fun W hW => ⟨rfl, hW.low leB⟩)
  | cons xL3 WV =>
   rw [Vf.eq_2] at H
   refine Tr.sr (Tr.va rfl (fun _ _ h1 h2 => QV (h1.ev rfl) (h1.ev rfl)) ?_)
   refine Tr.nil (Tr.zA (Tr.seq (Tr.zC7 rfl (zAL zE0) ?_)))
   refine Tr.skip (Tr.zA (Tr.seq (Tr.block (Tr.sr ?_))))
   obtain ⟨u185, hRu185, hoku185, hcu185⟩ := (ze).el (zAM zE0)
   obtain ⟨zD3, zDu⟩ := u185
   have zCZ := hoku185
   replace zCZ : Sl w.R w.W KW zD3 zDu xL3.Rects := zCZ
   refine Tr.va rfl (fun _ _ h1 h2 => zN zFm (h1.ev rfl) ze.form (h1.ev rfl) (Int.natCast_nonneg _) (Qz zE0)) ?_
   refine Tr.va rfl (fun _ _ h1 h2 => zu (cs := [(sv xL3.Name), (.slice zD3 xL3.Rects.length zDu)]) ag_47 zDo (h1.ev rfl) (za.take (rdR hRu185 hcu185 h2) 2) rfl) ?_
   refine Tr.alloc 17 (wn rfl) rfl ze_47 fun b186 => ?_
   refine Tr.store 17 (cs := [(sv xL3.Name), (.slice zD3 xL3.Rects.length zDu)]) [(sv xL3.Name), (.slice zD3 xL3.Rects.length zDu)] (wn rfl) rfl rfl rfl rfl zDo rfl rfl rfl ?_
   refine Tr.nil (Tr.zA (Tr.sr (Tr.va rfl (fun _ _ h1 h2 => zB zCA (h1.ev rfl)) ?_)))
   refine Tr.va rfl (fun _ _ h1 h2 => zF zAR (h1.ev rfl) (rdb h2 (vs := [(sv xL3.Name), (.slice zD3 xL3.Rects.length zDu)]) (k := 17) rfl 0) rfl) ?_
   obtain ⟨t187, ht187, H⟩ := bnd H
   refine Tr.va rfl (fun _ _ h1 h2 => Va (h1.ev rfl) (h1.ev rfl) ht187) ?_
   obtain ⟨y188, hy188, H⟩ := bnd H
   refine Tr.zAC [2] [sb 39 5 WR Am178 cm178 m178] (U := (Option Addr × Nat)) (fun u => (.tuple #[(iv ((t187 : ByteArray).size : Int)), .nilIface])) (fun u => True) (fun u => [sb 39 5 WR u.1 u.2 y188]) rfl (zO rfl QH) (fun _ => rfl) (wn rfl) rfl Tryz.call11 (zI rfl (zI rfl zT)) (fun W hW hp hE => QD m178 Am178 cm178 WR t187 y188 hy188 hE) ?_
   intro u hu
   obtain ⟨Ay188_0, cy188_0⟩ := u
   have gy188_0 := hu
   have hgy188_0 : True := gy188_0 --@phi
   show Tr _ _ (uf _ 31 (.tuple #[(iv ((t187 : ByteArray).size : Int)), .nilIface])) (up _ 2 (sb 39 5 WR Ay188_0 cy188_0 y188)) _
   refine Tr.nil (Tr.zA (Tr.seq (Tr.sr (Tr.va rfl (fun _ _ h1 h2 => zB zB9 (h1.ev rfl)) ?_))))
   refine Tr.va rfl (fun _ _ h1 h2 => zF zHZ (h1.ev rfl) (rdb h2 (vs := [(sv xL3.Name), (.slice zD3 xL3.Rects.length zDu)]) (k := 17) rfl 1) rfl) ?_
   refine Tr.va rfl (fun _ _ h1 h2 => QG zFI (h1.ev rfl)) ?_
   refine Tr.mv rfl rfl (Tr.nil (Tr.zA (Tr.block (Tr.loop (σ := (List VS) × Nat × ByteArray × (Option Addr) × Nat) (fun m w s => m = s.1.length + 1 ∧ s.1 = List.drop s.2.1 xL3.Rects ∧ s.2.1 ≤ xL3.Rects.length ∧ zAX (Vf N p0 WV (iL3 + 1)) s.1 s.2.1 s.2.2.1 = some r) (fun s => [(1, (.pointer (some ⟨QB, 0, none⟩))), (5, (.pointer (some ⟨WR, 0, none⟩))), (22, (.slice zG p0.Tools.length zH)), (23, (iv (p0.Tools.length : Int))), (24, (iv (iL3 : Int))), (33, (.slice zD3 xL3.Rects.length zDu)), (34, (iv (xL3.Rects.length : Int))), (35, (iv (s.2.1 : Int)))]) (fun s => [(1, bx QB #[(iv p0.Unit), (.slice zG p0.Tools.length zH), (.slice zL p0.Steps.length zK)] 25), (2, sb 39 5 WR s.2.2.2.1 s.2.2.2.2 s.2.2.1)]) (xL3.Rects.length + 1) (xL3.Rects, 0, y188, Ay188_0, cy188_0) ⟨rfl, rfl, Nat.zero_le _, H⟩ (.cons rfl (.cons rfl (.cons rfl (.cons rfl (.cons rfl (.cons rfl (.cons rfl (.cons rfl .nil)))))))) (.cons rfl (.cons rfl .nil)) (fun _ _ h => absurd h.1 (by simp)) ?_))))
   intro w zG3 m s hs
   obtain ⟨zEp, iL4, m208, Am208, cm208⟩ := s
   obtain ⟨hmL4, hdL4, hiL4, H⟩ := hs
   replace hdL4 : zEp = List.drop iL4 xL3.Rects := hdL4
   replace H : zAX (Vf N p0 WV (iL3 + 1)) zEp iL4 m208 = some r := H
   replace hmL4 : m + 1 = zEp.length + 1 := hmL4
   replace hT := hT.ext zG3.ext
   replace ze := ze.leR zG3
   replace zCZ := zCZ.leR zG3
   replace zEv := zEv.trans zG3
   obtain rfl : m = zEp.length := by omega
   clear hmL4
   show Tr _ _ (LF [(1, (.pointer (some ⟨QB, 0, none⟩))), (5, (.pointer (some ⟨WR, 0, none⟩))), (22, (.slice zG p0.Tools.length zH)), (23, (iv (p0.Tools.length : Int))), (24, (iv (iL3 : Int))), (33, (.slice zD3 xL3.Rects.length zDu)), (34, (iv (xL3.Rects.length : Int))), (35, (iv (iL4 : Int)))]) (LE [(1, bx QB #[(iv p0.Unit), (.slice zG p0.Tools.length zH), (.slice zL p0.Steps.length zK)] 25), (2, sb 39 5 WR Am208 cm208 m208)]) _
   cases zEp with
   | nil =>
    rw [zAX.eq_1] at H
    refine Tr.sr (Tr.va rfl (fun _ _ h1 h2 => QV (h1.ev rfl) (h1.ev rfl)) ?_)
    refine Tr.nil (Tr.zA (Tr.seq (Tr.zDV rfl (Wh hdL4) ?_)))
    refine Tr.exit (Tr.zx (Tr.zx (Tr.Qd (Tr.zA (Tr.region ?_)))))
    obtain ⟨zHm, hy209, H⟩ := bnd H
    refine Tr.zAC [2] [sb 39 5 WR Am208 cm208 m208] (U := (Option Addr × Nat)) (fun u => (.tuple #[(iv (((⟨#[10]⟩) : ByteArray).size : Int)), .nilIface])) (fun u => True) (fun u => [sb 39 5 WR u.1 u.2 zHm]) rfl (zO rfl QH) (fun _ => rfl) (wn rfl) rfl Tryz.call11 (zI rfl (zI rfl zT)) (fun W hW hp hE => QD m208 Am208 cm208 WR (⟨#[10]⟩) zHm hy209 hE) ?_
    intro u hu
    obtain ⟨zHh, zHO⟩ := u
    have gy209_0 := hu
    have hgy209_0 : True := gy209_0 --@phi
    show Tr _ _ (uf _ 53 (.tuple #[(iv (((⟨#[10]⟩) : ByteArray).size : Int)), .nilIface])) (up _ 2 (sb 39 5 WR zHh zHO zHm)) _
    refine Tr.nil (Tr.zi (Tr.zA (Tr.region (Tr.va rfl (fun _ _ h1 h2 => QS (h1.ev rfl) (h1.ev rfl)) ?_))))
    exact Tr.mv rfl rfl (Tr.nil (Tr.zb zEv (WV, (iL3 + 1), zHm, zHh, zHO) ⟨rfl, VN zE0, Qz zE0, H⟩ (.cons rfl (.cons rfl (.cons rfl (.cons rfl (.cons (congrArg (fun z => some (Value.int .i64 z)) (VM zE0 ze.form)) .nil))))) (.cons rfl (.cons rfl .nil))))
   | cons xL4 zEp =>
    rw [zAX.eq_2] at H
    refine Tr.sr (Tr.va rfl (fun _ _ h1 h2 => QV (h1.ev rfl) (h1.ev rfl)) ?_)
    refine Tr.nil (Tr.zA (Tr.seq (Tr.zC7 rfl (zAL hdL4) ?_)))
    refine Tr.skip (Tr.zA (Tr.seq (Tr.block (Tr.sr (Tr.va rfl (fun _ _ h1 h2 => zN el_45 (h1.ev rfl) zCZ.form (h1.ev rfl) (Int.natCast_nonneg _) (Qz hdL4)) ?_)))))
    refine Tr.va rfl (fun _ _ h1 h2 => zu (cs := [(iv xL4.X0), (iv xL4.Y0), (iv xL4.X1), (iv xL4.Y1)]) ag_49 zGH (h1.ev rfl) (za.take (rdF zFn zCZ (zAM hdL4) h2) 4) rfl) ?_
    refine Tr.alloc 22 (wn rfl) rfl ze_49 fun b211 => ?_
    refine Tr.store 22 (cs := [(iv xL4.X0), (iv xL4.Y0), (iv xL4.X1), (iv xL4.Y1)]) [(iv xL4.X0), (iv xL4.Y0), (iv xL4.X1), (iv xL4.Y1)] (wn rfl) rfl rfl rfl rfl zGH rfl rfl rfl ?_
    refine Tr.nil (Tr.zA (Tr.region (Tr.va rfl (fun _ _ h1 h2 => zB zHL (h1.ev rfl)) ?_)))
    refine Tr.va rfl (fun _ _ h1 h2 => zF Qu (h1.ev rfl) (rdb h2 (vs := [(iv xL4.X0), (iv xL4.Y0), (iv xL4.X1), (iv xL4.Y1)]) (k := 22) rfl 0) rfl) ?_
    refine Tr.va rfl (fun _ _ h1 h2 => zB zHK (h1.ev rfl)) ?_
    refine Tr.va rfl (fun _ _ h1 h2 => zF Qu (h1.ev rfl) (rdb h2 (vs := [(iv xL4.X0), (iv xL4.Y0), (iv xL4.X1), (iv xL4.Y1)]) (k := 22) rfl 1) rfl) ?_
    refine Tr.build (vs := [(0, (iv xL4.X0)), (1, (iv xL4.Y0))]) (cs := [(iv xL4.X0), (iv xL4.Y0)]) (wn rfl) rfl (QE rfl (QE rfl Qj)) (by kernel_rfl) ?_
    refine Tr.va rfl (fun _ _ h1 h2 => zB zHJ (h1.ev rfl)) ?_
    refine Tr.va rfl (fun _ _ h1 h2 => zF Qu (h1.ev rfl) (rdb h2 (vs := [(iv xL4.X0), (iv xL4.Y0), (iv xL4.X1), (iv xL4.Y1)]) (k := 22) rfl 2) rfl) ?_
    refine Tr.va rfl (fun _ _ h1 h2 => zB zHI (h1.ev rfl)) ?_
    refine Tr.va rfl (fun _ _ h1 h2 => zF Qu (h1.ev rfl) (rdb h2 (vs := [(iv xL4.X0), (iv xL4.Y0), (iv xL4.X1), (iv xL4.Y1)]) (k := 22) rfl 3) rfl) ?_
    refine Tr.build (vs := [(0, (iv xL4.X1)), (1, (iv xL4.Y1))]) (cs := [(iv xL4.X1), (iv xL4.Y1)]) (wn rfl) rfl (QE rfl (QE rfl Qj)) (by kernel_rfl) ?_
    refine Tr.buildSlice 23 (e := 52) (vs := [(0, (.agg #[(iv xL4.X0), (iv xL4.Y0)])), (1, (.agg #[(iv xL4.X1), (iv xL4.Y1)]))]) (cs := [(iv xL4.X0), (iv xL4.Y0), (iv xL4.X1), (iv xL4.Y1)]) (wn rfl) rfl (QE rfl (QE rfl Qj)) (by kernel_rfl) fun b212 => ?_
    refine Tr.own 23 QM [(zf.mk xL4.X0 xL4.Y0), (zf.mk xL4.X1 xL4.Y1)] (css := [[(iv xL4.X0), (iv xL4.Y0)], [(iv xL4.X1), (iv xL4.Y1)]]) rfl (.cons ⟨(), trivial, rfl⟩ (.cons ⟨(), trivial, rfl⟩ .nil)) rfl (by decide) (zF1 rfl) ?_
    obtain ⟨y213, hy213, H⟩ := bnd H
    refine Tr.Qa (r := (sv y213)) (wn rfl) rfl Tryz.call13 (zI rfl zT) (fun W hW => Wj (hT.ext hW.Qc) [(zf.mk xL4.X0 xL4.Y0), (zf.mk xL4.X1 xL4.Y1)] (some ⟨b212, 0, none⟩) 2 (hW.zBy (k := 23) rfl) y213 hy213 (HF.start _)) ?_
    obtain ⟨y214, hy214, H⟩ := bnd H
    refine Tr.zAC [2] [sb 39 5 WR Am208 cm208 m208] (U := (Option Addr × Nat)) (fun u => (.tuple #[(iv ((y213 : ByteArray).size : Int)), .nilIface])) (fun u => True) (fun u => [sb 39 5 WR u.1 u.2 y214]) rfl (zO rfl QH) (fun _ => rfl) (wn rfl) rfl Tryz.call11 (zI rfl (zI rfl zT)) (fun W hW hp hE => QD m208 Am208 cm208 WR y213 y214 hy214 hE) ?_
    intro u hu
    obtain ⟨Ay214_0, cy214_0⟩ := u
    have gy214_0 := hu
    have hgy214_0 : True := gy214_0 --@phi
    show Tr _ _ (uf _ 51 (.tuple #[(iv ((y213 : ByteArray).size : Int)), .nilIface])) (up _ 2 (sb 39 5 WR Ay214_0 cy214_0 y214)) _
    refine Tr.nil (Tr.zi (Tr.zA (Tr.region (Tr.va rfl (fun _ _ h1 h2 => QS (h1.ev rfl) (h1.ev rfl)) ?_))))
    exact Tr.mv rfl rfl (Tr.nil (Tr.zb zG3 (zEp, (iL4 + 1), y214, Ay214_0, cy214_0) ⟨rfl, VN hdL4, Qz hdL4, H⟩ (.cons rfl (.cons rfl (.cons rfl (.cons rfl (.cons rfl (.cons rfl (.cons rfl (.cons (congrArg (fun z => some (Value.int .i64 z)) (VM hdL4 zCZ.form)) .nil)))))))) (.cons rfl (.cons rfl .nil))))

theorem zEF (N : Nat) {w : Bs} (hT : Tab Tryz.prog w) (r : Bool) (H : Vq N = some r) (hE : HF w w.W E0) : Calls Tryz.prog 8 [].toArray w.W fun e W' => e = .returned (.bool r) ∧ HF w W' E0 := by
 unfold Vq at H
 have leB := Bs.Le.refl w
 refine Tr.enter (n := 14) Tryz.func8 rfl rfl rfl hE ?_
 refine Tr.sr (Tr.asg rfl rfl (Tr.nil (Tr.zA (Tr.sr (Tr.build (vs := [(0, (iv 7))]) (cs := [(iv 7), (.slice none 0 0), (.slice none 0 0)]) (wn rfl) rfl (QE rfl Qj) (by kernel_rfl) ?_)))))
 obtain ⟨zl, zAO, H⟩ := bnd H
 refine Tr.Qa (r := (.tuple #[(sv zl.1), (iv zl.2)])) (wn rfl) rfl Tryz.call5 (zI rfl zT) (fun W hW => F_plot_Text_ok N (hT.ext hW.Qc) (QN.mk 7 [] []) none 0 (Sl.nil _ _ _) none 0 (Sl.nil _ _ _) zl zAO (HF.start _)) ?_
 refine Tr.mv rfl rfl (Tr.va rfl (fun _ _ h1 h2 => QC (h1.ev rfl) rfl) ?_)
 refine Tr.va rfl (fun _ _ h1 h2 => QC (h1.ev rfl) rfl) ?_
 refine Tr.asg rfl rfl (Tr.asg rfl rfl (Tr.nil (Tr.zA (Tr.sr (Tr.mv rfl rfl (Tr.va rfl (fun _ _ h1 h2 => QY (h1.ev rfl) (h1.ev rfl)) ?_))))))
 refine Tr.mv rfl rfl (Tr.Jl 3 [(13, (.bool ((zl.2 == 0) && (sEq zl.1 (⟨#[117, 110, 105, 116, 32, 55, 10]⟩)))))] [] ?_ ?_)
 ·cases hg100 : (zl.2 == 0)
  ·refine Tr.pass rfl rfl rfl rfl rfl (by decide) ?_
   refine Tr.pass rfl rfl rfl rfl rfl (by decide) ?_
   refine Tr.va rfl (fun _ _ h1 h2 => zV (h1.ev rfl) (h1.ev rfl)) ?_
   exact Tr.nil (Tr.QI (.cons rfl .nil) .nil)
  ·refine Tr.val (wg rfl rfl rfl) rfl (fun _ _ h1 h2 => run_move (h1.ev rfl)) ?_
   refine Tr.val (wg rfl rfl rfl) rfl (fun _ _ h1 h2 => Qq (h1.ev rfl) (h1.ev rfl)) ?_
   refine Tr.va rfl (fun _ _ h1 h2 => zU (h1.ev rfl) (h1.ev rfl)) ?_
   exact Tr.nil (Tr.QI (.cons rfl .nil) .nil)
 ·show Tr _ _ (LF [(13, (.bool ((zl.2 == 0) && (sEq zl.1 (⟨#[117, 110, 105, 116, 32, 55, 10]⟩)))))]) (LE []) _
  refine Tr.asg rfl rfl (Tr.nil (Tr.zA (Tr.ret ?_)))
  obtain rfl := Option.some.inj H
  exact Tr.out (m := [(.bool ((zl.2 == 0) && (sEq zl.1 (⟨#[117, 110, 105, 116, 32, 55, 10]⟩))))]) [] (zJ rfl zR) (fun W hW => ⟨rfl, hW.low leB⟩)

theorem zBN (N : Nat) {w : Bs} (hT : Tab Tryz.prog w) (p0 : ByteArray) (r : Bool) (H : JO N p0 = some r) (hE : HF w w.W E0) : Calls Tryz.prog 4 [(sv p0)].toArray w.W fun e W' => e = .returned (.bool r) ∧ HF w W' E0 := by
 unfold JO at H
 have leB := Bs.Le.refl w
 refine Tr.enter (n := 37) Tryz.func4 rfl rfl rfl hE ?_
 refine Tr.sr (Tr.asg rfl rfl (Tr.nil (Tr.zA (Tr.sr (Tr.mv rfl rfl ?_)))))
 obtain ⟨zl, zAO, H⟩ := bnd H
 refine Tr.zEX [1, 2] [emp, emp] (U := (Option Addr × Nat) × (Option Addr × Nat)) (fun u => (.tuple #[(.agg #[(iv zl.1.Unit), (.slice u.1.1 zl.1.Tools.length u.1.2), (.slice u.2.1 zl.1.Steps.length u.2.2)]), (iv zl.2.1), (iv zl.2.2)])) (fun O W u => SlF u.1.1 zl.1.Tools.length u.1.2 ∧ SlF u.2.1 zl.1.Steps.length u.2.2) (fun u => [ow u.1.1 u.1.2 47 zQ zl.1.Tools, ow u.2.1 u.2.2 80 zC zl.1.Steps]) rfl (zO rfl (zO rfl QH)) (fun _ => rfl) (wn rfl) rfl Tryz.call6 (zI rfl zT) (fun W hW hp hE => F_plot_Read_ok N (hT.ext (hW.zCb hp)) p0 zl zAO hE) ?_
 intro w u le101 hu
 obtain ⟨⟨Qk, Qh⟩, ⟨WL, WG⟩⟩ := u
 obtain ⟨gy100_0, gy100_1⟩ := hu
 replace hT := hT.ext le101.ext
 replace leB := leB.trans le101
 have zAA : SlF Qk zl.1.Tools.length Qh := gy100_0 --@phi
 have hgy100_1 : SlF WL zl.1.Steps.length WG := gy100_1 --@phi
 show Tr _ _ (uf _ 11 (.tuple #[(.agg #[(iv zl.1.Unit), (.slice Qk zl.1.Tools.length Qh), (.slice WL zl.1.Steps.length WG)]), (iv zl.2.1), (iv zl.2.2)])) (up (up _ 2 (ow WL WG 80 zC zl.1.Steps)) 1 (ow Qk Qh 47 zQ zl.1.Tools)) _
 refine Tr.mv rfl rfl (Tr.va rfl (fun _ _ h1 h2 => QC (h1.ev rfl) rfl) ?_)
 refine Tr.va rfl (fun _ _ h1 h2 => QC (h1.ev rfl) rfl) ?_
 refine Tr.va rfl (fun _ _ h1 h2 => QC (h1.ev rfl) rfl) ?_
 refine Tr.alloc 3 (wn rfl) rfl ze_25 fun WR => ?_
 refine Tr.store 3 (cs := [(iv zl.1.Unit), (.slice Qk zl.1.Tools.length Qh), (.slice WL zl.1.Steps.length WG)]) [(iv zl.1.Unit), (.slice Qk zl.1.Tools.length Qh), (.slice WL zl.1.Steps.length WG)] (wn rfl) rfl rfl rfl rfl Kb rfl rfl rfl ?_
 refine Tr.asg rfl rfl (Tr.asg rfl rfl (Tr.nil (Tr.zA (Tr.sr (Tr.mv rfl rfl ?_)))))
 obtain ⟨zk, zEN, H⟩ := bnd H
 refine Tr.zEX [4, 5] [emp, emp] (U := (Option Addr × Nat) × (Option Addr × Nat)) (fun u => (.tuple #[(.agg #[(iv zk.1.Unit), (.slice u.1.1 zk.1.Tools.length u.1.2), (.slice u.2.1 zk.1.Steps.length u.2.2)]), (iv zk.2.1), (iv zk.2.2)])) (fun O W u => SlF u.1.1 zk.1.Tools.length u.1.2 ∧ SlF u.2.1 zk.1.Steps.length u.2.2) (fun u => [ow u.1.1 u.1.2 47 zQ zk.1.Tools, ow u.2.1 u.2.2 80 zC zk.1.Steps]) rfl (zO rfl (zO rfl QH)) (fun _ => rfl) (wn rfl) rfl Tryz.call9 (zI rfl zT) (fun W hW hp hE => zEd N (hT.ext (hW.zCb hp)) p0 zk zEN hE) ?_
 intro w u le104 hu
 obtain ⟨⟨WK, WF⟩, ⟨WJ, WE⟩⟩ := u
 obtain ⟨gy103_0, gy103_1⟩ := hu
 replace hT := hT.ext le104.ext
 replace leB := leB.trans le104
 have hgy103_0 : SlF WK zk.1.Tools.length WF := gy103_0 --@phi
 have hgy103_1 : SlF WJ zk.1.Steps.length WE := gy103_1 --@phi
 show Tr _ _ (uf _ 17 (.tuple #[(.agg #[(iv zk.1.Unit), (.slice WK zk.1.Tools.length WF), (.slice WJ zk.1.Steps.length WE)]), (iv zk.2.1), (iv zk.2.2)])) (up (up _ 5 (ow WJ WE 80 zC zk.1.Steps)) 4 (ow WK WF 47 zQ zk.1.Tools)) _
 refine Tr.mv rfl rfl (Tr.va rfl (fun _ _ h1 h2 => QC (h1.ev rfl) rfl) ?_)
 refine Tr.va rfl (fun _ _ h1 h2 => QC (h1.ev rfl) rfl) ?_
 refine Tr.va rfl (fun _ _ h1 h2 => QC (h1.ev rfl) rfl) ?_
 refine Tr.alloc 6 (wn rfl) rfl ze_25 fun b105 => ?_
 refine Tr.store 6 (cs := [(iv zk.1.Unit), (.slice WK zk.1.Tools.length WF), (.slice WJ zk.1.Steps.length WE)]) [(iv zk.1.Unit), (.slice WK zk.1.Tools.length WF), (.slice WJ zk.1.Steps.length WE)] (wn rfl) rfl rfl rfl rfl Kb rfl rfl rfl ?_
 refine Tr.asg rfl rfl (Tr.asg rfl rfl (Tr.nil (Tr.zA (Tr.sr (Tr.va rfl (fun _ _ h1 h2 => zu (cs := [(iv zl.1.Unit), (.slice Qk zl.1.Tools.length Qh), (.slice WL zl.1.Steps.length WG)]) WY Kb (h1.ev rfl) (za.take (rdb h2 (vs := [(iv zl.1.Unit), (.slice Qk zl.1.Tools.length Qh), (.slice WL zl.1.Steps.length WG)]) (k := 3) rfl 0) 3) rfl) ?_)))))
 refine Tr.va rfl (fun _ _ h1 h2 => zu (cs := [(iv zk.1.Unit), (.slice WK zk.1.Tools.length WF), (.slice WJ zk.1.Steps.length WE)]) WY Kb (h1.ev rfl) (za.take (rdb h2 (vs := [(iv zk.1.Unit), (.slice WK zk.1.Tools.length WF), (.slice WJ zk.1.Steps.length WE)]) (k := 6) rfl 0) 3) rfl) ?_
 obtain ⟨WP, zJ0, H⟩ := bnd H
 refine Tr.Qa (r := (.bool WP)) (wn rfl) rfl Tryz.call7 (zI rfl (zI rfl zT)) (fun W hW => zDO N zl.1 Qk Qh (hW.zBy (k := 1) rfl) WL WG (hW.zBy (k := 2) rfl) zk.1 WK WF (hW.zBy (k := 4) rfl) WJ WE (hW.zBy (k := 5) rfl) WP zJ0 (HF.start _)) ?_
 refine Tr.mv rfl rfl (Tr.Jl 4 [(5, (iv zl.2.2)), (8, (iv zk.2.2)), (28, (.bool (WP && (zl.2.1 == zk.2.1))))] [(1, ow Qk Qh 47 zQ zl.1.Tools), (2, ow WL WG 80 zC zl.1.Steps), (3, bx WR #[(iv zl.1.Unit), (.slice Qk zl.1.Tools.length Qh), (.slice WL zl.1.Steps.length WG)] 25), (4, ow WK WF 47 zQ zk.1.Tools), (5, ow WJ WE 80 zC zk.1.Steps), (6, bx b105 #[(iv zk.1.Unit), (.slice WK zk.1.Tools.length WF), (.slice WJ zk.1.Steps.length WE)] 25)] ?_ ?_)
 ·cases zBm : WP
  ·refine Tr.pass rfl rfl rfl rfl rfl (by decide) ?_
   refine Tr.pass rfl rfl rfl rfl rfl (by decide) ?_
   refine Tr.pass rfl rfl rfl rfl rfl (by decide) ?_
   refine Tr.va rfl (fun _ _ h1 h2 => zV (h1.ev rfl) (h1.ev rfl)) ?_
   exact Tr.nil (Tr.QI (.cons rfl (.cons rfl (.cons rfl .nil))) (.cons rfl (.cons rfl (.cons rfl (.cons rfl (.cons rfl (.cons rfl .nil)))))))
  ·refine Tr.val (wg rfl rfl rfl) rfl (fun _ _ h1 h2 => run_move (h1.ev rfl)) ?_
   refine Tr.val (wg rfl rfl rfl) rfl (fun _ _ h1 h2 => run_move (h1.ev rfl)) ?_
   refine Tr.val (wg rfl rfl rfl) rfl (fun _ _ h1 h2 => QY (h1.ev rfl) (h1.ev rfl)) ?_
   refine Tr.va rfl (fun _ _ h1 h2 => zU (h1.ev rfl) (h1.ev rfl)) ?_
   exact Tr.nil (Tr.QI (.cons rfl (.cons rfl (.cons rfl .nil))) (.cons rfl (.cons rfl (.cons rfl (.cons rfl (.cons rfl (.cons rfl .nil)))))))
 ·show Tr _ _ (LF [(5, (iv zl.2.2)), (8, (iv zk.2.2)), (28, (.bool (WP && (zl.2.1 == zk.2.1))))]) (LE [(1, ow Qk Qh 47 zQ zl.1.Tools), (2, ow WL WG 80 zC zl.1.Steps), (3, bx WR #[(iv zl.1.Unit), (.slice Qk zl.1.Tools.length Qh), (.slice WL zl.1.Steps.length WG)] 25), (4, ow WK WF 47 zQ zk.1.Tools), (5, ow WJ WE 80 zC zk.1.Steps), (6, bx b105 #[(iv zk.1.Unit), (.slice WK zk.1.Tools.length WF), (.slice WJ zk.1.Steps.length WE)] 25)]) _
  refine Tr.mv rfl rfl (Tr.Jl 4 [(33, (.bool ((WP && (zl.2.1 == zk.2.1)) && (zl.2.2 == zk.2.2))))] [(1, ow Qk Qh 47 zQ zl.1.Tools), (2, ow WL WG 80 zC zl.1.Steps), (3, bx WR #[(iv zl.1.Unit), (.slice Qk zl.1.Tools.length Qh), (.slice WL zl.1.Steps.length WG)] 25), (4, ow WK WF 47 zQ zk.1.Tools), (5, ow WJ WE 80 zC zk.1.Steps), (6, bx b105 #[(iv zk.1.Unit), (.slice WK zk.1.Tools.length WF), (.slice WJ zk.1.Steps.length WE)] 25)] ?_ ?_)
  ·cases zBm : (WP && (zl.2.1 == zk.2.1))
   ·refine Tr.pass rfl rfl rfl rfl rfl (by decide) ?_
    refine Tr.pass rfl rfl rfl rfl rfl (by decide) ?_
    refine Tr.pass rfl rfl rfl rfl rfl (by decide) ?_
    refine Tr.va rfl (fun _ _ h1 h2 => zV (h1.ev rfl) (h1.ev rfl)) ?_
    exact Tr.nil (Tr.QI (.cons rfl .nil) (.cons rfl (.cons rfl (.cons rfl (.cons rfl (.cons rfl (.cons rfl .nil)))))))
   ·refine Tr.val (wg rfl rfl rfl) rfl (fun _ _ h1 h2 => run_move (h1.ev rfl)) ?_
    refine Tr.val (wg rfl rfl rfl) rfl (fun _ _ h1 h2 => run_move (h1.ev rfl)) ?_
    refine Tr.val (wg rfl rfl rfl) rfl (fun _ _ h1 h2 => QY (h1.ev rfl) (h1.ev rfl)) ?_
    refine Tr.va rfl (fun _ _ h1 h2 => zU (h1.ev rfl) (h1.ev rfl)) ?_
    exact Tr.nil (Tr.QI (.cons rfl .nil) (.cons rfl (.cons rfl (.cons rfl (.cons rfl (.cons rfl (.cons rfl .nil)))))))
  ·show Tr _ _ (LF [(33, (.bool ((WP && (zl.2.1 == zk.2.1)) && (zl.2.2 == zk.2.2))))]) (LE [(1, ow Qk Qh 47 zQ zl.1.Tools), (2, ow WL WG 80 zC zl.1.Steps), (3, bx WR #[(iv zl.1.Unit), (.slice Qk zl.1.Tools.length Qh), (.slice WL zl.1.Steps.length WG)] 25), (4, ow WK WF 47 zQ zk.1.Tools), (5, ow WJ WE 80 zC zk.1.Steps), (6, bx b105 #[(iv zk.1.Unit), (.slice WK zk.1.Tools.length WF), (.slice WJ zk.1.Steps.length WE)] 25)]) _
   refine Tr.mv rfl rfl ?_
   obtain ⟨g108, hg108, H⟩ := bnd H
   refine Tr.Jl 2 [(36, (.bool g108))] [(1, ow Qk Qh 47 zQ zl.1.Tools), (2, ow WL WG 80 zC zl.1.Steps), (3, bx WR #[(iv zl.1.Unit), (.slice Qk zl.1.Tools.length Qh), (.slice WL zl.1.Steps.length WG)] 25), (4, ow WK WF 47 zQ zk.1.Tools), (5, ow WJ WE 80 zC zk.1.Steps), (6, bx b105 #[(iv zk.1.Unit), (.slice WK zk.1.Tools.length WF), (.slice WJ zk.1.Steps.length WE)] 25)] ?_ ?_
   ·cases zBm : ((WP && (zl.2.1 == zk.2.1)) && (zl.2.2 == zk.2.2))
    ·rw [zBm] at hg108
     rw [if_neg (by decide)] at hg108
     have H := hg108
     obtain rfl := Option.some.inj H
     refine Tr.pass rfl rfl rfl rfl rfl (by decide) ?_
     refine Tr.va rfl (fun _ _ h1 h2 => zV (h1.ev rfl) (h1.ev rfl)) ?_
     exact Tr.nil (Tr.QI (.cons rfl .nil) (.cons rfl (.cons rfl (.cons rfl (.cons rfl (.cons rfl (.cons rfl .nil)))))))
    ·rw [zBm] at hg108
     rw [if_pos rfl] at hg108
     have H := hg108
     obtain ⟨zD7, zJz, H⟩ := bnd H
     refine Tr.Qa (r := (.bool zD7)) (wg rfl rfl rfl) rfl Tryz.call8 zT (fun W hW => zEF N (hT.ext hW.Qc) zD7 zJz (HF.start _)) ?_
     refine Tr.va rfl (fun _ _ h1 h2 => zU (h1.ev rfl) (h1.ev rfl)) ?_
     obtain rfl := Option.some.inj H
     exact Tr.nil (Tr.QI (.cons rfl .nil) (.cons rfl (.cons rfl (.cons rfl (.cons rfl (.cons rfl (.cons rfl .nil)))))))
   ·show Tr _ _ (LF [(36, (.bool g108))]) (LE [(1, ow Qk Qh 47 zQ zl.1.Tools), (2, ow WL WG 80 zC zl.1.Steps), (3, bx WR #[(iv zl.1.Unit), (.slice Qk zl.1.Tools.length Qh), (.slice WL zl.1.Steps.length WG)] 25), (4, ow WK WF 47 zQ zk.1.Tools), (5, ow WJ WE 80 zC zk.1.Steps), (6, bx b105 #[(iv zk.1.Unit), (.slice WK zk.1.Tools.length WF), (.slice WJ zk.1.Steps.length WE)] 25)]) _
    refine Tr.asg rfl rfl (Tr.nil (Tr.zA (Tr.ret ?_)))
    obtain rfl := Option.some.inj H
    exact Tr.out (m := [(.bool g108)]) [] (zJ rfl zR) (fun W hW => ⟨rfl, hW.low leB⟩)

end Go.Proofs.YtokanbmnoghafaaGreatDoor
