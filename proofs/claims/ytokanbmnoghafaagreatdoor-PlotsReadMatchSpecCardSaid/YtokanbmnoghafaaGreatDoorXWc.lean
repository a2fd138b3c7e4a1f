/- The walks: each function computes its plain function. -/
import Derived.Test.YtokanbmnoghafaaGreatDoorXWb
namespace Go.Proofs.YtokanbmnoghafaaGreatDoor
open Go.RowKit
set_option maxRecDepth 100000
set_option maxHeartbeats 1000000
theorem Vk (N : Nat) {w : Bs} (hT : Tab Tryz.prog w) (p0 : zh) (zG : Option Addr) (zH : Nat) (ze : Sl w.R w.W JG zG zH p0.lines) (zL : Option Addr) (zK : Nat) (KE : Sl w.R w.W VX zL zK p0.ends) (bp0 : Nat) (hbp0 : w.R bp0) (hcp0 : za w.W bp0 0 [(.slice zG p0.lines.length zH), (.slice zL p0.ends.length zK), (iv p0.at_), (.bool p0.bad)]) (r : (ByteArray × ByteArray × (List Int) × Bool)) (H : JB N p0 = some r) (hE : HF w w.W (LEn [emp])) : Calls Tryz.prog 22 [(.pointer (some ⟨bp0, 0, none⟩))].toArray w.W fun e W' => ∃ u : (Option Addr × Nat), e = .returned (.tuple #[(sv r.1), (sv r.2.1), (.slice u.1 r.2.2.1.length u.2), (.bool r.2.2.2)]) ∧ (SlF u.1 r.2.2.1.length u.2) ∧ HF w W' (LEn [ow u.1 u.2 3 QT r.2.2.1]) := by
 unfold JB at H
 have leB := Bs.Le.refl w
 refine Tr.enter (n := 114) Tryz.func22 rfl rfl rfl hE ?_
 refine Tr.sr (Tr.asg rfl rfl (Tr.asg rfl rfl (Tr.asg rfl rfl (Tr.JZ 1 3 QT ?_))))
 show Tr _ _ (uf _ 4 (.slice none (([] : List Int)).length 0)) _ _
 refine Tr.asg rfl rfl (Tr.nil (Tr.zA (Tr.seq (Tr.zGK 15 [] [] (by kernel_rfl) (by kernel_rfl) fun sz100 hlosz100 hEsz100 => ?_))))
 refine Dr.quiet 0 [(13, (.pointer (some ⟨bp0, 0, none⟩)))] (by kernel_rfl) rfl rfl (by kernel_rfl) ?_ rfl rfl ?_
 ·exact Tq.mv rfl rfl (Tq.fin (.cons rfl .nil))
 refine Dr.quiet 1 [(14, (.pointer (some ⟨bp0, 0, none⟩)))] (by kernel_rfl) rfl rfl (by kernel_rfl) ?_ rfl rfl ?_
 ·refine Tq.va rfl (fun _ _ h1 h2 => zg (h1.ev rfl)) ?_
  exact Tq.fin (.cons rfl .nil)
 refine Dr.quiet 2 [(15, (.pointer (some ⟨bp0, 0 + 0, none⟩)))] (by kernel_rfl) rfl rfl (by kernel_rfl) ?_ rfl rfl ?_
 ·refine Tq.va rfl (fun _ _ h1 h2 => zB zF6 (h1.ev rfl)) ?_
  exact Tq.fin (.cons rfl .nil)
 refine Dr.quiet 3 [(16, (.slice zG p0.lines.length zH))] (by kernel_rfl) rfl rfl (by kernel_rfl) ?_ rfl rfl ?_
 ·refine Tq.va rfl (fun _ _ h1 h2 => zF ag_66 (h1.ev rfl) (za.drop (rdR hbp0 hcp0 h2) 0) rfl) ?_
  exact Tq.fin (.cons rfl .nil)
 refine Dr.quiet 4 [(17, (.pointer (some ⟨bp0, 0, none⟩)))] (by kernel_rfl) rfl rfl (by kernel_rfl) ?_ rfl rfl ?_
 ·exact Tq.mv rfl rfl (Tq.fin (.cons rfl .nil))
 refine Dr.quiet 5 [(18, (.pointer (some ⟨bp0, 0, none⟩)))] (by kernel_rfl) rfl rfl (by kernel_rfl) ?_ rfl rfl ?_
 ·refine Tq.va rfl (fun _ _ h1 h2 => zg (h1.ev rfl)) ?_
  exact Tq.fin (.cons rfl .nil)
 refine Dr.quiet 6 [(19, (.pointer (some ⟨bp0, 0 + 2, none⟩)))] (by kernel_rfl) rfl rfl (by kernel_rfl) ?_ rfl rfl ?_
 ·refine Tq.va rfl (fun _ _ h1 h2 => zB zBI (h1.ev rfl)) ?_
  exact Tq.fin (.cons rfl .nil)
 refine Dr.quiet 7 [(20, (iv p0.at_))] (by kernel_rfl) rfl rfl (by kernel_rfl) ?_ rfl rfl ?_
 ·refine Tq.va rfl (fun _ _ h1 h2 => zF Qu (h1.ev rfl) (za.drop (rdR hbp0 hcp0 h2) 2) rfl) ?_
  exact Tq.fin (.cons rfl .nil)
 obtain ⟨x101, hx101, H⟩ := bnd H
 obtain ⟨hx1010, hx1011, hx1012⟩ := zw hx101
 refine Dr.quiet 8 [(21, (.pointer (some ⟨adB zG, adO zG + (p0.at_).toNat * 1, none⟩)))] (by kernel_rfl) rfl rfl (by kernel_rfl) ?_ rfl rfl ?_
 ·refine Tq.va rfl (fun _ _ h1 h2 => zN zAP (h1.ev rfl) ze.form (h1.ev rfl) hx1010 hx1011) ?_
  exact Tq.fin (.cons rfl .nil)
 refine Dr.quiet 9 [(22, (sv x101))] (by kernel_rfl) rfl rfl (by kernel_rfl) ?_ rfl rfl ?_
 ·refine Tq.va rfl (fun _ _ h1 h2 => zF zAR (h1.ev rfl) (rdF Wq ze hx1012 h2) rfl) ?_
  exact Tq.fin (.cons rfl .nil)
 obtain ⟨y102, hy102, H⟩ := bnd H
 refine Dr.one 10 (by kernel_rfl) ?_
 refine St.zAC 10 [2] [emp] (U := (Option Addr × Nat)) (fun u => (.tuple #[(.slice u.1 y102.1.length u.2), (.bool y102.2)])) (fun u => SlF u.1 y102.1.length u.2) (fun u => [ow u.1 u.2 9 JG y102.1]) rfl (zO rfl QH) (fun _ => rfl) (insS_no rfl) rfl (wn rfl) rfl Tryz.call39 (zI rfl zT) (fun W hW hp hE => zEE N (hT.ext (hW.zCb hp)) x101 y102 hy102 hE) ?_
 intro u hu hsy102
 obtain ⟨QK, QF⟩ := u
 have gy102_0 := hu
 have zCr : SlF QK y102.1.length QF := gy102_0
 show Dr _ _ _ _ _ _ _ _ _ (uf _ 23 (.tuple #[(.slice QK y102.1.length QF), (.bool y102.2)])) (up _ 2 (ow QK QF 9 JG y102.1))
 refine Dr.quiet 11 [(12, (.tuple #[(.slice QK y102.1.length QF), (.bool y102.2)]))] (by kernel_rfl) rfl rfl (by kernel_rfl) ?_ rfl rfl ?_
 ·exact Tq.mv rfl rfl (Tq.fin (.cons rfl .nil))
 refine Dr.quiet 12 [(24, (.slice QK y102.1.length QF))] (by kernel_rfl) rfl rfl (by kernel_rfl) ?_ rfl rfl ?_
 ·refine Tq.va rfl (fun _ _ h1 h2 => QC (h1.ev rfl) rfl) ?_
  exact Tq.fin (.cons rfl .nil)
 refine Dr.quiet 13 [(25, (.bool y102.2))] (by kernel_rfl) rfl rfl (by kernel_rfl) ?_ rfl rfl ?_
 ·refine Tq.va rfl (fun _ _ h1 h2 => QC (h1.ev rfl) rfl) ?_
  exact Tq.fin (.cons rfl .nil)
 refine Dr.quiet 14 [(6, (.slice QK y102.1.length QF))] (by kernel_rfl) rfl rfl (by kernel_rfl) ?_ rfl rfl ?_
 ·exact Tq.asg rfl rfl (Tq.fin (.cons rfl .nil))
 refine Dr.tail (by kernel_rfl) ?_
 refine Tr.asg rfl rfl (Tr.nil (Tr.zA (Tr.seq (Tr.seq (Tr.draw (by kernel_rfl) (by kernel_rfl) ?_)))))
 refine Tq.mv rfl rfl (Tq.va rfl (fun _ _ h1 h2 => Qb (h1.ev rfl)) ?_)
 refine Tq.mv rfl rfl ?_
 obtain ⟨zIG, zBn, H⟩ := bnd H
 refine Tq.mid 12 [(6, (.slice QK y102.1.length QF)), (40, (.bool zIG))] ?_ ?_
 ·cases zDT : (!y102.2)
  ·rw [zDT] at zBn
   rw [if_neg (by decide)] at zBn
   have H := zBn
   refine Tq.val (wg rfl rfl rfl) rfl (fun _ _ h1 h2 => run_move (h1.ev rfl)) ?_
   refine Tq.val (wg rfl rfl rfl) rfl (fun _ _ h1 h2 => zg (h1.ev rfl)) ?_
   refine Tq.val (wg rfl rfl rfl) rfl (fun _ _ h1 h2 => zB fo_69_1 (h1.ev rfl)) ?_
   refine Tq.val (wg rfl rfl rfl) rfl (fun _ _ h1 h2 => zF ag_67 (h1.ev rfl) (za.drop (rdR hbp0 hcp0 h2) 1) rfl) ?_
   refine Tq.val (wg rfl rfl rfl) rfl (fun _ _ h1 h2 => run_move (h1.ev rfl)) ?_
   refine Tq.val (wg rfl rfl rfl) rfl (fun _ _ h1 h2 => zg (h1.ev rfl)) ?_
   refine Tq.val (wg rfl rfl rfl) rfl (fun _ _ h1 h2 => zB zBI (h1.ev rfl)) ?_
   refine Tq.val (wg rfl rfl rfl) rfl (fun _ _ h1 h2 => zF Qu (h1.ev rfl) (za.drop (rdR hbp0 hcp0 h2) 2) rfl) ?_
   obtain ⟨VK, hx106, H⟩ := bnd H
   obtain ⟨hx1060, hx1061, hx1062⟩ := zw hx106
   refine Tq.val (wg rfl rfl rfl) rfl (fun _ _ h1 h2 => zN el_67 (h1.ev rfl) KE.form (h1.ev rfl) hx1060 hx1061) ?_
   refine Tq.val (wg rfl rfl rfl) rfl (fun _ _ h1 h2 => zF zFt (h1.ev rfl) (rdF ef_bool KE hx1062 h2) rfl) ?_
   refine Tq.val (wg rfl rfl rfl) rfl (fun _ _ h1 h2 => Qb (h1.ev rfl)) ?_
   refine Tq.va rfl (fun _ _ h1 h2 => zV (h1.ev rfl) (h1.ev rfl)) ?_
   obtain rfl := Option.some.inj H
   exact Tq.fin (.cons rfl (.cons rfl .nil))
  ·rw [zDT] at zBn
   rw [if_pos rfl] at zBn
   have H := zBn
   obtain rfl := Option.some.inj H
   refine Tq.pass rfl rfl rfl rfl rfl (by decide) ?_
   refine Tq.pass rfl rfl rfl rfl rfl (by decide) ?_
   refine Tq.pass rfl rfl rfl rfl rfl (by decide) ?_
   refine Tq.pass rfl rfl rfl rfl rfl (by decide) ?_
   refine Tq.pass rfl rfl rfl rfl rfl (by decide) ?_
   refine Tq.pass rfl rfl rfl rfl rfl (by decide) ?_
   refine Tq.pass rfl rfl rfl rfl rfl (by decide) ?_
   refine Tq.pass rfl rfl rfl rfl rfl (by decide) ?_
   refine Tq.pass rfl rfl rfl rfl rfl (by decide) ?_
   refine Tq.pass rfl rfl rfl rfl rfl (by decide) ?_
   refine Tq.pass rfl rfl rfl rfl rfl (by decide) ?_
   refine Tq.va rfl (fun _ _ h1 h2 => zU (h1.ev rfl) (h1.ev rfl)) ?_
   exact Tq.fin (.cons rfl (.cons rfl .nil))
 ·refine Tq.nil (Tr.zA (Tr.cond rfl H (fun H => ?_) (fun H => ?_)))
  ·refine Tr.sr (Tr.asg rfl rfl (Tr.asg rfl rfl (Tr.asg rfl rfl (Tr.JZ 3 3 QT ?_))))
   show Tr _ _ (uf _ 4 (.slice none (([] : List Int)).length 0)) _ _
   refine Tr.asg rfl rfl (Tr.nil (Tr.zA (Tr.ret (Tr.zM ?_))))
   obtain rfl := Option.some.inj H
   exact Tr.out (m := [(sv ⟨#[]⟩), (sv ⟨#[]⟩), (.slice none (([] : List Int)).length 0), (.bool false)]) [] (zJ rfl (zJ rfl (zJ rfl (zJ rfl zR)))) (fun W hW => ⟨(none, 0), rfl, Qr, HF.zH0 leB (hW.pick (ks := [3]) (by decide) (zO rfl QH)) ⟨zCW _ _ _ _ zFb, trivial⟩⟩)
  ·refine Tr.skip (Tr.zA (Tr.sr (Tr.mv rfl rfl ?_)))
   obtain ⟨zDh, zIX, H⟩ := bnd H
   refine Tr.va rfl (fun _ _ h1 h2 => zFd zAP (h1.ev rfl) zCr (h1.ev rfl) zIX) ?_
   refine Tr.asg rfl rfl (Tr.nil (Tr.zA (Tr.sr (Tr.asg rfl rfl (Tr.nil (Tr.zA ?_))))))
   have leJ117 := Bs.Le.refl w
   refine Tr.zFq (σ := (List ByteArray) × (List ByteArray) × ByteArray × (Option Addr) × Nat × (Option Addr) × Nat) (fun w s => JH N s.1 s.2.1 s.2.2.1 = some r ∧ Sl w.O w.W JG s.2.2.2.1 s.2.2.2.2.1 s.1 ∧ Sl w.O w.W JG s.2.2.2.2.2.1 s.2.2.2.2.2.2 s.2.1) (fun s => [(6, (.slice s.2.2.2.1 s.1.length s.2.2.2.2.1)), (8, (.slice s.2.2.2.2.2.1 s.2.1.length s.2.2.2.2.2.2)), (9, (sv s.2.2.1))]) (fun s => []) ?_ ?_
   ·refine Tr.sr (Tr.mv rfl rfl ?_)
    obtain ⟨Vt, hx139, H⟩ := bnd H
    obtain ⟨zJ3, zJ2, zJ1⟩ := zw hx139
    refine Tr.va rfl (fun _ _ h1 h2 => zN zAP (h1.ev rfl) zCr (h1.ev rfl) zJ3 zJ2) ?_
    refine Tr.va rfl (fun _ _ h1 h2 => zF zAR (h1.ev rfl) (rdo Wq (k := 2) h2 rfl zJ1) rfl) ?_
    refine Tr.va rfl (fun _ _ h1 h2 => Qq (h1.ev rfl) (h1.ev rfl)) ?_
    refine Tr.mv rfl rfl ?_
    obtain ⟨g141, hg141, H⟩ := bnd H
    refine Tr.Jl 5 [(6, (.slice QK y102.1.length QF)), (8, (.slice (zE8 QK (1 : Int).toNat 1 QF) zDh.length (QF - (1 : Int).toNat))), (9, (sv ⟨#[]⟩)), (52, (.bool g141))] [(1, ow none 0 3 QT ([] : List Int)), (2, ow QK QF 9 JG y102.1)] ?_ ?_
    ·cases zDT : (sEq Vt (⟨#[116, 111, 111, 108]⟩))
     ·rw [zDT] at hg141
      rw [if_neg (by decide)] at hg141
      have H := hg141
      refine Tr.val (wg rfl rfl rfl) rfl (fun _ _ h1 h2 => run_move (h1.ev rfl)) ?_
      obtain ⟨zEj, hx142, H⟩ := bnd H
      obtain ⟨hx1420, hx1421, hx1422⟩ := zw hx142
      refine Tr.val (wg rfl rfl rfl) rfl (fun _ _ h1 h2 => zN zAP (h1.ev rfl) zCr (h1.ev rfl) hx1420 hx1421) ?_
      refine Tr.val (wg rfl rfl rfl) rfl (fun _ _ h1 h2 => zF zAR (h1.ev rfl) (rdo Wq (k := 2) h2 rfl hx1422) rfl) ?_
      refine Tr.val (wg rfl rfl rfl) rfl (fun _ _ h1 h2 => Qq (h1.ev rfl) (h1.ev rfl)) ?_
      refine Tr.va rfl (fun _ _ h1 h2 => zV (h1.ev rfl) (h1.ev rfl)) ?_
      obtain rfl := Option.some.inj H
      exact Tr.nil (Tr.QI (.cons rfl (.cons rfl (.cons rfl (.cons rfl .nil)))) (.cons rfl (.cons rfl .nil)))
     ·rw [zDT] at hg141
      rw [if_pos rfl] at hg141
      have H := hg141
      obtain rfl := Option.some.inj H
      refine Tr.pass rfl rfl rfl rfl rfl (by decide) ?_
      refine Tr.pass rfl rfl rfl rfl rfl (by decide) ?_
      refine Tr.pass rfl rfl rfl rfl rfl (by decide) ?_
      refine Tr.pass rfl rfl rfl rfl rfl (by decide) ?_
      refine Tr.va rfl (fun _ _ h1 h2 => zU (h1.ev rfl) (h1.ev rfl)) ?_
      exact Tr.nil (Tr.QI (.cons rfl (.cons rfl (.cons rfl (.cons rfl .nil)))) (.cons rfl (.cons rfl .nil)))
    ·show Tr _ _ (LF [(6, (.slice QK y102.1.length QF)), (8, (.slice (zE8 QK (1 : Int).toNat 1 QF) zDh.length (QF - (1 : Int).toNat))), (9, (sv ⟨#[]⟩)), (52, (.bool g141))]) (LE [(1, ow none 0 3 QT ([] : List Int)), (2, ow QK QF 9 JG y102.1)]) _
     refine Tr.nil (Tr.zA (Tr.cond rfl H (fun H => ?_) (fun H => ?_)))
     ·refine Tr.seq (Tr.sr (Tr.mv rfl rfl (Tr.va rfl (fun _ _ h1 h2 => QG zFZ (h1.ev rfl)) ?_)))
      refine Tr.va rfl (fun _ _ h1 h2 => QY (h1.ev rfl) (h1.ev rfl)) ?_
      refine Tr.nil (Tr.zA (Tr.cond rfl H (fun H => ?_) (fun H => ?_)))
      ·refine Tr.sr (Tr.asg rfl rfl (Tr.asg rfl rfl (Tr.asg rfl rfl (Tr.JZ 7 3 QT ?_))))
       show Tr _ _ (uf _ 4 (.slice none (([] : List Int)).length 0)) _ _
       refine Tr.asg rfl rfl (Tr.nil (Tr.zA (Tr.ret (Tr.zM (Tr.zM ?_)))))
       obtain rfl := Option.some.inj H
       exact Tr.out (m := [(sv ⟨#[]⟩), (sv ⟨#[]⟩), (.slice none (([] : List Int)).length 0), (.bool false)]) [] (zJ rfl (zJ rfl (zJ rfl (zJ rfl zR)))) (fun W hW => ⟨(none, 0), rfl, Qr, HF.zH0 leB (hW.pick (ks := [7]) (by decide) (zO rfl QH)) ⟨zCW _ _ _ _ zFb, trivial⟩⟩)
      ·refine Tr.skip (Tr.zA (Tr.draw (by kernel_rfl) (by kernel_rfl) ?_))
       refine Tq.mv rfl rfl ?_
       obtain ⟨zGC, hx143, H⟩ := bnd H
       obtain ⟨hx1430, hx1431, hx1432⟩ := zw hx143
       refine Tq.va rfl (fun _ _ h1 h2 => zN zAP (h1.ev rfl) (cut_form (sz := 1) zCr zIX).1 (h1.ev rfl) hx1430 hx1431) ?_
       refine Tq.va rfl (fun _ _ h1 h2 => zF zAR (h1.ev rfl) ((Sl.atF Wq (Sl.cut (h2.slB (k := 2) rfl) zIX) hx1432).2) rfl) ?_
       refine Tq.mv rfl rfl ?_
       obtain ⟨l144, hl144, H⟩ := bnd H
       refine Tq.va rfl (fun _ _ h1 h2 => zFd zAP (h1.ev rfl) (cut_form (sz := 1) zCr zIX).1 (h1.ev rfl) hl144) ?_
       refine Tq.asg rfl rfl (Tq.asg rfl rfl (Tq.nil (Tr.freeze 2 rfl fun w le146 hz145 => ?_)))
       replace hT := hT.ext le146.ext
       replace leJ117 := leJ117.trans le146
       exact Tr.zb leJ117 (y102.1, l144, zGC, QK, QF, (zE8 (zE8 QK (1 : Int).toNat 1 QF) (1 : Int).toNat 1 (QF - (1 : Int).toNat)), ((QF - (1 : Int).toNat) - (1 : Int).toNat)) ⟨H, hz145, (Sl.cut (Sl.cut hz145 zIX) hl144)⟩ (.cons rfl (.cons rfl (.cons rfl .nil))) .nil
     ·refine Tr.skip (Tr.freeze 2 rfl fun w le148 hz147 => ?_)
      replace hT := hT.ext le148.ext
      replace leJ117 := leJ117.trans le148
      exact Tr.zb leJ117 (y102.1, zDh, ⟨#[]⟩, QK, QF, (zE8 QK (1 : Int).toNat 1 QF), (QF - (1 : Int).toNat)) ⟨H, hz147, (Sl.cut hz147 zIX)⟩ (.cons rfl (.cons rfl (.cons rfl .nil))) .nil
   ·intro w s hlJ118 hs
    obtain ⟨Kl, zG7, VY, zBS, zBQ, Al115, cl115⟩ := s
    obtain ⟨H, zB4, zJ5⟩ := hs
    replace H : JH N Kl zG7 VY = some r := H
    replace hT := hT.ext hlJ118.ext
    replace leB := leB.trans hlJ118
    replace zB4 : Sl w.O w.W JG zBS zBQ Kl := zB4
    replace zJ5 : Sl w.O w.W JG Al115 cl115 zG7 := zJ5
    unfold JH at H
    show Tr _ _ (LF [(6, (.slice zBS Kl.length zBQ)), (8, (.slice Al115 zG7.length cl115)), (9, (sv VY))]) (LE []) _
    refine Tr.sr (Tr.mv rfl rfl ?_)
    obtain ⟨Ja, zJy, H⟩ := bnd H
    refine Tr.zAC [5] [emp] (U := (Option Addr × Nat)) (fun u => (.tuple #[(.slice u.1 Ja.1.length u.2), (.bool Ja.2)])) (fun u => SlF u.1 Ja.1.length u.2) (fun u => [ow u.1 u.2 3 QT Ja.1]) rfl (zO rfl QH) (fun _ => rfl) (wn rfl) rfl Tryz.call40 (zI rfl zT) (fun W hW hp hE => zDd N zG7 Al115 cl115 (zJ5.rl.ext (hW.zCb hp)) Ja zJy hE) ?_
    intro u hu
    obtain ⟨VJ, VI⟩ := u
    have gy119_0 := hu
    have zJ6 : SlF VJ Ja.1.length VI := gy119_0 --@phi
    show Tr _ _ (uf _ 63 (.tuple #[(.slice VJ Ja.1.length VI), (.bool Ja.2)])) (up _ 5 (ow VJ VI 3 QT Ja.1)) _
    refine Tr.mv rfl rfl (Tr.va rfl (fun _ _ h1 h2 => QC (h1.ev rfl) rfl) ?_)
    refine Tr.va rfl (fun _ _ h1 h2 => QC (h1.ev rfl) rfl) ?_
    refine Tr.asg rfl rfl (Tr.asg rfl rfl (Tr.nil (Tr.zA (Tr.seq (Tr.sr (Tr.mv rfl rfl (Tr.va rfl (fun _ _ h1 h2 => Qb (h1.ev rfl)) ?_)))))))
    refine Tr.nil (Tr.zA (Tr.cond rfl H (fun H => ?_) (fun H => ?_)))
    ·refine Tr.sr (Tr.asg rfl rfl (Tr.asg rfl rfl (Tr.asg rfl rfl (Tr.JZ 6 3 QT ?_))))
     show Tr _ _ (uf _ 4 (.slice none (([] : List Int)).length 0)) _ _
     refine Tr.asg rfl rfl (Tr.nil (Tr.zA (Tr.ret (Tr.zM ?_))))
     obtain rfl := Option.some.inj H
     exact Tr.out (m := [(sv ⟨#[]⟩), (sv ⟨#[]⟩), (.slice none (([] : List Int)).length 0), (.bool false)]) [] (zJ rfl (zJ rfl (zJ rfl (zJ rfl zR)))) (fun W hW => ⟨(none, 0), rfl, Qr, HF.zH0 leB (hW.pick (ks := [6]) (by decide) (zO rfl QH)) ⟨zCW _ _ _ _ zFb, trivial⟩⟩)
    ·refine Tr.skip (Tr.zA (Tr.sr (Tr.mv rfl rfl (Tr.va rfl (fun _ _ h1 h2 => QG zEH (h1.ev rfl)) ?_))))
     refine Tr.asg rfl rfl (Tr.nil (Tr.zA ?_))
     have leJ129 := Bs.Le.refl w
     refine Tr.zFq (σ := Bool) (fun w s => QO Kl VY Ja s = some r) (fun s => [(6, (.slice zBS Kl.length zBQ)), (7, (.bool s)), (9, (sv VY)), (10, (.slice VJ Ja.1.length VI))]) (fun s => [(5, ow VJ VI 3 QT Ja.1)]) ?_ ?_
     ·refine Tr.sr (Tr.mv rfl rfl ?_)
      obtain ⟨zAK, hx132, H⟩ := bnd H
      obtain ⟨hx1320, hx1321, hx1322⟩ := zw hx132
      refine Tr.va rfl (fun _ _ h1 h2 => zN zAP (h1.ev rfl) zB4.form (h1.ev rfl) hx1320 hx1321) ?_
      refine Tr.va rfl (fun _ _ h1 h2 => zF zAR (h1.ev rfl) (rdF Wq (zB4.rl) hx1322 h2) rfl) ?_
      refine Tr.nil (Tr.zA (Tr.block (Tr.sr (Tr.va rfl (fun _ _ h1 h2 => Qq (h1.ev rfl) (h1.ev rfl)) ?_))))
      refine Tr.asg rfl rfl (Tr.nil (Tr.zA (Tr.cond rfl H (fun H => ?_) (fun H => ?_))))
      ·refine Tr.region (Tr.mv rfl rfl (Tr.va rfl (fun _ _ h1 h2 => QY (h1.ev rfl) (h1.ev rfl)) ?_))
       exact Tr.asg rfl rfl (Tr.nil (Tr.zi (Tr.zb leJ129 ((Ja.1.length : Int) == 1) H (.cons rfl (.cons rfl (.cons rfl (.cons rfl .nil)))) (.cons rfl .nil))))
      ·refine Tr.sr (Tr.va rfl (fun _ _ h1 h2 => Qq (h1.ev rfl) (h1.ev rfl)) ?_)
       refine Tr.asg rfl rfl (Tr.nil (Tr.zA (Tr.cond rfl H (fun H => ?_) (fun H => ?_))))
       ·refine Tr.region (Tr.mv rfl rfl (Tr.va rfl (fun _ _ h1 h2 => VR (h1.ev rfl) (h1.ev rfl)) ?_))
        refine Tr.mv rfl rfl (Tr.Jl 4 [(6, (.slice zBS Kl.length zBQ)), (9, (sv VY)), (10, (.slice VJ Ja.1.length VI)), (85, (.bool ((decide (0 < (Ja.1.length : Int))) && ((Int.tmod (Ja.1.length : Int) 4) == 0))))] [(5, ow VJ VI 3 QT Ja.1)] ?_ ?_)
        ·cases zJ7 : (decide (0 < (Ja.1.length : Int)))
         ·refine Tr.pass rfl rfl rfl rfl rfl (by decide) ?_
          refine Tr.pass rfl rfl rfl rfl rfl (by decide) ?_
          refine Tr.pass rfl rfl rfl rfl rfl (by decide) ?_
          refine Tr.va rfl (fun _ _ h1 h2 => zV (h1.ev rfl) (h1.ev rfl)) ?_
          exact Tr.nil (Tr.QI (.cons rfl (.cons rfl (.cons rfl (.cons rfl .nil)))) (.cons rfl .nil))
         ·refine Tr.val (wg rfl rfl rfl) rfl (fun _ _ h1 h2 => run_move (h1.ev rfl)) ?_
          refine Tr.val (wg rfl rfl rfl) rfl (fun _ _ h1 h2 => zGv (h1.ev rfl) (h1.ev rfl) (by decide)) ?_
          refine Tr.val (wg rfl rfl rfl) rfl (fun _ _ h1 h2 => QY (h1.ev rfl) (h1.ev rfl)) ?_
          refine Tr.va rfl (fun _ _ h1 h2 => zU (h1.ev rfl) (h1.ev rfl)) ?_
          exact Tr.nil (Tr.QI (.cons rfl (.cons rfl (.cons rfl (.cons rfl .nil)))) (.cons rfl .nil))
        ·show Tr _ _ (LF [(6, (.slice zBS Kl.length zBQ)), (9, (sv VY)), (10, (.slice VJ Ja.1.length VI)), (85, (.bool ((decide (0 < (Ja.1.length : Int))) && ((Int.tmod (Ja.1.length : Int) 4) == 0))))]) (LE [(5, ow VJ VI 3 QT Ja.1)]) _
         exact Tr.asg rfl rfl (Tr.nil (Tr.zi (Tr.zb leJ129 ((decide (0 < (Ja.1.length : Int))) && ((Int.tmod (Ja.1.length : Int) 4) == 0)) H (.cons rfl (.cons rfl (.cons rfl (.cons rfl .nil)))) (.cons rfl .nil))))
       ·have leJ134 := Bs.Le.refl w
        refine Tr.zFq (σ := Bool) (fun w s => Qm Kl VY Ja zAK s = some r) (fun s => [(6, (.slice zBS Kl.length zBQ)), (9, (sv VY)), (10, (.slice VJ Ja.1.length VI)), (11, (iv (Ja.1.length : Int))), (72, (sv zAK)), (86, (.bool s))]) (fun s => [(5, ow VJ VI 3 QT Ja.1)]) ?_ ?_
        ·refine Tr.sr (Tr.va rfl (fun _ _ h1 h2 => Qq (h1.ev rfl) (h1.ev rfl)) ?_)
         refine Tr.asg rfl rfl (Tr.nil (Tr.zA (Tr.cond rfl H (fun H => ?_) (fun H => ?_))))
         ·exact Tr.skip (Tr.zb leJ134 (sEq zAK (⟨#[100, 97, 114, 107]⟩)) H (.cons rfl (.cons rfl (.cons rfl (.cons rfl (.cons rfl (.cons rfl .nil)))))) (.cons rfl .nil))
         ·refine Tr.sr (Tr.va rfl (fun _ _ h1 h2 => Qq (h1.ev rfl) (h1.ev rfl)) ?_)
          refine Tr.asg rfl rfl (Tr.nil (Tr.zA (Tr.cond rfl H (fun H => ?_) (fun H => ?_))))
          ·exact Tr.skip (Tr.zb leJ134 (sEq zAK (⟨#[99, 108, 101, 97, 114]⟩)) H (.cons rfl (.cons rfl (.cons rfl (.cons rfl (.cons rfl (.cons rfl .nil)))))) (.cons rfl .nil))
          ·refine Tr.sr (Tr.va rfl (fun _ _ h1 h2 => Qq (h1.ev rfl) (h1.ev rfl)) ?_)
           refine Tr.asg rfl rfl (Tr.nil (Tr.zA (Tr.cond rfl H (fun H => ?_) (fun H => ?_))))
           ·exact Tr.skip (Tr.zb leJ134 (sEq zAK (⟨#[117, 115, 101]⟩)) H (.cons rfl (.cons rfl (.cons rfl (.cons rfl (.cons rfl (.cons rfl .nil)))))) (.cons rfl .nil))
           ·refine Tr.region (Tr.va rfl (fun _ _ h1 h2 => Qq (h1.ev rfl) (h1.ev rfl)) ?_)
            exact Tr.asg rfl rfl (Tr.nil (Tr.zb leJ134 (sEq zAK (⟨#[100, 111, 110, 101]⟩)) H (.cons rfl (.cons rfl (.cons rfl (.cons rfl (.cons rfl (.cons rfl .nil)))))) (.cons rfl .nil)))
        ·intro w zm hlJ135 hs
         have H := hs
         replace H : Qm Kl VY Ja zAK zm = some r := H
         replace hT := hT.ext hlJ135.ext
         replace leJ129 := leJ129.trans hlJ135
         unfold Qm at H
         show Tr _ _ (LF [(6, (.slice zBS Kl.length zBQ)), (9, (sv VY)), (10, (.slice VJ Ja.1.length VI)), (11, (iv (Ja.1.length : Int))), (72, (sv zAK)), (86, (.bool zm))]) (LE [(5, ow VJ VI 3 QT Ja.1)]) _
         refine Tr.cond rfl H (fun H => ?_) (fun H => ?_)
         ·refine Tr.region (Tr.mv rfl rfl (Tr.va rfl (fun _ _ h1 h2 => QY (h1.ev rfl) (h1.ev rfl)) ?_))
          exact Tr.asg rfl rfl (Tr.nil (Tr.zi (Tr.zb leJ129 ((Ja.1.length : Int) == 0) H (.cons rfl (.cons rfl (.cons rfl (.cons rfl .nil)))) (.cons rfl .nil))))
         ·have leJ137 := Bs.Le.refl w
          refine Tr.zFq (σ := Bool) (fun w s => JI Kl VY Ja zAK s = some r) (fun s => [(6, (.slice zBS Kl.length zBQ)), (9, (sv VY)), (10, (.slice VJ Ja.1.length VI)), (11, (iv (Ja.1.length : Int))), (72, (sv zAK)), (93, (.bool s))]) (fun s => [(5, ow VJ VI 3 QT Ja.1)]) ?_ ?_
          ·refine Tr.sr (Tr.va rfl (fun _ _ h1 h2 => Qq (h1.ev rfl) (h1.ev rfl)) ?_)
           refine Tr.asg rfl rfl (Tr.nil (Tr.zA (Tr.cond rfl H (fun H => ?_) (fun H => ?_))))
           ·exact Tr.skip (Tr.zb leJ137 (sEq zAK (⟨#[109, 111, 118, 101]⟩)) H (.cons rfl (.cons rfl (.cons rfl (.cons rfl (.cons rfl (.cons rfl .nil)))))) (.cons rfl .nil))
           ·refine Tr.sr (Tr.va rfl (fun _ _ h1 h2 => Qq (h1.ev rfl) (h1.ev rfl)) ?_)
            refine Tr.asg rfl rfl (Tr.nil (Tr.zA (Tr.cond rfl H (fun H => ?_) (fun H => ?_))))
            ·exact Tr.skip (Tr.zb leJ137 (sEq zAK (⟨#[102, 108, 97, 115, 104]⟩)) H (.cons rfl (.cons rfl (.cons rfl (.cons rfl (.cons rfl (.cons rfl .nil)))))) (.cons rfl .nil))
            ·refine Tr.region (Tr.va rfl (fun _ _ h1 h2 => Qq (h1.ev rfl) (h1.ev rfl)) ?_)
             exact Tr.asg rfl rfl (Tr.nil (Tr.zb leJ137 (sEq zAK (⟨#[108, 105, 110, 101]⟩)) H (.cons rfl (.cons rfl (.cons rfl (.cons rfl (.cons rfl (.cons rfl .nil)))))) (.cons rfl .nil)))
          ·intro w zDe hlJ138 hs
           have H := hs
           replace H : JI Kl VY Ja zAK zDe = some r := H
           replace hT := hT.ext hlJ138.ext
           replace leJ129 := leJ129.trans hlJ138
           unfold JI at H
           show Tr _ _ (LF [(6, (.slice zBS Kl.length zBQ)), (9, (sv VY)), (10, (.slice VJ Ja.1.length VI)), (11, (iv (Ja.1.length : Int))), (72, (sv zAK)), (93, (.bool zDe))]) (LE [(5, ow VJ VI 3 QT Ja.1)]) _
           refine Tr.cond rfl H (fun H => ?_) (fun H => ?_)
           ·refine Tr.region (Tr.mv rfl rfl (Tr.va rfl (fun _ _ h1 h2 => QY (h1.ev rfl) (h1.ev rfl)) ?_))
            exact Tr.asg rfl rfl (Tr.nil (Tr.zi (Tr.zb leJ129 ((Ja.1.length : Int) == 2) H (.cons rfl (.cons rfl (.cons rfl (.cons rfl .nil)))) (.cons rfl .nil))))
           ·refine Tr.sr (Tr.va rfl (fun _ _ h1 h2 => Qq (h1.ev rfl) (h1.ev rfl)) ?_)
            refine Tr.asg rfl rfl (Tr.nil (Tr.zA (Tr.cond rfl H (fun H => ?_) (fun H => ?_))))
            ·refine Tr.region (Tr.mv rfl rfl (Tr.va rfl (fun _ _ h1 h2 => zGv (h1.ev rfl) (h1.ev rfl) (by decide)) ?_))
             refine Tr.va rfl (fun _ _ h1 h2 => QY (h1.ev rfl) (h1.ev rfl)) ?_
             exact Tr.asg rfl rfl (Tr.nil (Tr.zi (Tr.zb leJ129 ((Int.tmod (Ja.1.length : Int) 2) == 0) H (.cons rfl (.cons rfl (.cons rfl (.cons rfl .nil)))) (.cons rfl .nil))))
            ·refine Tr.sr (Tr.va rfl (fun _ _ h1 h2 => Qq (h1.ev rfl) (h1.ev rfl)) ?_)
             refine Tr.asg rfl rfl (Tr.nil (Tr.zA (Tr.cond rfl H (fun H => ?_) (fun H => ?_))))
             ·refine Tr.region (Tr.mv rfl rfl (Tr.va rfl (fun _ _ h1 h2 => QY (h1.ev rfl) (h1.ev rfl)) ?_))
              exact Tr.asg rfl rfl (Tr.nil (Tr.zi (Tr.zb leJ129 ((Ja.1.length : Int) == 4) H (.cons rfl (.cons rfl (.cons rfl (.cons rfl .nil)))) (.cons rfl .nil))))
             ·exact Tr.region (Tr.asg rfl rfl (Tr.nil (Tr.zi (Tr.zb leJ129 false H (.cons rfl (.cons rfl (.cons rfl (.cons rfl .nil)))) (.cons rfl .nil)))))
     ·intro w JY hlJ130 hs
      have H := hs
      replace H : QO Kl VY Ja JY = some r := H
      replace hT := hT.ext hlJ130.ext
      replace zB4 := zB4.le hlJ130
      replace leB := leB.trans hlJ130
      unfold QO at H
      show Tr _ _ (LF [(6, (.slice zBS Kl.length zBQ)), (7, (.bool JY)), (9, (sv VY)), (10, (.slice VJ Ja.1.length VI))]) (LE [(5, ow VJ VI 3 QT Ja.1)]) _
      refine Tr.sr (Tr.mv rfl rfl ?_)
      obtain ⟨VG, hx131, H⟩ := bnd H
      obtain ⟨hx1310, hx1311, hx1312⟩ := zw hx131
      refine Tr.va rfl (fun _ _ h1 h2 => zN zAP (h1.ev rfl) zB4.form (h1.ev rfl) hx1310 hx1311) ?_
      refine Tr.va rfl (fun _ _ h1 h2 => zF zAR (h1.ev rfl) (rdF Wq (zB4.rl) hx1312 h2) rfl) ?_
      refine Tr.mv rfl rfl (Tr.mv rfl rfl (Tr.mv rfl rfl (Tr.asg rfl rfl (Tr.asg rfl rfl (Tr.asg rfl rfl (Tr.asg rfl rfl (Tr.nil (Tr.zA (Tr.ret ?_)))))))))
      obtain rfl := Option.some.inj H
      exact Tr.out (m := [(sv VG), (sv VY), (.slice VJ Ja.1.length VI), (.bool JY)]) [] (zJ rfl (zJ rfl (zJ rfl (zJ rfl zR)))) (fun W hW => ⟨(VJ, VI), rfl, zJ6, HF.zH0 leB (hW.pick (ks := [5]) (by decide) (zO rfl QH)) ⟨zCW _ _ _ _ zFb, trivial⟩⟩)

theorem zDj {w : Bs} (p0 : ByteArray) (r : Int) (H : KQ p0 = some r) (hE : HF w w.W E0) : Calls Tryz.prog 41 [(sv p0)].toArray w.W fun e W' => e = .returned (iv r) ∧ HF w W' E0 := by
 unfold KQ at H
 have leB := Bs.Le.refl w
 refine Tr.enter (n := 20) Tryz.func41 rfl rfl rfl hE ?_
 refine Tr.sr (Tr.asg rfl rfl (Tr.nil (Tr.zA (Tr.seq (Tr.sr (Tr.mv rfl rfl (Tr.nil (Tr.zA (Tr.block (Tr.sr ?_))))))))))
 refine Tr.va rfl (fun _ _ h1 h2 => Qq (h1.ev rfl) (h1.ev rfl)) ?_
 refine Tr.asg rfl rfl (Tr.nil (Tr.zA (Tr.cond rfl H (fun H => ?_) (fun H => ?_))))
 ·refine Tr.sr (Tr.asg rfl rfl (Tr.nil (Tr.zA (Tr.ret (Tr.zW (Tr.zM ?_))))))
  obtain rfl := Option.some.inj H
  exact Tr.out (m := [(iv 1)]) [] (zJ rfl zR) (fun W hW => ⟨rfl, hW.low leB⟩)
 ·refine Tr.sr (Tr.va rfl (fun _ _ h1 h2 => Qq (h1.ev rfl) (h1.ev rfl)) ?_)
  refine Tr.asg rfl rfl (Tr.nil (Tr.zA (Tr.cond rfl H (fun H => ?_) (fun H => ?_))))
  ·refine Tr.sr (Tr.asg rfl rfl (Tr.nil (Tr.zA (Tr.ret (Tr.zW (Tr.zM ?_))))))
   obtain rfl := Option.some.inj H
   exact Tr.out (m := [(iv 2)]) [] (zJ rfl zR) (fun W hW => ⟨rfl, hW.low leB⟩)
  ·refine Tr.sr (Tr.va rfl (fun _ _ h1 h2 => Qq (h1.ev rfl) (h1.ev rfl)) ?_)
   refine Tr.asg rfl rfl (Tr.nil (Tr.zA (Tr.cond rfl H (fun H => ?_) (fun H => ?_))))
   ·refine Tr.sr (Tr.asg rfl rfl (Tr.nil (Tr.zA (Tr.ret (Tr.zW (Tr.zM ?_))))))
    obtain rfl := Option.some.inj H
    exact Tr.out (m := [(iv 3)]) [] (zJ rfl zR) (fun W hW => ⟨rfl, hW.low leB⟩)
   ·refine Tr.sr (Tr.va rfl (fun _ _ h1 h2 => Qq (h1.ev rfl) (h1.ev rfl)) ?_)
    refine Tr.asg rfl rfl (Tr.nil (Tr.zA (Tr.cond rfl H (fun H => ?_) (fun H => ?_))))
    ·refine Tr.sr (Tr.asg rfl rfl (Tr.nil (Tr.zA (Tr.ret (Tr.zW (Tr.zM ?_))))))
     obtain rfl := Option.some.inj H
     exact Tr.out (m := [(iv 4)]) [] (zJ rfl zR) (fun W hW => ⟨rfl, hW.low leB⟩)
    ·refine Tr.sr (Tr.va rfl (fun _ _ h1 h2 => Qq (h1.ev rfl) (h1.ev rfl)) ?_)
     refine Tr.asg rfl rfl (Tr.nil (Tr.zA (Tr.cond rfl H (fun H => ?_) (fun H => ?_))))
     ·refine Tr.sr (Tr.asg rfl rfl (Tr.nil (Tr.zA (Tr.ret (Tr.zW (Tr.zM ?_))))))
      obtain rfl := Option.some.inj H
      exact Tr.out (m := [(iv 5)]) [] (zJ rfl zR) (fun W hW => ⟨rfl, hW.low leB⟩)
     ·refine Tr.sr (Tr.va rfl (fun _ _ h1 h2 => Qq (h1.ev rfl) (h1.ev rfl)) ?_)
      refine Tr.asg rfl rfl (Tr.nil (Tr.zA (Tr.cond rfl H (fun H => ?_) (fun H => ?_))))
      ·refine Tr.sr (Tr.asg rfl rfl (Tr.nil (Tr.zA (Tr.ret (Tr.zW (Tr.zM ?_))))))
       obtain rfl := Option.some.inj H
       exact Tr.out (m := [(iv 6)]) [] (zJ rfl zR) (fun W hW => ⟨rfl, hW.low leB⟩)
      ·refine Tr.sr (Tr.va rfl (fun _ _ h1 h2 => Qq (h1.ev rfl) (h1.ev rfl)) ?_)
       refine Tr.asg rfl rfl (Tr.nil (Tr.zA (Tr.cond rfl H (fun H => ?_) (fun H => ?_))))
       ·refine Tr.sr (Tr.asg rfl rfl (Tr.nil (Tr.zA (Tr.ret (Tr.zW (Tr.zM ?_))))))
        obtain rfl := Option.some.inj H
        exact Tr.out (m := [(iv 7)]) [] (zJ rfl zR) (fun W hW => ⟨rfl, hW.low leB⟩)
       ·refine Tr.sr (Tr.va rfl (fun _ _ h1 h2 => Qq (h1.ev rfl) (h1.ev rfl)) ?_)
        refine Tr.asg rfl rfl (Tr.nil (Tr.zA (Tr.cond rfl H (fun H => ?_) (fun H => ?_))))
        ·refine Tr.sr (Tr.asg rfl rfl (Tr.nil (Tr.zA (Tr.ret (Tr.zW (Tr.zM ?_))))))
         obtain rfl := Option.some.inj H
         exact Tr.out (m := [(iv 8)]) [] (zJ rfl zR) (fun W hW => ⟨rfl, hW.low leB⟩)
        ·refine Tr.skip (Tr.zi (Tr.zA (Tr.sr (Tr.asg rfl rfl (Tr.nil (Tr.zA (Tr.ret ?_)))))))
         obtain rfl := Option.some.inj H
         exact Tr.out (m := [(iv 0)]) [] (zJ rfl zR) (fun W hW => ⟨rfl, hW.low leB⟩)

theorem zBj (N : Nat) (rec : zh → Bool → Option ((List zD) × Int × Bool)) (hrec : ∀ {w : Bs} (hT : Tab Tryz.prog w) (p0 : zh) (zG : Option Addr) (zH : Nat) (ze : Sl w.R w.W JG zG zH p0.lines) (zL : Option Addr) (zK : Nat) (KE : Sl w.R w.W VX zL zK p0.ends) (bp0 : Nat) (p1 : Bool) (r : ((List zD) × Int × Bool)) (H : rec p0 p1 = some r) (hE : HF w w.W (LEn [bx bp0 #[(.slice zG p0.lines.length zH), (.slice zL p0.ends.length zK), (iv p0.at_), (.bool p0.bad)] 69, emp])), Calls Tryz.prog 23 [(.pointer (some ⟨bp0, 0, none⟩)), (.bool p1)].toArray w.W fun e W' => ∃ (w' : Bs) (u : (Option Addr × Nat)), w.Le w' ∧ e = .returned (.slice u.1 r.1.length u.2) ∧ (SlF u.1 r.1.length u.2) ∧ HF w' W' (LEn [bx bp0 #[(.slice zG p0.lines.length zH), (.slice zL p0.ends.length zK), (iv r.2.1), (.bool r.2.2)] 69, ow u.1 u.2 80 zC r.1])) {w : Bs} (hT : Tab Tryz.prog w) (p0 : zh) (zG : Option Addr) (zH : Nat) (ze : Sl w.R w.W JG zG zH p0.lines) (zL : Option Addr) (zK : Nat) (KE : Sl w.R w.W VX zL zK p0.ends) (bp0 : Nat) (p1 : Bool) (r : ((List zD) × Int × Bool)) (H : KD N rec p0 p1 = some r) (hE : HF w w.W (LEn [bx bp0 #[(.slice zG p0.lines.length zH), (.slice zL p0.ends.length zK), (iv p0.at_), (.bool p0.bad)] 69, emp])) : Calls Tryz.prog 23 [(.pointer (some ⟨bp0, 0, none⟩)), (.bool p1)].toArray w.W fun e W' => ∃ (w' : Bs) (u : (Option Addr × Nat)), w.Le w' ∧ e = .returned (.slice u.1 r.1.length u.2) ∧ (SlF u.1 r.1.length u.2) ∧ HF w' W' (LEn [bx bp0 #[(.slice zG p0.lines.length zH), (.slice zL p0.ends.length zK), (iv r.2.1), (.bool r.2.2)] 69, ow u.1 u.2 80 zC r.1]) := by
 unfold KD at H
 have leB := Bs.Le.refl w
 refine Tr.enter (n := 139) Tryz.func23 rfl rfl rfl hE ?_
 refine Tr.sr (Tr.asg rfl rfl (Tr.JZ 1 80 zC ?_))
 show Tr _ _ (uf _ 4 (.slice none (([] : List zD)).length 0)) _ _
 refine Tr.nil (Tr.zA (Tr.sr (Tr.asg rfl rfl (Tr.JZ 2 80 zC ?_))))
 show Tr _ _ (uf _ 5 (.slice none (([] : List zD)).length 0)) _ _
 refine Tr.nil (Tr.zA (Tr.seq (Tr.block (Tr.loop (σ := Int × Bool × (List zD) × (Option Addr) × Nat) (fun m w s => zZ N p0 p1 rec m s.1 s.2.1 s.2.2.1 = some r ∧ SlF s.2.2.2.1 s.2.2.1.length s.2.2.2.2) (fun s => [(0, (.pointer (some ⟨bp0, 0, none⟩))), (1, (.bool p1)), (5, (.slice s.2.2.2.1 s.2.2.1.length s.2.2.2.2))]) (fun s => [(0, bx bp0 #[(.slice zG p0.lines.length zH), (.slice zL p0.ends.length zK), (iv s.1), (.bool s.2.1)] 69), (2, ow s.2.2.2.1 s.2.2.2.2 80 zC s.2.2.1)]) N (p0.at_, p0.bad, ([] : List zD), none, 0) ⟨H, Qr⟩ (.cons rfl (.cons rfl (.cons rfl .nil))) (.cons rfl (.cons rfl .nil)) (fun _ _ h => WM (h.1)) ?_))))
 intro w zFi zJr s hs
 obtain ⟨WQ, zAG, VZ, Vj, Vi⟩ := s
 obtain ⟨H, hl279⟩ := hs
 replace H : zZ N p0 p1 rec (zJr + 1) WQ zAG VZ = some r := H
 replace hT := hT.ext zFi.ext
 replace ze := ze.leR zFi
 replace KE := KE.leR zFi
 replace leB := leB.trans zFi
 replace hl279 : SlF Vj VZ.length Vi := hl279
 rw [zZ.eq_2] at H
 show Tr _ _ (LF [(0, (.pointer (some ⟨bp0, 0, none⟩))), (1, (.bool p1)), (5, (.slice Vj VZ.length Vi))]) (LE [(0, bx bp0 #[(.slice zG p0.lines.length zH), (.slice zL p0.ends.length zK), (iv WQ), (.bool zAG)] 69), (2, ow Vj Vi 80 zC VZ)]) _
 refine Tr.seq (Tr.seq (Tr.draw (by kernel_rfl) (by kernel_rfl) ?_))
 refine Tq.mv rfl rfl (Tq.va rfl (fun _ _ h1 h2 => zg (h1.ev rfl)) ?_)
 refine Tq.va rfl (fun _ _ h1 h2 => zB zBI (h1.ev rfl)) ?_
 refine Tq.va rfl (fun _ _ h1 h2 => zF Qu (h1.ev rfl) (rdb h2 (vs := [(.slice zG p0.lines.length zH), (.slice zL p0.ends.length zK), (iv WQ), (.bool zAG)]) (k := 0) rfl 2) rfl) ?_
 refine Tq.mv rfl rfl (Tq.va rfl (fun _ _ h1 h2 => zg (h1.ev rfl)) ?_)
 refine Tq.va rfl (fun _ _ h1 h2 => zB zF6 (h1.ev rfl)) ?_
 refine Tq.va rfl (fun _ _ h1 h2 => zF ag_66 (h1.ev rfl) (rdb h2 (vs := [(.slice zG p0.lines.length zH), (.slice zL p0.ends.length zK), (iv WQ), (.bool zAG)]) (k := 0) rfl 0) rfl) ?_
 refine Tq.va rfl (fun _ _ h1 h2 => QG zFZ (h1.ev rfl)) ?_
 refine Tq.va rfl (fun _ _ h1 h2 => QV (h1.ev rfl) (h1.ev rfl)) ?_
 refine Tq.nil (Tr.zA (Tr.cond rfl H (fun H => ?_) (fun H => ?_)))
 ·refine Tr.skip (Tr.zA (Tr.block (Tr.sr (Tr.mv rfl rfl ?_))))
  obtain ⟨Qn, hy280, H⟩ := bnd H
  refine Tr.zAC [49] [emp] (U := (Option Addr × Nat)) (fun u => (.tuple #[(sv Qn.1), (sv Qn.2.1), (.slice u.1 Qn.2.2.1.length u.2), (.bool Qn.2.2.2)])) (fun u => SlF u.1 Qn.2.2.1.length u.2) (fun u => [ow u.1 u.2 3 QT Qn.2.2.1]) rfl (zO rfl QH) (fun _ => rfl) (wn rfl) rfl Tryz.call22 (zI rfl zT) (fun W hW hp hE => Vk N (hT.ext (hW.zCb hp)) (zh.mk p0.lines p0.ends WQ zAG) zG zH (ze.ext (hW.zCb hp)) zL zK (KE.ext (hW.zCb hp)) bp0 (hW.boxS (k := 0) rfl hp rfl) (hW.boxC (k := 0) rfl) Qn hy280 hE) ?_
  intro u hu
  obtain ⟨Jh, KF⟩ := u
  have gy280_0 := hu
  have zCq : SlF Jh Qn.2.2.1.length KF := gy280_0 --@phi
  show Tr _ _ (uf _ 25 (.tuple #[(sv Qn.1), (sv Qn.2.1), (.slice Jh Qn.2.2.1.length KF), (.bool Qn.2.2.2)])) (up _ 49 (ow Jh KF 3 QT Qn.2.2.1)) _
  refine Tr.mv rfl rfl (Tr.va rfl (fun _ _ h1 h2 => QC (h1.ev rfl) rfl) ?_)
  refine Tr.va rfl (fun _ _ h1 h2 => QC (h1.ev rfl) rfl) ?_
  refine Tr.va rfl (fun _ _ h1 h2 => QC (h1.ev rfl) rfl) ?_
  refine Tr.va rfl (fun _ _ h1 h2 => QC (h1.ev rfl) rfl) ?_
  refine Tr.asg rfl rfl (Tr.asg rfl rfl (Tr.asg rfl rfl (Tr.asg rfl rfl (Tr.nil (Tr.zA (Tr.seq (Tr.sr (Tr.mv rfl rfl (Tr.mv rfl rfl ?_)))))))))
  refine Tr.Jl 2 [(0, (.pointer (some ⟨bp0, 0, none⟩))), (1, (.bool p1)), (5, (.slice Vj VZ.length Vi)), (6, (sv Qn.1)), (7, (sv Qn.2.1)), (8, (.slice Jh Qn.2.2.1.length KF)), (9, (.bool Qn.2.2.2)), (33, (.bool (Qn.2.2.2 && p1)))] [(0, bx bp0 #[(.slice zG p0.lines.length zH), (.slice zL p0.ends.length zK), (iv WQ), (.bool zAG)] 69), (2, ow Vj Vi 80 zC VZ), (49, ow Jh KF 3 QT Qn.2.2.1)] ?_ ?_
  ·cases hg363 : Qn.2.2.2
   ·refine Tr.pass rfl rfl rfl rfl rfl (by decide) ?_
    refine Tr.va rfl (fun _ _ h1 h2 => zV (h1.ev rfl) (h1.ev rfl)) ?_
    exact Tr.nil (Tr.QI (.cons rfl (.cons rfl (.cons rfl (.cons rfl (.cons rfl (.cons rfl (.cons rfl (.cons rfl .nil)))))))) (.cons rfl (.cons rfl (.cons rfl .nil))))
   ·refine Tr.val (wg rfl rfl rfl) rfl (fun _ _ h1 h2 => run_move (h1.ev rfl)) ?_
    refine Tr.va rfl (fun _ _ h1 h2 => zU (h1.ev rfl) (h1.ev rfl)) ?_
    exact Tr.nil (Tr.QI (.cons rfl (.cons rfl (.cons rfl (.cons rfl (.cons rfl (.cons rfl (.cons rfl (.cons rfl .nil)))))))) (.cons rfl (.cons rfl (.cons rfl .nil))))
  ·show Tr _ _ (LF [(0, (.pointer (some ⟨bp0, 0, none⟩))), (1, (.bool p1)), (5, (.slice Vj VZ.length Vi)), (6, (sv Qn.1)), (7, (sv Qn.2.1)), (8, (.slice Jh Qn.2.2.1.length KF)), (9, (.bool Qn.2.2.2)), (33, (.bool (Qn.2.2.2 && p1)))]) (LE [(0, bx bp0 #[(.slice zG p0.lines.length zH), (.slice zL p0.ends.length zK), (iv WQ), (.bool zAG)] 69), (2, ow Vj Vi 80 zC VZ), (49, ow Jh KF 3 QT Qn.2.2.1)]) _
   refine Tr.mv rfl rfl (Tr.Jl 3 [(0, (.pointer (some ⟨bp0, 0, none⟩))), (1, (.bool p1)), (5, (.slice Vj VZ.length Vi)), (6, (sv Qn.1)), (7, (sv Qn.2.1)), (8, (.slice Jh Qn.2.2.1.length KF)), (9, (.bool Qn.2.2.2)), (37, (.bool ((Qn.2.2.2 && p1) && (sEq Qn.1 (⟨#[100, 111, 110, 101]⟩)))))] [(0, bx bp0 #[(.slice zG p0.lines.length zH), (.slice zL p0.ends.length zK), (iv WQ), (.bool zAG)] 69), (2, ow Vj Vi 80 zC VZ), (49, ow Jh KF 3 QT Qn.2.2.1)] ?_ ?_)
   ·cases hg363 : (Qn.2.2.2 && p1)
    ·refine Tr.pass rfl rfl rfl rfl rfl (by decide) ?_
     refine Tr.pass rfl rfl rfl rfl rfl (by decide) ?_
     refine Tr.va rfl (fun _ _ h1 h2 => zV (h1.ev rfl) (h1.ev rfl)) ?_
     exact Tr.nil (Tr.QI (.cons rfl (.cons rfl (.cons rfl (.cons rfl (.cons rfl (.cons rfl (.cons rfl (.cons rfl .nil)))))))) (.cons rfl (.cons rfl (.cons rfl .nil))))
    ·refine Tr.val (wg rfl rfl rfl) rfl (fun _ _ h1 h2 => run_move (h1.ev rfl)) ?_
     refine Tr.val (wg rfl rfl rfl) rfl (fun _ _ h1 h2 => Qq (h1.ev rfl) (h1.ev rfl)) ?_
     refine Tr.va rfl (fun _ _ h1 h2 => zU (h1.ev rfl) (h1.ev rfl)) ?_
     exact Tr.nil (Tr.QI (.cons rfl (.cons rfl (.cons rfl (.cons rfl (.cons rfl (.cons rfl (.cons rfl (.cons rfl .nil)))))))) (.cons rfl (.cons rfl (.cons rfl .nil))))
   ·show Tr _ _ (LF [(0, (.pointer (some ⟨bp0, 0, none⟩))), (1, (.bool p1)), (5, (.slice Vj VZ.length Vi)), (6, (sv Qn.1)), (7, (sv Qn.2.1)), (8, (.slice Jh Qn.2.2.1.length KF)), (9, (.bool Qn.2.2.2)), (37, (.bool ((Qn.2.2.2 && p1) && (sEq Qn.1 (⟨#[100, 111, 110, 101]⟩)))))]) (LE [(0, bx bp0 #[(.slice zG p0.lines.length zH), (.slice zL p0.ends.length zK), (iv WQ), (.bool zAG)] 69), (2, ow Vj Vi 80 zC VZ), (49, ow Jh KF 3 QT Qn.2.2.1)]) _
    refine Tr.nil (Tr.zA (Tr.cond rfl H (fun H => ?_) (fun H => ?_)))
    ·refine Tr.sr (Tr.mv rfl rfl (Tr.va rfl (fun _ _ h1 h2 => zg (h1.ev rfl)) ?_))
     refine Tr.va rfl (fun _ _ h1 h2 => zB zBI (h1.ev rfl)) ?_
     refine Tr.va rfl (fun _ _ h1 h2 => zF Qu (h1.ev rfl) (rdb h2 (vs := [(.slice zG p0.lines.length zH), (.slice zL p0.ends.length zK), (iv WQ), (.bool zAG)]) (k := 0) rfl 2) rfl) ?_
     refine Tr.va rfl (fun _ _ h1 h2 => QS (h1.ev rfl) (h1.ev rfl)) ?_
     refine Tr.va rfl (fun _ _ h1 h2 => zg (h1.ev rfl)) ?_
     refine Tr.va rfl (fun _ _ h1 h2 => zB zBI (h1.ev rfl)) ?_
     refine Tr.store 0 (cs := [(iv (w64 (WQ + 1)))]) [(.slice zG p0.lines.length zH), (.slice zL p0.ends.length zK), (iv (w64 (WQ + 1))), (.bool zAG)] (wn rfl) rfl rfl rfl rfl zJa rfl rfl rfl ?_
     refine Tr.nil (Tr.zA (Tr.sr (Tr.mv rfl rfl (Tr.asg rfl rfl (Tr.nil (Tr.zA (Tr.ret (Tr.zM (Tr.zW (Tr.zM (Tr.zW (Tr.zM ?_))))))))))))
     obtain rfl := Option.some.inj H
     exact Tr.out (m := [(.slice Vj VZ.length Vi)]) [] (zJ rfl zR) (fun W hW => ⟨w, (Vj, Vi), leB, rfl, hl279, hW.pick (ks := [0, 2]) (by decide) (zO rfl (zO rfl QH))⟩)
    ·refine Tr.skip (Tr.zA (Tr.sr (Tr.mv rfl rfl ?_)))
     obtain ⟨VP, hy282, H⟩ := bnd H
     refine Tr.Qa (r := (iv VP)) (wn rfl) rfl Tryz.call41 (zI rfl zT) (fun W hW => zDj Qn.1 VP hy282 (HF.start _)) ?_
     refine Tr.asg rfl rfl (Tr.nil (Tr.zA (Tr.seq (Tr.sr (Tr.mv rfl rfl (Tr.va rfl (fun _ _ h1 h2 => Qb (h1.ev rfl)) ?_))))))
     refine Tr.mv rfl rfl (Tr.Jl 3 [(0, (.pointer (some ⟨bp0, 0, none⟩))), (1, (.bool p1)), (5, (.slice Vj VZ.length Vi)), (7, (sv Qn.2.1)), (8, (.slice Jh Qn.2.2.1.length KF)), (10, (iv VP)), (53, (.bool ((!Qn.2.2.2) || (VP == 0))))] [(0, bx bp0 #[(.slice zG p0.lines.length zH), (.slice zL p0.ends.length zK), (iv WQ), (.bool zAG)] 69), (2, ow Vj Vi 80 zC VZ), (49, ow Jh KF 3 QT Qn.2.2.1)] ?_ ?_)
     ·cases hg363 : (!Qn.2.2.2)
      ·refine Tr.val (wg rfl rfl rfl) rfl (fun _ _ h1 h2 => run_move (h1.ev rfl)) ?_
       refine Tr.val (wg rfl rfl rfl) rfl (fun _ _ h1 h2 => QY (h1.ev rfl) (h1.ev rfl)) ?_
       refine Tr.va rfl (fun _ _ h1 h2 => zV (h1.ev rfl) (h1.ev rfl)) ?_
       exact Tr.nil (Tr.QI (.cons rfl (.cons rfl (.cons rfl (.cons rfl (.cons rfl (.cons rfl (.cons rfl .nil))))))) (.cons rfl (.cons rfl (.cons rfl .nil))))
      ·refine Tr.pass rfl rfl rfl rfl rfl (by decide) ?_
       refine Tr.pass rfl rfl rfl rfl rfl (by decide) ?_
       refine Tr.va rfl (fun _ _ h1 h2 => zU (h1.ev rfl) (h1.ev rfl)) ?_
       exact Tr.nil (Tr.QI (.cons rfl (.cons rfl (.cons rfl (.cons rfl (.cons rfl (.cons rfl (.cons rfl .nil))))))) (.cons rfl (.cons rfl (.cons rfl .nil))))
     ·show Tr _ _ (LF [(0, (.pointer (some ⟨bp0, 0, none⟩))), (1, (.bool p1)), (5, (.slice Vj VZ.length Vi)), (7, (sv Qn.2.1)), (8, (.slice Jh Qn.2.2.1.length KF)), (10, (iv VP)), (53, (.bool ((!Qn.2.2.2) || (VP == 0))))]) (LE [(0, bx bp0 #[(.slice zG p0.lines.length zH), (.slice zL p0.ends.length zK), (iv WQ), (.bool zAG)] 69), (2, ow Vj Vi 80 zC VZ), (49, ow Jh KF 3 QT Qn.2.2.1)]) _
      refine Tr.nil (Tr.zA (Tr.cond rfl H (fun H => ?_) (fun H => ?_)))
      ·refine Tr.sr (Tr.mv rfl rfl (Tr.va rfl (fun _ _ h1 h2 => zg (h1.ev rfl)) ?_))
       refine Tr.va rfl (fun _ _ h1 h2 => zB zIt (h1.ev rfl)) ?_
       refine Tr.store 0 (cs := [(.bool true)]) [(.slice zG p0.lines.length zH), (.slice zL p0.ends.length zK), (iv WQ), (.bool true)] (wn rfl) rfl rfl rfl rfl sz_4 rfl rfl rfl ?_
       refine Tr.nil (Tr.zA (Tr.sr (Tr.mv rfl rfl (Tr.asg rfl rfl (Tr.nil (Tr.zA (Tr.ret (Tr.zM (Tr.zW (Tr.zM (Tr.zW (Tr.zM ?_))))))))))))
       obtain rfl := Option.some.inj H
       exact Tr.out (m := [(.slice Vj VZ.length Vi)]) [] (zJ rfl zR) (fun W hW => ⟨w, (Vj, Vi), leB, rfl, hl279, hW.pick (ks := [0, 2]) (by decide) (zO rfl (zO rfl QH))⟩)
      ·refine Tr.skip (Tr.zA (Tr.sr (Tr.mv rfl rfl (Tr.va rfl (fun _ _ h1 h2 => zg (h1.ev rfl)) ?_))))
       refine Tr.va rfl (fun _ _ h1 h2 => zB zBI (h1.ev rfl)) ?_
       refine Tr.va rfl (fun _ _ h1 h2 => zF Qu (h1.ev rfl) (rdb h2 (vs := [(.slice zG p0.lines.length zH), (.slice zL p0.ends.length zK), (iv WQ), (.bool zAG)]) (k := 0) rfl 2) rfl) ?_
       refine Tr.va rfl (fun _ _ h1 h2 => QS (h1.ev rfl) (h1.ev rfl)) ?_
       refine Tr.va rfl (fun _ _ h1 h2 => zg (h1.ev rfl)) ?_
       refine Tr.va rfl (fun _ _ h1 h2 => zB zBI (h1.ev rfl)) ?_
       refine Tr.store 0 (cs := [(iv (w64 (WQ + 1)))]) [(.slice zG p0.lines.length zH), (.slice zL p0.ends.length zK), (iv (w64 (WQ + 1))), (.bool zAG)] (wn rfl) rfl rfl rfl rfl zJa rfl rfl rfl ?_
       refine Tr.nil (Tr.zA (Tr.sr (Tr.mv rfl rfl (Tr.mv rfl rfl (Tr.build (vs := [(0, (iv VP)), (1, (sv Qn.2.1))]) (cs := [(iv VP), (sv Qn.2.1), (iv 0), (iv 0), (.slice none 0 0), (iv 0), (iv 0), (.slice none 0 0)]) (wn rfl) rfl (QE rfl (QE rfl Qj)) (by kernel_rfl) ?_)))))
       refine Tr.alloc 50 (wn rfl) rfl zGG fun zCd => ?_
       refine Tr.store 50 (cs := [(iv VP), (sv Qn.2.1), (iv 0), (iv 0), (.slice none 0 0), (iv 0), (iv 0), (.slice none 0 0)]) [(iv VP), (sv Qn.2.1), (iv 0), (iv 0), (.slice none 0 0), (iv 0), (iv 0), (.slice none 0 0)] (wn rfl) rfl rfl rfl rfl Wo rfl rfl rfl ?_
       refine Tr.nil (Tr.zA ?_)
       have leJ324 := Bs.Le.refl w
       refine Tr.zFq (σ := Int × Bool × Int × Int × (List zf) × Int × Int × (List zD) × (Option Addr) × Nat × (Option Addr) × Nat) (fun w s => QQ VZ (zZ N p0 p1 rec zJr) Qn VP s.1 s.2.1 s.2.2.1 s.2.2.2.1 s.2.2.2.2.1 s.2.2.2.2.2.1 s.2.2.2.2.2.2.1 s.2.2.2.2.2.2.2.1 = some r ∧ SlF s.2.2.2.2.2.2.2.2.1 s.2.2.2.2.1.length s.2.2.2.2.2.2.2.2.2.1 ∧ SlF s.2.2.2.2.2.2.2.2.2.2.1 s.2.2.2.2.2.2.2.1.length s.2.2.2.2.2.2.2.2.2.2.2) (fun s => [(0, (.pointer (some ⟨bp0, 0, none⟩))), (1, (.bool p1)), (5, (.slice Vj VZ.length Vi)), (11, (.pointer (some ⟨zCd, 0, none⟩)))]) (fun s => [(0, bx bp0 #[(.slice zG p0.lines.length zH), (.slice zL p0.ends.length zK), (iv s.1), (.bool s.2.1)] 69), (2, ow Vj Vi 80 zC VZ), (50, bx zCd #[(iv VP), (sv Qn.2.1), (iv s.2.2.1), (iv s.2.2.2.1), (.slice s.2.2.2.2.2.2.2.2.1 s.2.2.2.2.1.length s.2.2.2.2.2.2.2.2.2.1), (iv s.2.2.2.2.2.1), (iv s.2.2.2.2.2.2.1), (.slice s.2.2.2.2.2.2.2.2.2.2.1 s.2.2.2.2.2.2.2.1.length s.2.2.2.2.2.2.2.2.2.2.2)] 80), (60, ow s.2.2.2.2.2.2.2.2.1 s.2.2.2.2.2.2.2.2.2.1 52 QM s.2.2.2.2.1), (61, ow s.2.2.2.2.2.2.2.2.2.2.1 s.2.2.2.2.2.2.2.2.2.2.2 80 zC s.2.2.2.2.2.2.2.1)]) ?_ ?_
       ·refine Tr.sr (Tr.mv rfl rfl (Tr.nil (Tr.zA (Tr.block ?_))))
        have leJ333 := Bs.Le.refl w
        refine Tr.zFq (σ := Bool) (fun w s => zy N p0 rec WQ zAG VZ (zZ N p0 p1 rec zJr) Qn VP s = some r) (fun s => [(0, (.pointer (some ⟨bp0, 0, none⟩))), (1, (.bool p1)), (5, (.slice Vj VZ.length Vi)), (8, (.slice Jh Qn.2.2.1.length KF)), (11, (.pointer (some ⟨zCd, 0, none⟩))), (68, (iv VP)), (69, (.bool s))]) (fun s => [(0, bx bp0 #[(.slice zG p0.lines.length zH), (.slice zL p0.ends.length zK), (iv (w64 (WQ + 1))), (.bool zAG)] 69), (2, ow Vj Vi 80 zC VZ), (49, ow Jh KF 3 QT Qn.2.2.1), (50, bx zCd #[(iv VP), (sv Qn.2.1), (iv 0), (iv 0), (.slice none 0 0), (iv 0), (iv 0), (.slice none 0 0)] 80)]) ?_ ?_
        ·refine Tr.sr (Tr.va rfl (fun _ _ h1 h2 => QY (h1.ev rfl) (h1.ev rfl)) ?_)
         refine Tr.asg rfl rfl (Tr.nil (Tr.zA (Tr.cond rfl H (fun H => ?_) (fun H => ?_))))
         ·exact Tr.skip (Tr.zb leJ333 (VP == 4) H (.cons rfl (.cons rfl (.cons rfl (.cons rfl (.cons rfl (.cons rfl (.cons rfl .nil))))))) (.cons rfl (.cons rfl (.cons rfl (.cons rfl .nil)))))
         ·refine Tr.sr (Tr.va rfl (fun _ _ h1 h2 => QY (h1.ev rfl) (h1.ev rfl)) ?_)
          refine Tr.asg rfl rfl (Tr.nil (Tr.zA (Tr.cond rfl H (fun H => ?_) (fun H => ?_))))
          ·exact Tr.skip (Tr.zb leJ333 (VP == 5) H (.cons rfl (.cons rfl (.cons rfl (.cons rfl (.cons rfl (.cons rfl (.cons rfl .nil))))))) (.cons rfl (.cons rfl (.cons rfl (.cons rfl .nil)))))
          ·refine Tr.region (Tr.va rfl (fun _ _ h1 h2 => QY (h1.ev rfl) (h1.ev rfl)) ?_)
           exact Tr.asg rfl rfl (Tr.nil (Tr.zb leJ333 (VP == 6) H (.cons rfl (.cons rfl (.cons rfl (.cons rfl (.cons rfl (.cons rfl (.cons rfl .nil))))))) (.cons rfl (.cons rfl (.cons rfl (.cons rfl .nil))))))
        ·intro w x332 hlJ334 hs
         have H := hs
         replace H : zy N p0 rec WQ zAG VZ (zZ N p0 p1 rec zJr) Qn VP x332 = some r := H
         replace hT := hT.ext hlJ334.ext
         replace ze := ze.leR hlJ334
         replace KE := KE.leR hlJ334
         replace leB := leB.trans hlJ334
         replace leJ324 := leJ324.trans hlJ334
         unfold zy at H
         show Tr _ _ (LF [(0, (.pointer (some ⟨bp0, 0, none⟩))), (1, (.bool p1)), (5, (.slice Vj VZ.length Vi)), (8, (.slice Jh Qn.2.2.1.length KF)), (11, (.pointer (some ⟨zCd, 0, none⟩))), (68, (iv VP)), (69, (.bool x332))]) (LE [(0, bx bp0 #[(.slice zG p0.lines.length zH), (.slice zL p0.ends.length zK), (iv (w64 (WQ + 1))), (.bool zAG)] 69), (2, ow Vj Vi 80 zC VZ), (49, ow Jh KF 3 QT Qn.2.2.1), (50, bx zCd #[(iv VP), (sv Qn.2.1), (iv 0), (iv 0), (.slice none 0 0), (iv 0), (iv 0), (.slice none 0 0)] 80)]) _
         refine Tr.cond rfl H (fun H => ?_) (fun H => ?_)
         ·refine Tr.drawTail 6 (by kernel_rfl) (by kernel_rfl) ?_
          refine Tq.mv rfl rfl ?_
          obtain ⟨x335, hx335, H⟩ := bnd H
          obtain ⟨hx3350, hx3351, hx3352⟩ := zw hx335
          refine Tq.va rfl (fun _ _ h1 h2 => zN zAb (h1.ev rfl) zCq (h1.ev rfl) hx3350 hx3351) ?_
          refine Tq.va rfl (fun _ _ h1 h2 => zF Qu (h1.ev rfl) (rdo Vy (k := 49) h2 rfl hx3352) rfl) ?_
          refine Tq.mv rfl rfl ?_
          obtain ⟨x336, hx336, H⟩ := bnd H
          obtain ⟨hx3360, hx3361, hx3362⟩ := zw hx336
          refine Tq.va rfl (fun _ _ h1 h2 => zN zAb (h1.ev rfl) zCq (h1.ev rfl) hx3360 hx3361) ?_
          refine Tq.va rfl (fun _ _ h1 h2 => zF Qu (h1.ev rfl) (rdo Vy (k := 49) h2 rfl hx3362) rfl) ?_
          refine Tq.nil (Tr.build (vs := [(0, (iv x335)), (1, (iv x336))]) (cs := [(iv x335), (iv x336)]) (wn rfl) rfl (QE rfl (QE rfl Qj)) (by kernel_rfl) ?_)
          refine Tr.va rfl (fun _ _ h1 h2 => zB zBH (h1.ev rfl)) ?_
          refine Tr.store 50 (cs := [(iv x335), (iv x336)]) [(iv VP), (sv Qn.2.1), (iv x335), (iv x336), (.slice none 0 0), (iv 0), (iv 0), (.slice none 0 0)] (wn rfl) rfl rfl rfl rfl Wx rfl rfl rfl ?_
          refine Tr.nil (Tr.zi (Tr.JZ 60 52 QM ?_))
          refine Tr.JZ 61 80 zC ?_
          exact Tr.zb leJ324 ((w64 (WQ + 1)), zAG, x335, x336, ([] : List zf), 0, 0, ([] : List zD), none, 0, none, 0) ⟨H, Qr, Qr⟩ (.cons rfl (.cons rfl (.cons rfl (.cons rfl .nil)))) (.cons rfl (.cons rfl (.cons rfl (.cons rfl (.cons rfl .nil)))))
         ·refine Tr.sr (Tr.va rfl (fun _ _ h1 h2 => QY (h1.ev rfl) (h1.ev rfl)) ?_)
          refine Tr.asg rfl rfl (Tr.nil (Tr.zA (Tr.cond rfl H (fun H => ?_) (fun H => ?_))))
          ·refine Tr.sr (Tr.asg rfl rfl (Tr.nil (Tr.zA (Tr.block (Tr.JZ 69 52 QM ?_)))))
           refine Tr.loop (σ := (List zf) × Int × (Option Addr) × Nat) (fun m w s => Qe WQ zAG VZ (zZ N p0 p1 rec zJr) Qn VP m s.1 s.2.1 = some r ∧ SlF s.2.2.1 s.1.length s.2.2.2) (fun s => [(0, (.pointer (some ⟨bp0, 0, none⟩))), (1, (.bool p1)), (5, (.slice Vj VZ.length Vi)), (8, (.slice Jh Qn.2.2.1.length KF)), (11, (.pointer (some ⟨zCd, 0, none⟩))), (12, (iv s.2.1))]) (fun s => [(0, bx bp0 #[(.slice zG p0.lines.length zH), (.slice zL p0.ends.length zK), (iv (w64 (WQ + 1))), (.bool zAG)] 69), (2, ow Vj Vi 80 zC VZ), (49, ow Jh KF 3 QT Qn.2.2.1), (50, bx zCd #[(iv VP), (sv Qn.2.1), (iv 0), (iv 0), (.slice s.2.2.1 s.1.length s.2.2.2), (iv 0), (iv 0), (.slice none 0 0)] 80), (69, ow s.2.2.1 s.2.2.2 52 QM s.1)]) N (([] : List zf), 0, none, 0) ⟨H, Qr⟩ (.cons rfl (.cons rfl (.cons rfl (.cons rfl (.cons rfl (.cons rfl .nil)))))) (.cons rfl (.cons rfl (.cons rfl (.cons rfl (.cons rfl .nil))))) (fun _ _ h => WM (h.1)) ?_
           intro w leL15 mL15 s hs
           obtain ⟨zG5, zFW, zHi, zHQ⟩ := s
           obtain ⟨H, hl351⟩ := hs
           replace H : Qe WQ zAG VZ (zZ N p0 p1 rec zJr) Qn VP (mL15 + 1) zG5 zFW = some r := H
           replace hT := hT.ext leL15.ext
           replace leJ324 := leJ324.trans leL15
           replace hl351 : SlF zHi zG5.length zHQ := hl351
           rw [Qe.eq_2] at H
           show Tr _ _ (LF [(0, (.pointer (some ⟨bp0, 0, none⟩))), (1, (.bool p1)), (5, (.slice Vj VZ.length Vi)), (8, (.slice Jh Qn.2.2.1.length KF)), (11, (.pointer (some ⟨zCd, 0, none⟩))), (12, (iv zFW))]) (LE [(0, bx bp0 #[(.slice zG p0.lines.length zH), (.slice zL p0.ends.length zK), (iv (w64 (WQ + 1))), (.bool zAG)] 69), (2, ow Vj Vi 80 zC VZ), (49, ow Jh KF 3 QT Qn.2.2.1), (50, bx zCd #[(iv VP), (sv Qn.2.1), (iv 0), (iv 0), (.slice zHi zG5.length zHQ), (iv 0), (iv 0), (.slice none 0 0)] 80), (69, ow zHi zHQ 52 QM zG5)]) _
           refine Tr.seq (Tr.sr (Tr.mv rfl rfl (Tr.mv rfl rfl (Tr.va rfl (fun _ _ h1 h2 => QG zEH (h1.ev rfl)) ?_))))
           refine Tr.va rfl (fun _ _ h1 h2 => QV (h1.ev rfl) (h1.ev rfl)) ?_
           refine Tr.nil (Tr.zA (Tr.cond rfl H (fun H => ?_) (fun H => ?_)))
           ·refine Tr.skip (Tr.zA (Tr.seq (Tr.block ?_)))
            obtain ⟨zGO, hx354, H⟩ := bnd H
            obtain ⟨hx3540, hx3541, hx3542⟩ := zw hx354
            obtain ⟨zGN, hx355, H⟩ := bnd H
            obtain ⟨hx3550, hx3551, hx3552⟩ := zw hx355
            refine Tr.drawF 13 [(12, .makeFunc (.func 0) #[] #[.tmp 100])] [(12, ⟨101, 70, (.func (.func 0) #[] #[(.agg #[(iv zGO), (iv zGN)])]), fun b => .slice (some ⟨b, 0, none⟩) 1 1, fun b => bx b #[(iv zGO), (iv zGN)] 52⟩)] [(0, (.pointer (some ⟨bp0, 0, none⟩))), (1, (.bool p1)), (5, (.slice Vj VZ.length Vi)), (8, (.slice Jh Qn.2.2.1.length KF)), (11, (.pointer (some ⟨zCd, 0, none⟩))), (12, (iv zFW)), (83, (iv zFW)), (84, (.slice Jh Qn.2.2.1.length KF)), (85, (iv (Qn.2.2.1.length : Int))), (86, (.bool (decide (zFW < (Qn.2.2.1.length : Int))))), (89, (.pointer (some ⟨zCd, 4, none⟩))), (90, (.slice zHi zG5.length zHQ)), (91, (.slice Jh Qn.2.2.1.length KF)), (92, (iv zFW)), (93, (.pointer (some ⟨adB Jh, adO Jh + (zFW).toNat * 1, none⟩))), (94, (iv zGO)), (95, (.slice Jh Qn.2.2.1.length KF)), (96, (iv zFW)), (97, (iv (w64 (zFW + 1)))), (98, (.pointer (some ⟨adB Jh, adO Jh + ((w64 (zFW + 1))).toNat * 1, none⟩))), (99, (iv zGN)), (100, (.agg #[(iv zGO), (iv zGN)])), (101, (.func (.func 0) #[] #[(.agg #[(iv zGO), (iv zGN)])]))] (by kernel_rfl) (by kernel_rfl) (by kernel_rfl) (by kernel_rfl) (by kernel_rfl) (by kernel_rfl) (by kernel_rfl) (Vr (fr_lit (vs := [(0, (.agg #[(iv zGO), (iv zGN)]))]) rfl rfl rfl (by kernel_rfl)) Wp) (Vr rfl Wp) (Vr rfl Wp) ?_ ?_
            ·refine Tq.va rfl (fun _ _ h1 h2 => zB zBG (h1.ev rfl)) ?_
             refine Tq.va rfl (fun _ _ h1 h2 => zF zFs (h1.ev rfl) (rdb h2 (vs := [(iv VP), (sv Qn.2.1), (iv 0), (iv 0), (.slice zHi zG5.length zHQ), (iv 0), (iv 0), (.slice none 0 0)]) (k := 50) rfl 4) rfl) ?_
             refine Tq.mv rfl rfl (Tq.mv rfl rfl (Tq.va rfl (fun _ _ h1 h2 => zN zAb (h1.ev rfl) zCq (h1.ev rfl) hx3540 hx3541) ?_))
             refine Tq.va rfl (fun _ _ h1 h2 => zF Qu (h1.ev rfl) (rdo Vy (k := 49) h2 rfl hx3542) rfl) ?_
             refine Tq.mv rfl rfl (Tq.mv rfl rfl (Tq.va rfl (fun _ _ h1 h2 => QS (h1.ev rfl) (h1.ev rfl)) ?_))
             refine Tq.va rfl (fun _ _ h1 h2 => zN zAb (h1.ev rfl) zCq (h1.ev rfl) hx3550 hx3551) ?_
             refine Tq.va rfl (fun _ _ h1 h2 => zF Qu (h1.ev rfl) (rdo Vy (k := 49) h2 rfl hx3552) rfl) ?_
             refine Tq.build (vs := [(0, (iv zGO)), (1, (iv zGN))]) (cs := [(iv zGO), (iv zGN)]) (wn rfl) rfl (QE rfl (QE rfl Qj)) (by kernel_rfl) ?_
             refine Tq.zFg (vs := [(.agg #[(iv zGO), (iv zGN)])]) (wn rfl) rfl (zI rfl zT) ?_
             exact Tq.fin (.cons rfl (.cons rfl (.cons rfl (.cons rfl (.cons rfl (.cons rfl (.cons rfl (.cons rfl (.cons rfl (.cons rfl (.cons rfl (.cons rfl (.cons rfl (.cons rfl (.cons rfl (.cons rfl (.cons rfl (.cons rfl (.cons rfl (.cons rfl (.cons rfl (.cons rfl (.cons rfl .nil)))))))))))))))))))))))
            ·intro bs353
             refine Tr.sel (lf := [(0, (.pointer (some ⟨bp0, 0, none⟩))), (1, (.bool p1)), (5, (.slice Vj VZ.length Vi)), (8, (.slice Jh Qn.2.2.1.length KF)), (11, (.pointer (some ⟨zCd, 0, none⟩))), (12, (iv zFW)), (90, (.slice zHi zG5.length zHQ)), (101, (.slice (some ⟨(bs353 12), 0, none⟩) 1 1))]) (le := [(0, bx bp0 #[(.slice zG p0.lines.length zH), (.slice zL p0.ends.length zK), (iv (w64 (WQ + 1))), (.bool zAG)] 69), (2, ow Vj Vi 80 zC VZ), (49, ow Jh KF 3 QT Qn.2.2.1), (50, bx zCd #[(iv VP), (sv Qn.2.1), (iv 0), (iv 0), (.slice zHi zG5.length zHQ), (iv 0), (iv 0), (.slice none 0 0)] 80), (69, ow zHi zHQ 52 QM zG5), (70, bx (bs353 12) #[(iv zGO), (iv zGN)] 52)]) (.cons rfl (.cons rfl (.cons rfl (.cons rfl (.cons rfl (.cons rfl (.cons rfl (.cons rfl .nil)))))))) (.cons rfl (.cons rfl (.cons rfl (.cons rfl (.cons rfl (.cons rfl .nil)))))) ?_
             obtain ⟨l356, hl356, H⟩ := bnd H
             refine Tr.append 69 (t := QM) (l := zG5) (l2 := [(zf.mk zGO zGN)]) (wn rfl) rfl rfl rfl rfl (fun W hW => ⟨[[(iv zGO), (iv zGN)]], (.cons ⟨(), trivial, rfl⟩ .nil), rdb hW (vs := [(iv zGO), (iv zGN)]) (k := 70) rfl 0⟩) zCM Wx zl_52 (by decide) by_52 rfl hl356 fun Al356 cl356 hAl356 => ?_
             refine Tr.va rfl (fun _ _ h1 h2 => zB zBG (h1.ev rfl)) ?_
             refine Tr.store 50 (cs := [(.slice Al356 l356.length cl356)]) [(iv VP), (sv Qn.2.1), (iv 0), (iv 0), (.slice Al356 l356.length cl356), (iv 0), (iv 0), (.slice none 0 0)] (wn rfl) rfl rfl rfl rfl sz_78 rfl rfl rfl ?_
             refine Tr.nil (Tr.zi (Tr.zA (Tr.region (Tr.mv rfl rfl (Tr.va rfl (fun _ _ h1 h2 => QS (h1.ev rfl) (h1.ev rfl)) ?_)))))
             exact Tr.asg rfl rfl (Tr.nil (Tr.zb leL15 (l356, (w64 (zFW + 2)), Al356, cl356) ⟨H, hAl356⟩ (.cons rfl (.cons rfl (.cons rfl (.cons rfl (.cons rfl (.cons rfl .nil)))))) (.cons rfl (.cons rfl (.cons rfl (.cons rfl (.cons rfl .nil)))))))
           ·refine Tr.exit (Tr.zx (Tr.zx (Tr.Qd (Tr.zi (Tr.ren 69 60 rfl rfl rfl ?_)))))
            refine Tr.JZ 61 80 zC ?_
            exact Tr.zb leJ324 ((w64 (WQ + 1)), zAG, 0, 0, zG5, 0, 0, ([] : List zD), zHi, zHQ, none, 0) ⟨H, hl351, Qr⟩ (.cons rfl (.cons rfl (.cons rfl (.cons rfl .nil)))) (.cons rfl (.cons rfl (.cons rfl (.cons rfl (.cons rfl .nil)))))
          ·refine Tr.sr (Tr.va rfl (fun _ _ h1 h2 => QY (h1.ev rfl) (h1.ev rfl)) ?_)
           refine Tr.asg rfl rfl (Tr.nil (Tr.zA (Tr.cond rfl H (fun H => ?_) (fun H => ?_))))
           ·refine Tr.seq (Tr.zGK 17 [(14, fun x => x = zCd), (16, fun x => x = zCd)] [] (by kernel_rfl) (by kernel_rfl) fun sz357 hlosz357 hEsz357 => ?_)
            refine Dr.quiet 0 [(106, (.slice Jh Qn.2.2.1.length KF))] (by kernel_rfl) rfl rfl (by kernel_rfl) ?_ rfl rfl ?_
            ·exact Tq.mv rfl rfl (Tq.fin (.cons rfl .nil))
            obtain ⟨x358, hx358, H⟩ := bnd H
            obtain ⟨hx3580, hx3581, hx3582⟩ := zw hx358
            refine Dr.quiet 1 [(107, (.pointer (some ⟨adB Jh, adO Jh + ((0 : Int)).toNat * 1, none⟩)))] (by kernel_rfl) rfl rfl (by kernel_rfl) ?_ rfl rfl ?_
            ·refine Tq.va rfl (fun _ _ h1 h2 => zN zAb (h1.ev rfl) zCq (h1.ev rfl) hx3580 hx3581) ?_
             exact Tq.fin (.cons rfl .nil)
            refine Dr.quiet 2 [(108, (iv x358))] (by kernel_rfl) rfl rfl (by kernel_rfl) ?_ rfl rfl ?_
            ·refine Tq.va rfl (fun _ _ h1 h2 => zF Qu (h1.ev rfl) (rdo Vy (k := 49) h2 rfl hx3582) rfl) ?_
             exact Tq.fin (.cons rfl .nil)
            refine Dr.JR 3 (by kernel_rfl) rfl (wn rfl) rfl (by kernel_rfl) (fun _ _ h1 => run_move (h1.ev rfl)) rfl ?_
            obtain ⟨x359, hx359, H⟩ := bnd H
            obtain ⟨hx3590, hx3591, hx3592⟩ := zw hx359
            refine Dr.JR 4 (by kernel_rfl) rfl (wn rfl) rfl (by kernel_rfl) (fun _ _ h1 => zN zAb (h1.ev rfl) zCq (h1.ev rfl) hx3590 hx3591) rfl ?_
            refine Dr.zAN 5 [(111, (iv x359))] [14] false (by kernel_rfl) rfl rfl (by kernel_rfl) (fun W W' h2 hsW hk => HF.zB3 (le := [(49, ow Jh KF 3 QT Qn.2.2.1)]) (ks := [(50, fun x => x = zCd)]) (s0 := sz357) false h2 hk (fun h => absurd h (by decide)) (.cons rfl .nil) (fun b hb => hb.elim (fun ⟨p, hp, hf, hb⟩ => by simp only [List.mem_cons, List.not_mem_nil, or_false] at hp; rcases hp with rfl | rfl; exact .inl ⟨_, List.mem_cons_self, hb⟩; exact absurd hf (by simp)) (fun hb => absurd hb.1 (by decide))) (List.forall_mem_cons.2 ⟨fun b hb => hb, (fun _ h => nomatch h)⟩) rfl) ?_ rfl rfl ?_
            ·refine Tq.va rfl (fun _ _ h1 h2 => zF Qu (h1.ev rfl) (rdo Vy (k := 49) h2 rfl hx3592) rfl) ?_
             exact Tq.fin (.cons rfl .nil)
            refine Dr.JR 6 (by kernel_rfl) rfl (wn rfl) rfl (by kernel_rfl) (fun _ _ h1 => run_move (h1.ev rfl)) rfl ?_
            obtain ⟨zJT, hx360, H⟩ := bnd H
            obtain ⟨hx3600, hx3601, hx3602⟩ := zw hx360
            refine Dr.JR 7 (by kernel_rfl) rfl (wn rfl) rfl (by kernel_rfl) (fun _ _ h1 => zN zAb (h1.ev rfl) zCq (h1.ev rfl) hx3600 hx3601) rfl ?_
            refine Dr.zAN 8 [(114, (iv zJT))] [14, 16] false (by kernel_rfl) rfl rfl (by kernel_rfl) (fun W W' h2 hsW hk => HF.zB3 (le := [(49, ow Jh KF 3 QT Qn.2.2.1)]) (ks := [(50, fun x => x = zCd), (50, fun x => x = zCd)]) (s0 := sz357) false h2 hk (fun h => absurd h (by decide)) (.cons rfl .nil) (fun b hb => hb.elim (fun ⟨p, hp, hf, hb⟩ => by simp only [List.mem_cons, List.not_mem_nil, or_false] at hp; rcases hp with rfl | rfl; exact .inl ⟨_, List.mem_cons_self, hb⟩; exact .inl ⟨_, (List.mem_cons_of_mem _ List.mem_cons_self), hb⟩) (fun hb => absurd hb.1 (by decide))) (List.forall_mem_cons.2 ⟨fun b hb => hb, (List.forall_mem_cons.2 ⟨fun b hb => hb, (fun _ h => nomatch h)⟩)⟩) rfl) ?_ rfl rfl ?_
            ·refine Tq.va rfl (fun _ _ h1 h2 => zF Qu (h1.ev rfl) (rdo Vy (k := 49) h2 rfl hx3602) rfl) ?_
             exact Tq.fin (.cons rfl .nil)
            refine Dr.JR 9 (by kernel_rfl) rfl (wn rfl) rfl (by kernel_rfl) (fun _ _ h1 => run_move (h1.ev rfl)) rfl ?_
            obtain ⟨zJS, hx361, H⟩ := bnd H
            obtain ⟨hx3610, hx3611, hx3612⟩ := zw hx361
            refine Dr.JR 10 (by kernel_rfl) rfl (wn rfl) rfl (by kernel_rfl) (fun _ _ h1 => zN zAb (h1.ev rfl) zCq (h1.ev rfl) hx3610 hx3611) rfl ?_
            refine Dr.zAN 11 [(117, (iv zJS))] [14, 16] false (by kernel_rfl) rfl rfl (by kernel_rfl) (fun W W' h2 hsW hk => HF.zB3 (le := [(49, ow Jh KF 3 QT Qn.2.2.1)]) (ks := [(50, fun x => x = zCd), (50, fun x => x = zCd)]) (s0 := sz357) false h2 hk (fun h => absurd h (by decide)) (.cons rfl .nil) (fun b hb => hb.elim (fun ⟨p, hp, hf, hb⟩ => by simp only [List.mem_cons, List.not_mem_nil, or_false] at hp; rcases hp with rfl | rfl; exact .inl ⟨_, List.mem_cons_self, hb⟩; exact .inl ⟨_, (List.mem_cons_of_mem _ List.mem_cons_self), hb⟩) (fun hb => absurd hb.1 (by decide))) (List.forall_mem_cons.2 ⟨fun b hb => hb, (List.forall_mem_cons.2 ⟨fun b hb => hb, (fun _ h => nomatch h)⟩)⟩) rfl) ?_ rfl rfl ?_
            ·refine Tq.va rfl (fun _ _ h1 h2 => zF Qu (h1.ev rfl) (rdo Vy (k := 49) h2 rfl hx3612) rfl) ?_
             exact Tq.fin (.cons rfl .nil)
            refine Dr.zAN 12 [(118, (.agg #[(iv zJT), (iv zJS)]))] [14, 16] false (by kernel_rfl) rfl rfl (by kernel_rfl) (fun W W' h2 hsW hk => HF.zB3 (le := []) (ks := [(50, fun x => x = zCd), (50, fun x => x = zCd)]) (s0 := sz357) false h2 hk (fun h => absurd h (by decide)) .nil (fun b hb => hb.elim (fun ⟨p, hp, hf, hb⟩ => by simp only [List.mem_cons, List.not_mem_nil, or_false] at hp; rcases hp with rfl | rfl; exact .inl ⟨_, List.mem_cons_self, hb⟩; exact .inl ⟨_, (List.mem_cons_of_mem _ List.mem_cons_self), hb⟩) (fun hb => absurd hb.1 (by decide))) (List.forall_mem_cons.2 ⟨fun b hb => hb, (List.forall_mem_cons.2 ⟨fun b hb => hb, (fun _ h => nomatch h)⟩)⟩) rfl) ?_ rfl rfl ?_
            ·refine Tq.build (vs := [(0, (iv zJT)), (1, (iv zJS))]) (cs := [(iv zJT), (iv zJS)]) (wn rfl) rfl (QE rfl (QE rfl Qj)) (by kernel_rfl) ?_
             exact Tq.fin (.cons rfl .nil)
            refine Dr.quiet 13 [(119, (.pointer (some ⟨zCd, 5, none⟩)))] (by kernel_rfl) rfl rfl (by kernel_rfl) ?_ rfl rfl ?_
            ·refine Tq.va rfl (fun _ _ h1 h2 => zB zB7 (h1.ev rfl)) ?_
             exact Tq.fin (.cons rfl .nil)
            refine Dr.one 14 (by kernel_rfl) ?_
            refine St.store 14 50 (cs := [(iv x358)]) [(iv VP), (sv Qn.2.1), (iv 0), (iv 0), (.slice none 0 0), (iv x358), (iv 0), (.slice none 0 0)] rfl (wn rfl) (.inl ⟨_, List.mem_cons_self, rfl, rfl⟩) rfl rfl rfl rfl zJa rfl rfl rfl ?_
            refine Dr.quiet 15 [(120, (.pointer (some ⟨zCd, 6, none⟩)))] (by kernel_rfl) rfl rfl (by kernel_rfl) ?_ rfl rfl ?_
            ·refine Tq.va rfl (fun _ _ h1 h2 => zB zB6 (h1.ev rfl)) ?_
             exact Tq.fin (.cons rfl .nil)
            refine Dr.one 16 (by kernel_rfl) ?_
            refine St.store 16 50 (cs := [(iv x359)]) [(iv VP), (sv Qn.2.1), (iv 0), (iv 0), (.slice none 0 0), (iv x358), (iv x359), (.slice none 0 0)] rfl (wn rfl) (.inl ⟨_, (List.mem_cons_of_mem _ List.mem_cons_self), rfl, rfl⟩) rfl rfl rfl rfl zJa rfl rfl rfl ?_
            refine Dr.tail (by kernel_rfl) ?_
            refine Tr.va rfl (fun _ _ h1 h2 => zB zBH (h1.ev rfl)) ?_
            refine Tr.store 50 (cs := [(iv zJT), (iv zJS)]) [(iv VP), (sv Qn.2.1), (iv zJT), (iv zJS), (.slice none 0 0), (iv x358), (iv x359), (.slice none 0 0)] (wn rfl) rfl rfl rfl rfl Wx rfl rfl rfl ?_
            refine Tr.nil (Tr.zA (Tr.sr (Tr.mv rfl rfl ?_)))
            obtain ⟨zCk, hy362, H⟩ := bnd H
            refine Tr.zEX [0, 71] [bx bp0 #[(.slice zG p0.lines.length zH), (.slice zL p0.ends.length zK), (iv (w64 (WQ + 1))), (.bool zAG)] 69, emp] (U := (Option Addr × Nat)) (fun u => (.slice u.1 zCk.1.length u.2)) (fun O W u => SlF u.1 zCk.1.length u.2) (fun u => [bx bp0 #[(.slice zG p0.lines.length zH), (.slice zL p0.ends.length zK), (iv zCk.2.1), (.bool zCk.2.2)] 69, ow u.1 u.2 80 zC zCk.1]) rfl (zO rfl (zO rfl QH)) (fun _ => rfl) (wn rfl) rfl Tryz.call23 (zI rfl (zI rfl zT)) (fun W hW hp hE => hrec (hT.ext (hW.zCb hp)) (zh.mk p0.lines p0.ends (w64 (WQ + 1)) zAG) zG zH (ze.ext (hW.zCb hp)) zL zK (KE.ext (hW.zCb hp)) bp0 true zCk hy362 hE) ?_
            intro w u le363 hu
            obtain ⟨zF8, zF7⟩ := u
            have gy362_0 := hu
            replace hT := hT.ext le363.ext
            replace leB := leB.trans le363
            replace leJ324 := leJ324.trans le363
            have hgy362_0 : SlF zF8 zCk.1.length zF7 := gy362_0 --@phi
            show Tr _ _ (uf _ 123 (.slice zF8 zCk.1.length zF7)) (up (up _ 71 (ow zF8 zF7 80 zC zCk.1)) 0 (bx bp0 #[(.slice zG p0.lines.length zH), (.slice zL p0.ends.length zK), (iv zCk.2.1), (.bool zCk.2.2)] 69)) _
            refine Tr.va rfl (fun _ _ h1 h2 => zB zAB (h1.ev rfl)) ?_
            refine Tr.store 50 (cs := [(.slice zF8 zCk.1.length zF7)]) [(iv VP), (sv Qn.2.1), (iv zJT), (iv zJS), (.slice none 0 0), (iv x358), (iv x359), (.slice zF8 zCk.1.length zF7)] (wn rfl) rfl rfl rfl rfl sz_23 rfl rfl rfl ?_
            refine Tr.nil (Tr.zA (Tr.sr (Tr.mv rfl rfl (Tr.va rfl (fun _ _ h1 h2 => zg (h1.ev rfl)) ?_))))
            refine Tr.va rfl (fun _ _ h1 h2 => zB zIt (h1.ev rfl)) ?_
            refine Tr.va rfl (fun _ _ h1 h2 => zF zFt (h1.ev rfl) (rdb h2 (vs := [(.slice zG p0.lines.length zH), (.slice zL p0.ends.length zK), (iv zCk.2.1), (.bool zCk.2.2)]) (k := 0) rfl 3) rfl) ?_
            refine Tr.nil (Tr.zA (Tr.cond rfl H (fun H => ?_) (fun H => ?_)))
            ·refine Tr.sr (Tr.mv rfl rfl (Tr.asg rfl rfl (Tr.nil (Tr.zA (Tr.ret (Tr.zW (Tr.zM (Tr.zW (Tr.zM (Tr.zW (Tr.zM ?_)))))))))))
             obtain rfl := Option.some.inj H
             exact Tr.out (m := [(.slice Vj VZ.length Vi)]) [] (zJ rfl zR) (fun W hW => ⟨w, (Vj, Vi), leB, rfl, hl279, hW.pick (ks := [0, 2]) (by decide) (zO rfl (zO rfl QH))⟩)
            ·refine Tr.skip (Tr.zi (Tr.JZ 60 52 QM ?_))
             refine Tr.ren 71 61 rfl rfl rfl ?_
             exact Tr.zb leJ324 (zCk.2.1, zCk.2.2, zJT, zJS, ([] : List zf), x358, x359, zCk.1, none, 0, zF8, zF7) ⟨H, Qr, hgy362_0⟩ (.cons rfl (.cons rfl (.cons rfl (.cons rfl .nil)))) (.cons rfl (.cons rfl (.cons rfl (.cons rfl (.cons rfl .nil)))))
           ·refine Tr.skip (Tr.zi (Tr.JZ 60 52 QM ?_))
            refine Tr.JZ 61 80 zC ?_
            exact Tr.zb leJ324 ((w64 (WQ + 1)), zAG, 0, 0, ([] : List zf), 0, 0, ([] : List zD), none, 0, none, 0) ⟨H, Qr, Qr⟩ (.cons rfl (.cons rfl (.cons rfl (.cons rfl .nil)))) (.cons rfl (.cons rfl (.cons rfl (.cons rfl (.cons rfl .nil)))))
       ·intro w s hlJ325 hs
        obtain ⟨x316, x317, zJU, zAu, zIk, zCS, zCR, zIj, zHk, zHS, zHj, zHR⟩ := s
        obtain ⟨H, hl320, hl323⟩ := hs
        replace H : QQ VZ (zZ N p0 p1 rec zJr) Qn VP x316 x317 zJU zAu zIk zCS zCR zIj = some r := H
        replace hT := hT.ext hlJ325.ext
        replace zFi := zFi.trans hlJ325
        unfold QQ at H
        show Tr _ _ (LF [(0, (.pointer (some ⟨bp0, 0, none⟩))), (1, (.bool p1)), (5, (.slice Vj VZ.length Vi)), (11, (.pointer (some ⟨zCd, 0, none⟩)))]) (LE [(0, bx bp0 #[(.slice zG p0.lines.length zH), (.slice zL p0.ends.length zK), (iv x316), (.bool x317)] 69), (2, ow Vj Vi 80 zC VZ), (50, bx zCd #[(iv VP), (sv Qn.2.1), (iv zJU), (iv zAu), (.slice zHk zIk.length zHS), (iv zCS), (iv zCR), (.slice zHj zIj.length zHR)] 80), (60, ow zHk zHS 52 QM zIk), (61, ow zHj zHR 80 zC zIj)]) _
        refine Tr.region (Tr.mv rfl rfl (Tr.va rfl (fun _ _ h1 h2 => zu (cs := [(iv VP), (sv Qn.2.1), (iv zJU), (iv zAu), (.slice zHk zIk.length zHS), (iv zCS), (iv zCR), (.slice zHj zIj.length zHR)]) zDA Wo (h1.ev rfl) (za.take (rdb h2 (vs := [(iv VP), (sv Qn.2.1), (iv zJU), (iv zAu), (.slice zHk zIk.length zHS), (iv zCS), (iv zCR), (.slice zHj zIj.length zHR)]) (k := 50) rfl 0) 8) rfl) ?_))
        refine Tr.freeze 60 rfl fun w le327 hz326 => ?_
        replace hT := hT.ext le327.ext
        replace zFi := zFi.trans le327
        refine Tr.freeze 61 rfl fun w le329 hz328 => ?_
        replace hT := hT.ext le329.ext
        replace hz326 := hz326.le le329
        replace zFi := zFi.trans le329
        refine Tr.buildSlice 62 (e := 80) (vs := [(0, (.agg #[(iv VP), (sv Qn.2.1), (iv zJU), (iv zAu), (.slice zHk zIk.length zHS), (iv zCS), (iv zCR), (.slice zHj zIj.length zHR)]))]) (cs := [(iv VP), (sv Qn.2.1), (iv zJU), (iv zAu), (.slice zHk zIk.length zHS), (iv zCS), (iv zCR), (.slice zHj zIj.length zHR)]) (wn rfl) rfl (QE rfl Qj) (by kernel_rfl) fun b330 => ?_
        obtain ⟨l331, hl331, H⟩ := bnd H
        refine Tr.append 2 (t := zC) (l := VZ) (l2 := [(zD.mk VP Qn.2.1 (zf.mk zJU zAu) zIk zCS zCR zIj)]) (wn rfl) rfl rfl rfl rfl (fun W hW => ⟨[[(iv VP), (sv Qn.2.1), (iv zJU), (iv zAu), (.slice zHk zIk.length zHS), (iv zCS), (iv zCR), (.slice zHj zIj.length zHR)]], (.cons ⟨((zHk, zHS), (zHj, zHR)), (Jc.2 ⟨hz326, hz328⟩), rfl⟩ .nil), rdb hW (vs := [(iv VP), (sv Qn.2.1), (iv zJU), (iv zAu), (.slice zHk zIk.length zHS), (iv zCS), (iv zCR), (.slice zHj zIj.length zHR)]) (k := 62) rfl 0⟩) zBx Wo zl_80 (by decide) by_80 rfl hl331 fun Al331 cl331 hAl331 => ?_
        exact Tr.asg rfl rfl (Tr.nil (Tr.zi (Tr.zb zFi (x316, x317, l331, Al331, cl331) ⟨H, hAl331⟩ (.cons rfl (.cons rfl (.cons rfl .nil))) (.cons rfl (.cons rfl .nil)))))
 ·refine Tr.exit (Tr.zx (Tr.zx (Tr.Qd (Tr.zA (Tr.sr (Tr.mv rfl rfl (Tr.mv rfl rfl (Tr.va rfl (fun _ _ h1 h2 => zg (h1.ev rfl)) ?_))))))))
  refine Tr.va rfl (fun _ _ h1 h2 => zB zIt (h1.ev rfl)) ?_
  refine Tr.store 0 (cs := [(.bool p1)]) [(.slice zG p0.lines.length zH), (.slice zL p0.ends.length zK), (iv WQ), (.bool p1)] (wn rfl) rfl rfl rfl rfl sz_4 rfl rfl rfl ?_
  refine Tr.nil (Tr.zA (Tr.sr (Tr.mv rfl rfl (Tr.asg rfl rfl (Tr.nil (Tr.zA (Tr.ret ?_)))))))
  obtain rfl := Option.some.inj H
  exact Tr.out (m := [(.slice Vj VZ.length Vi)]) [] (zJ rfl zR) (fun W hW => ⟨w, (Vj, Vi), leB, rfl, hl279, hW.pick (ks := [0, 2]) (by decide) (zO rfl (zO rfl QH))⟩)
theorem zAE : ∀ (N : Nat) {w : Bs} (hT : Tab Tryz.prog w) (p0 : zh) (zG : Option Addr) (zH : Nat) (ze : Sl w.R w.W JG zG zH p0.lines) (zL : Option Addr) (zK : Nat) (KE : Sl w.R w.W VX zL zK p0.ends) (bp0 : Nat) (p1 : Bool) (r : ((List zD) × Int × Bool)) (H : JW N p0 p1 = some r) (hE : HF w w.W (LEn [bx bp0 #[(.slice zG p0.lines.length zH), (.slice zL p0.ends.length zK), (iv p0.at_), (.bool p0.bad)] 69, emp])), Calls Tryz.prog 23 [(.pointer (some ⟨bp0, 0, none⟩)), (.bool p1)].toArray w.W fun e W' => ∃ (w' : Bs) (u : (Option Addr × Nat)), w.Le w' ∧ e = .returned (.slice u.1 r.1.length u.2) ∧ (SlF u.1 r.1.length u.2) ∧ HF w' W' (LEn [bx bp0 #[(.slice zG p0.lines.length zH), (.slice zL p0.ends.length zK), (iv r.2.1), (.bool r.2.2)] 69, ow u.1 u.2 80 zC r.1])
 | 0 => by intros; rename_i H _; cases H
 | N + 1 => zBj N (JW N) (zAE N)

theorem zDm (N : Nat) {w : Bs} (p0 : ByteArray) (r : Bool) (H : WX N p0 = some r) (hE : HF w w.W E0) : Calls Tryz.prog 43 [(sv p0)].toArray w.W fun e W' => e = .returned (.bool r) ∧ HF w W' E0 := by
 unfold WX at H
 have leB := Bs.Le.refl w
 refine Tr.enter (n := 55) Tryz.func43 rfl rfl rfl hE ?_
 refine Tr.sr (Tr.asg rfl rfl (Tr.nil (Tr.zA (Tr.seq (Tr.sr (Tr.asg rfl rfl (Tr.nil (Tr.zA (Tr.block (Tr.loop (σ := Int) (fun m w s => Jr p0 m s = some r) (fun s => [(0, (sv p0)), (3, (iv s))]) (fun s => []) N 0 H (.cons rfl (.cons rfl .nil)) .nil (fun _ _ h => WM (h)) ?_))))))))))
 intro w Qs mL1 x105 hs
 have H := hs
 replace H : Jr p0 (mL1 + 1) x105 = some r := H
 replace leB := leB.trans Qs
 rw [Jr.eq_2] at H
 show Tr _ _ (LF [(0, (sv p0)), (3, (iv x105))]) (LE []) _
 refine Tr.seq (Tr.sr (Tr.mv rfl rfl (Tr.mv rfl rfl (Tr.va rfl (fun _ _ h1 h2 => Vn zBw (h1.ev rfl)) ?_))))
 refine Tr.va rfl (fun _ _ h1 h2 => QV (h1.ev rfl) (h1.ev rfl)) ?_
 refine Tr.nil (Tr.zA (Tr.cond rfl H (fun H => ?_) (fun H => ?_)))
 ·refine Tr.skip (Tr.zA (Tr.seq (Tr.block (Tr.sr (Tr.mv rfl rfl (Tr.mv rfl rfl ?_))))))
  obtain ⟨c106, hc106, H⟩ := bnd H
  refine Tr.va rfl (fun _ _ h1 h2 => zA6 zBw (h1.ev rfl) (h1.ev rfl) hc106) ?_
  refine Tr.asg rfl rfl (Tr.nil (Tr.zA (Tr.sr (Tr.mv rfl rfl (Tr.va rfl (fun _ _ h1 h2 => zAz (h1.ev rfl) (h1.ev rfl)) ?_)))))
  refine Tr.mv rfl rfl (Tr.Jl 3 [(0, (sv p0)), (3, (iv x105)), (4, (.int .u8 c106)), (20, (.bool ((decide (97 ≤ c106)) && (decide (c106 ≤ 122)))))] [] ?_ ?_)
  ·cases zCs : (decide (97 ≤ c106))
   ·refine Tr.pass rfl rfl rfl rfl rfl (by decide) ?_
    refine Tr.pass rfl rfl rfl rfl rfl (by decide) ?_
    refine Tr.va rfl (fun _ _ h1 h2 => zV (h1.ev rfl) (h1.ev rfl)) ?_
    exact Tr.nil (Tr.QI (.cons rfl (.cons rfl (.cons rfl (.cons rfl .nil)))) .nil)
   ·refine Tr.val (wg rfl rfl rfl) rfl (fun _ _ h1 h2 => run_move (h1.ev rfl)) ?_
    refine Tr.val (wg rfl rfl rfl) rfl (fun _ _ h1 h2 => zAy (h1.ev rfl) (h1.ev rfl)) ?_
    refine Tr.va rfl (fun _ _ h1 h2 => zU (h1.ev rfl) (h1.ev rfl)) ?_
    exact Tr.nil (Tr.QI (.cons rfl (.cons rfl (.cons rfl (.cons rfl .nil)))) .nil)
  ·show Tr _ _ (LF [(0, (sv p0)), (3, (iv x105)), (4, (.int .u8 c106)), (20, (.bool ((decide (97 ≤ c106)) && (decide (c106 ≤ 122)))))]) (LE []) _
   refine Tr.mv rfl rfl (Tr.Jl 7 [(0, (sv p0)), (3, (iv x105)), (4, (.int .u8 c106)), (28, (.bool (((decide (97 ≤ c106)) && (decide (c106 ≤ 122))) || ((decide (65 ≤ c106)) && (decide (c106 ≤ 90))))))] [] ?_ ?_)
   ·cases zCs : ((decide (97 ≤ c106)) && (decide (c106 ≤ 122)))
    ·refine Tr.val (wg rfl rfl rfl) rfl (fun _ _ h1 h2 => run_move (h1.ev rfl)) ?_
     refine Tr.val (wg rfl rfl rfl) rfl (fun _ _ h1 h2 => zAz (h1.ev rfl) (h1.ev rfl)) ?_
     refine Tr.val (wg rfl rfl rfl) rfl (fun _ _ h1 h2 => run_move (h1.ev rfl)) ?_
     refine Tr.Jl 3 [(0, (sv p0)), (3, (iv x105)), (4, (.int .u8 c106)), (21, (.bool false)), (27, (.bool ((decide (65 ≤ c106)) && (decide (c106 ≤ 90)))))] [] ?_ ?_
     ·cases zCs : (decide (65 ≤ c106))
      ·refine Tr.pass rfl rfl rfl rfl rfl (by decide) ?_
       refine Tr.pass rfl rfl rfl rfl rfl (by decide) ?_
       refine Tr.val (wg rfl rfl rfl) rfl (fun _ _ h1 h2 => zV (h1.ev rfl) (h1.ev rfl)) ?_
       exact Tr.nil (Tr.QI (.cons rfl (.cons rfl (.cons rfl (.cons rfl (.cons rfl .nil))))) .nil)
      ·refine Tr.val (wg rfl rfl rfl) rfl (fun _ _ h1 h2 => run_move (h1.ev rfl)) ?_
       refine Tr.val (wg rfl rfl rfl) rfl (fun _ _ h1 h2 => zAy (h1.ev rfl) (h1.ev rfl)) ?_
       refine Tr.val (wg rfl rfl rfl) rfl (fun _ _ h1 h2 => zU (h1.ev rfl) (h1.ev rfl)) ?_
       exact Tr.nil (Tr.QI (.cons rfl (.cons rfl (.cons rfl (.cons rfl (.cons rfl .nil))))) .nil)
     ·show Tr _ _ (LF [(0, (sv p0)), (3, (iv x105)), (4, (.int .u8 c106)), (21, (.bool false)), (27, (.bool ((decide (65 ≤ c106)) && (decide (c106 ≤ 90)))))]) (LE []) _
      refine Tr.va rfl (fun _ _ h1 h2 => zV (h1.ev rfl) (h1.ev rfl)) ?_
      exact Tr.nil (Tr.QI (.cons rfl (.cons rfl (.cons rfl (.cons rfl .nil)))) .nil)
    ·refine Tr.pass rfl rfl rfl rfl rfl (by decide) ?_
     refine Tr.pass rfl rfl rfl rfl rfl (by decide) ?_
     refine Tr.pass rfl rfl rfl rfl rfl (by decide) ?_
     refine Tr.QX rfl rfl rfl rfl (by decide) ?_
     refine Tr.QX rfl rfl rfl rfl (by decide) ?_
     refine Tr.pass rfl rfl rfl rfl rfl (by decide) ?_
     refine Tr.va rfl (fun _ _ h1 h2 => zU (h1.ev rfl) (h1.ev rfl)) ?_
     exact Tr.nil (Tr.QI (.cons rfl (.cons rfl (.cons rfl (.cons rfl .nil)))) .nil)
   ·show Tr _ _ (LF [(0, (sv p0)), (3, (iv x105)), (4, (.int .u8 c106)), (28, (.bool (((decide (97 ≤ c106)) && (decide (c106 ≤ 122))) || ((decide (65 ≤ c106)) && (decide (c106 ≤ 90))))))]) (LE []) _
    refine Tr.asg rfl rfl (Tr.nil (Tr.zA (Tr.sr (Tr.mv rfl rfl (Tr.va rfl (fun _ _ h1 h2 => Qb (h1.ev rfl)) ?_)))))
    refine Tr.mv rfl rfl (Tr.Jl 20 [(0, (sv p0)), (3, (iv x105)), (51, (.bool ((!(((decide (97 ≤ c106)) && (decide (c106 ≤ 122))) || ((decide (65 ≤ c106)) && (decide (c106 ≤ 90))))) && ((x105 == 0) || (((c106 != 95) && (c106 != 45)) && (!((decide (48 ≤ c106)) && (decide (c106 ≤ 57)))))))))] [] ?_ ?_)
    ·cases zCs : (!(((decide (97 ≤ c106)) && (decide (c106 ≤ 122))) || ((decide (65 ≤ c106)) && (decide (c106 ≤ 90)))))
     ·refine Tr.pass rfl rfl rfl rfl rfl (by decide) ?_
      refine Tr.pass rfl rfl rfl rfl rfl (by decide) ?_
      refine Tr.pass rfl rfl rfl rfl rfl (by decide) ?_
      refine Tr.QX rfl rfl rfl rfl (by decide) ?_
      refine Tr.QX rfl rfl rfl rfl (by decide) ?_
      refine Tr.QX rfl rfl rfl rfl (by decide) ?_
      refine Tr.QX rfl rfl rfl rfl (by decide) ?_
      refine Tr.QX rfl rfl rfl rfl (by decide) ?_
      refine Tr.QX rfl rfl rfl rfl (by decide) ?_
      refine Tr.QX rfl rfl rfl rfl (by decide) ?_
      refine Tr.QX rfl rfl rfl rfl (by decide) ?_
      refine Tr.QX rfl rfl rfl rfl (by decide) ?_
      refine Tr.QX rfl rfl rfl rfl (by decide) ?_
      refine Tr.QX rfl rfl rfl rfl (by decide) ?_
      refine Tr.QX rfl rfl rfl rfl (by decide) ?_
      refine Tr.QX rfl rfl rfl rfl (by decide) ?_
      refine Tr.QX rfl rfl rfl rfl (by decide) ?_
      refine Tr.QX rfl rfl rfl rfl (by decide) ?_
      refine Tr.pass rfl rfl rfl rfl rfl (by decide) ?_
      refine Tr.va rfl (fun _ _ h1 h2 => zV (h1.ev rfl) (h1.ev rfl)) ?_
      exact Tr.nil (Tr.QI (.cons rfl (.cons rfl (.cons rfl .nil))) .nil)
     ·refine Tr.val (wg rfl rfl rfl) rfl (fun _ _ h1 h2 => run_move (h1.ev rfl)) ?_
      refine Tr.val (wg rfl rfl rfl) rfl (fun _ _ h1 h2 => QY (h1.ev rfl) (h1.ev rfl)) ?_
      refine Tr.val (wg rfl rfl rfl) rfl (fun _ _ h1 h2 => run_move (h1.ev rfl)) ?_
      refine Tr.Jl 16 [(0, (sv p0)), (3, (iv x105)), (31, (.bool true)), (50, (.bool ((x105 == 0) || (((c106 != 95) && (c106 != 45)) && (!((decide (48 ≤ c106)) && (decide (c106 ≤ 57))))))))] [] ?_ ?_
      ·cases zCs : (x105 == 0)
       ·refine Tr.val (wg rfl rfl rfl) rfl (fun _ _ h1 h2 => run_move (h1.ev rfl)) ?_
        refine Tr.val (wg rfl rfl rfl) rfl (fun _ _ h1 h2 => KV (h1.ev rfl) (h1.ev rfl)) ?_
        refine Tr.val (wg rfl rfl rfl) rfl (fun _ _ h1 h2 => run_move (h1.ev rfl)) ?_
        refine Tr.Jl 3 [(0, (sv p0)), (3, (iv x105)), (4, (.int .u8 c106)), (31, (.bool true)), (34, (.bool false)), (40, (.bool ((c106 != 95) && (c106 != 45))))] [] ?_ ?_
        ·cases zCs : (c106 != 95)
         ·refine Tr.pass rfl rfl rfl rfl rfl (by decide) ?_
          refine Tr.pass rfl rfl rfl rfl rfl (by decide) ?_
          refine Tr.val (wg rfl rfl rfl) rfl (fun _ _ h1 h2 => zV (h1.ev rfl) (h1.ev rfl)) ?_
          exact Tr.nil (Tr.QI (.cons rfl (.cons rfl (.cons rfl (.cons rfl (.cons rfl (.cons rfl .nil)))))) .nil)
         ·refine Tr.val (wg rfl rfl rfl) rfl (fun _ _ h1 h2 => run_move (h1.ev rfl)) ?_
          refine Tr.val (wg rfl rfl rfl) rfl (fun _ _ h1 h2 => KV (h1.ev rfl) (h1.ev rfl)) ?_
          refine Tr.val (wg rfl rfl rfl) rfl (fun _ _ h1 h2 => zU (h1.ev rfl) (h1.ev rfl)) ?_
          exact Tr.nil (Tr.QI (.cons rfl (.cons rfl (.cons rfl (.cons rfl (.cons rfl (.cons rfl .nil)))))) .nil)
        ·show Tr _ _ (LF [(0, (sv p0)), (3, (iv x105)), (4, (.int .u8 c106)), (31, (.bool true)), (34, (.bool false)), (40, (.bool ((c106 != 95) && (c106 != 45))))]) (LE []) _
         refine Tr.val (wg rfl rfl rfl) rfl (fun _ _ h1 h2 => run_move (h1.ev rfl)) ?_
         refine Tr.Jl 8 [(0, (sv p0)), (3, (iv x105)), (31, (.bool true)), (34, (.bool false)), (49, (.bool (((c106 != 95) && (c106 != 45)) && (!((decide (48 ≤ c106)) && (decide (c106 ≤ 57)))))))] [] ?_ ?_
         ·cases zCs : ((c106 != 95) && (c106 != 45))
          ·refine Tr.pass rfl rfl rfl rfl rfl (by decide) ?_
           refine Tr.pass rfl rfl rfl rfl rfl (by decide) ?_
           refine Tr.pass rfl rfl rfl rfl rfl (by decide) ?_
           refine Tr.QX rfl rfl rfl rfl (by decide) ?_
           refine Tr.QX rfl rfl rfl rfl (by decide) ?_
           refine Tr.pass rfl rfl rfl rfl rfl (by decide) ?_
           refine Tr.pass rfl rfl rfl rfl rfl (by decide) ?_
           refine Tr.val (wg rfl rfl rfl) rfl (fun _ _ h1 h2 => zV (h1.ev rfl) (h1.ev rfl)) ?_
           exact Tr.nil (Tr.QI (.cons rfl (.cons rfl (.cons rfl (.cons rfl (.cons rfl .nil))))) .nil)
          ·refine Tr.val (wg rfl rfl rfl) rfl (fun _ _ h1 h2 => run_move (h1.ev rfl)) ?_
           refine Tr.val (wg rfl rfl rfl) rfl (fun _ _ h1 h2 => zAz (h1.ev rfl) (h1.ev rfl)) ?_
           refine Tr.val (wg rfl rfl rfl) rfl (fun _ _ h1 h2 => run_move (h1.ev rfl)) ?_
           refine Tr.Jl 3 [(0, (sv p0)), (3, (iv x105)), (31, (.bool true)), (34, (.bool false)), (41, (.bool true)), (47, (.bool ((decide (48 ≤ c106)) && (decide (c106 ≤ 57)))))] [] ?_ ?_
           ·cases zCs : (decide (48 ≤ c106))
            ·refine Tr.pass rfl rfl rfl rfl rfl (by decide) ?_
             refine Tr.pass rfl rfl rfl rfl rfl (by decide) ?_
             refine Tr.val (wg rfl rfl rfl) rfl (fun _ _ h1 h2 => zV (h1.ev rfl) (h1.ev rfl)) ?_
             exact Tr.nil (Tr.QI (.cons rfl (.cons rfl (.cons rfl (.cons rfl (.cons rfl (.cons rfl .nil)))))) .nil)
            ·refine Tr.val (wg rfl rfl rfl) rfl (fun _ _ h1 h2 => run_move (h1.ev rfl)) ?_
             refine Tr.val (wg rfl rfl rfl) rfl (fun _ _ h1 h2 => zAy (h1.ev rfl) (h1.ev rfl)) ?_
             refine Tr.val (wg rfl rfl rfl) rfl (fun _ _ h1 h2 => zU (h1.ev rfl) (h1.ev rfl)) ?_
             exact Tr.nil (Tr.QI (.cons rfl (.cons rfl (.cons rfl (.cons rfl (.cons rfl (.cons rfl .nil)))))) .nil)
           ·show Tr _ _ (LF [(0, (sv p0)), (3, (iv x105)), (31, (.bool true)), (34, (.bool false)), (41, (.bool true)), (47, (.bool ((decide (48 ≤ c106)) && (decide (c106 ≤ 57)))))]) (LE []) _
            refine Tr.val (wg rfl rfl rfl) rfl (fun _ _ h1 h2 => Qb (h1.ev rfl)) ?_
            refine Tr.val (wg rfl rfl rfl) rfl (fun _ _ h1 h2 => zU (h1.ev rfl) (h1.ev rfl)) ?_
            exact Tr.nil (Tr.QI (.cons rfl (.cons rfl (.cons rfl (.cons rfl (.cons rfl .nil))))) .nil)
         ·show Tr _ _ (LF [(0, (sv p0)), (3, (iv x105)), (31, (.bool true)), (34, (.bool false)), (49, (.bool (((c106 != 95) && (c106 != 45)) && (!((decide (48 ≤ c106)) && (decide (c106 ≤ 57)))))))]) (LE []) _
          refine Tr.val (wg rfl rfl rfl) rfl (fun _ _ h1 h2 => zV (h1.ev rfl) (h1.ev rfl)) ?_
          exact Tr.nil (Tr.QI (.cons rfl (.cons rfl (.cons rfl (.cons rfl .nil)))) .nil)
       ·refine Tr.pass rfl rfl rfl rfl rfl (by decide) ?_
        refine Tr.pass rfl rfl rfl rfl rfl (by decide) ?_
        refine Tr.pass rfl rfl rfl rfl rfl (by decide) ?_
        refine Tr.QX rfl rfl rfl rfl (by decide) ?_
        refine Tr.QX rfl rfl rfl rfl (by decide) ?_
        refine Tr.pass rfl rfl rfl rfl rfl (by decide) ?_
        refine Tr.pass rfl rfl rfl rfl rfl (by decide) ?_
        refine Tr.QX rfl rfl rfl rfl (by decide) ?_
        refine Tr.QX rfl rfl rfl rfl (by decide) ?_
        refine Tr.QX rfl rfl rfl rfl (by decide) ?_
        refine Tr.QX rfl rfl rfl rfl (by decide) ?_
        refine Tr.QX rfl rfl rfl rfl (by decide) ?_
        refine Tr.QX rfl rfl rfl rfl (by decide) ?_
        refine Tr.QX rfl rfl rfl rfl (by decide) ?_
        refine Tr.pass rfl rfl rfl rfl rfl (by decide) ?_
        refine Tr.val (wg rfl rfl rfl) rfl (fun _ _ h1 h2 => zU (h1.ev rfl) (h1.ev rfl)) ?_
        exact Tr.nil (Tr.QI (.cons rfl (.cons rfl (.cons rfl (.cons rfl .nil)))) .nil)
      ·show Tr _ _ (LF [(0, (sv p0)), (3, (iv x105)), (31, (.bool true)), (50, (.bool ((x105 == 0) || (((c106 != 95) && (c106 != 45)) && (!((decide (48 ≤ c106)) && (decide (c106 ≤ 57))))))))]) (LE []) _
       refine Tr.va rfl (fun _ _ h1 h2 => zU (h1.ev rfl) (h1.ev rfl)) ?_
       exact Tr.nil (Tr.QI (.cons rfl (.cons rfl (.cons rfl .nil))) .nil)
    ·show Tr _ _ (LF [(0, (sv p0)), (3, (iv x105)), (51, (.bool ((!(((decide (97 ≤ c106)) && (decide (c106 ≤ 122))) || ((decide (65 ≤ c106)) && (decide (c106 ≤ 90))))) && ((x105 == 0) || (((c106 != 95) && (c106 != 45)) && (!((decide (48 ≤ c106)) && (decide (c106 ≤ 57)))))))))]) (LE []) _
     refine Tr.nil (Tr.zA (Tr.cond rfl H (fun H => ?_) (fun H => ?_)))
     ·refine Tr.sr (Tr.asg rfl rfl (Tr.nil (Tr.zA (Tr.ret (Tr.zW (Tr.zM (Tr.zM (Tr.zW (Tr.zM ?_)))))))))
      obtain rfl := Option.some.inj H
      exact Tr.out (m := [(.bool false)]) [] (zJ rfl zR) (fun W hW => ⟨rfl, hW.low leB⟩)
     ·refine Tr.skip (Tr.zi (Tr.zA (Tr.region (Tr.mv rfl rfl (Tr.va rfl (fun _ _ h1 h2 => QS (h1.ev rfl) (h1.ev rfl)) ?_)))))
      exact Tr.asg rfl rfl (Tr.nil (Tr.zb Qs (w64 (x105 + 1)) H (.cons rfl (.cons rfl .nil)) .nil))
 ·refine Tr.exit (Tr.zx (Tr.zx (Tr.Qd (Tr.zA (Tr.sr (Tr.mv rfl rfl (Tr.va rfl (fun _ _ h1 h2 => Vn zBw (h1.ev rfl)) ?_)))))))
  obtain ⟨zGB, hy107, H⟩ := bnd H
  refine Tr.Qa (r := (.bool zGB)) (wn rfl) rfl Tryz.call42 (zI rfl (zI rfl (zI rfl zT))) (fun W hW => Jf (p0.size : Int) 1 40 zGB hy107 (HF.start _)) ?_
  refine Tr.asg rfl rfl (Tr.nil (Tr.zA (Tr.ret ?_)))
  obtain rfl := Option.some.inj H
  exact Tr.out (m := [(.bool zGB)]) [] (zJ rfl zR) (fun W hW => ⟨rfl, hW.low leB⟩)

theorem zDn {w : Bs} (p0 : Int) (p1 : Int) (p2 : Int) (r : Bool) (H : zAj p0 p1 p2 = some r) (hE : HF w w.W E0) : Calls Tryz.prog 115 [(iv p0), (iv p1), (iv p2)].toArray w.W fun e W' => e = .returned (.bool r) ∧ HF w W' E0 := by
 unfold zAj at H
 have leB := Bs.Le.refl w
 refine Tr.enter (n := 15) Tryz.func115 rfl rfl rfl hE ?_
 refine Tr.sr (Tr.asg rfl rfl (Tr.nil (Tr.zA (Tr.sr (Tr.mv rfl rfl (Tr.mv rfl rfl (Tr.va rfl (fun _ _ h1 h2 => zAz (h1.ev rfl) (h1.ev rfl)) ?_)))))))
 refine Tr.mv rfl rfl (Tr.Jl 4 [(14, (.bool ((decide (p1 ≤ p0)) && (decide (p0 ≤ p2)))))] [] ?_ ?_)
 ·cases hg99 : (decide (p1 ≤ p0))
  ·refine Tr.pass rfl rfl rfl rfl rfl (by decide) ?_
   refine Tr.pass rfl rfl rfl rfl rfl (by decide) ?_
   refine Tr.pass rfl rfl rfl rfl rfl (by decide) ?_
   refine Tr.va rfl (fun _ _ h1 h2 => zV (h1.ev rfl) (h1.ev rfl)) ?_
   exact Tr.nil (Tr.QI (.cons rfl .nil) .nil)
  ·refine Tr.val (wg rfl rfl rfl) rfl (fun _ _ h1 h2 => run_move (h1.ev rfl)) ?_
   refine Tr.val (wg rfl rfl rfl) rfl (fun _ _ h1 h2 => run_move (h1.ev rfl)) ?_
   refine Tr.val (wg rfl rfl rfl) rfl (fun _ _ h1 h2 => zAy (h1.ev rfl) (h1.ev rfl)) ?_
   refine Tr.va rfl (fun _ _ h1 h2 => zU (h1.ev rfl) (h1.ev rfl)) ?_
   exact Tr.nil (Tr.QI (.cons rfl .nil) .nil)
 ·show Tr _ _ (LF [(14, (.bool ((decide (p1 ≤ p0)) && (decide (p0 ≤ p2)))))]) (LE []) _
  refine Tr.asg rfl rfl (Tr.nil (Tr.zA (Tr.ret ?_)))
  obtain rfl := Option.some.inj H
  exact Tr.out (m := [(.bool ((decide (p1 ≤ p0)) && (decide (p0 ≤ p2))))]) [] (zJ rfl zR) (fun W hW => ⟨rfl, hW.low leB⟩)

theorem zCQ {w : Bs} (p0 : Int) (r : Bool) (H : Ws p0 = some r) (hE : HF w w.W E0) : Calls Tryz.prog 85 [(iv p0)].toArray w.W fun e W' => e = .returned (.bool r) ∧ HF w W' E0 := by
 unfold Ws at H
 have leB := Bs.Le.refl w
 refine Tr.enter (n := 5) Tryz.func85 rfl rfl rfl hE ?_
 refine Tr.sr (Tr.asg rfl rfl (Tr.nil (Tr.zA (Tr.sr (Tr.mv rfl rfl ?_)))))
 obtain ⟨zl, zAO, H⟩ := bnd H
 refine Tr.Qa (r := (.bool zl)) (wn rfl) rfl Tryz.call115 (zI rfl (zI rfl (zI rfl zT))) (fun W hW => zDn p0 (-1000000) 1000000 zl zAO (HF.start _)) ?_
 refine Tr.asg rfl rfl (Tr.nil (Tr.zA (Tr.ret ?_)))
 obtain rfl := Option.some.inj H
 exact Tr.out (m := [(.bool zl)]) [] (zJ rfl zR) (fun W hW => ⟨rfl, hW.low leB⟩)

theorem Kg {w : Bs} (p0 : Int) (p1 : Int) (r : Bool) (H : Ji p0 p1 = some r) (hE : HF w w.W E0) : Calls Tryz.prog 60 [(iv p0), (iv p1)].toArray w.W fun e W' => e = .returned (.bool r) ∧ HF w W' E0 := by
 unfold Ji at H
 have leB := Bs.Le.refl w
 refine Tr.enter (n := 13) Tryz.func60 rfl rfl rfl hE ?_
 refine Tr.sr (Tr.asg rfl rfl (Tr.nil (Tr.zA (Tr.sr (Tr.mv rfl rfl ?_)))))
 obtain ⟨zl, zAO, H⟩ := bnd H
 refine Tr.Qa (r := (.bool zl)) (wn rfl) rfl Tryz.call85 (zI rfl zT) (fun W hW => zCQ p0 zl zAO (HF.start _)) ?_
 refine Tr.mv rfl rfl ?_
 obtain ⟨g102, zB5, H⟩ := bnd H
 refine Tr.Jl 5 [(12, (.bool g102))] [] ?_ ?_
 ·cases Wz : zl
  ·rw [Wz] at zB5
   rw [if_neg (by decide)] at zB5
   have H := zB5
   obtain rfl := Option.some.inj H
   refine Tr.pass rfl rfl rfl rfl rfl (by decide) ?_
   refine Tr.pass rfl rfl rfl rfl rfl (by decide) ?_
   refine Tr.pass rfl rfl rfl rfl rfl (by decide) ?_
   refine Tr.pass rfl rfl rfl rfl rfl (by decide) ?_
   refine Tr.va rfl (fun _ _ h1 h2 => zV (h1.ev rfl) (h1.ev rfl)) ?_
   exact Tr.nil (Tr.QI (.cons rfl .nil) .nil)
  ·rw [Wz] at zB5
   rw [if_pos rfl] at zB5
   have H := zB5
   refine Tr.val (wg rfl rfl rfl) rfl (fun _ _ h1 h2 => run_move (h1.ev rfl)) ?_
   refine Tr.val (wg rfl rfl rfl) rfl (fun _ _ h1 h2 => run_move (h1.ev rfl)) ?_
   refine Tr.val (wg rfl rfl rfl) rfl (fun _ _ h1 h2 => zGw (h1.ev rfl) (h1.ev rfl)) ?_
   obtain ⟨zk, zEN, H⟩ := bnd H
   refine Tr.Qa (r := (.bool zk)) (wg rfl rfl rfl) rfl Tryz.call85 (zI rfl zT) (fun W hW => zCQ (w64 (p0 * p1)) zk zEN (HF.start _)) ?_
   refine Tr.va rfl (fun _ _ h1 h2 => zU (h1.ev rfl) (h1.ev rfl)) ?_
   obtain rfl := Option.some.inj H
   exact Tr.nil (Tr.QI (.cons rfl .nil) .nil)
 ·show Tr _ _ (LF [(12, (.bool g102))]) (LE []) _
  refine Tr.asg rfl rfl (Tr.nil (Tr.zA (Tr.ret ?_)))
  obtain rfl := Option.some.inj H
  exact Tr.out (m := [(.bool g102)]) [] (zJ rfl zR) (fun W hW => ⟨rfl, hW.low leB⟩)

theorem zBt (N : Nat) {w : Bs} (p0 : (List VS)) (zG : Option Addr) (zH : Nat) (ze : Sl w.R w.W KW zG zH p0) (p1 : Int) (r : Int) (H : KJ N p0 p1 = some r) (hE : HF w w.W E0) : Calls Tryz.prog 44 [(.slice zG p0.length zH), (iv p1)].toArray w.W fun e W' => e = .returned (iv r) ∧ HF w W' E0 := by
 unfold KJ at H
 have leB := Bs.Le.refl w
 refine Tr.enter (n := 61) Tryz.func44 rfl rfl rfl hE ?_
 refine Tr.sr (Tr.asg rfl rfl (Tr.nil (Tr.zA (Tr.seq (Tr.sr (Tr.mv rfl rfl (Tr.va rfl (fun _ _ h1 h2 => QG zFI (h1.ev rfl)) ?_)))))))
 refine Tr.va rfl (fun _ _ h1 h2 => QY (h1.ev rfl) (h1.ev rfl)) ?_
 refine Tr.nil (Tr.zA (Tr.cond rfl H (fun H => ?_) (fun H => ?_)))
 ·refine Tr.sr (Tr.asg rfl rfl (Tr.nil (Tr.zA (Tr.ret (Tr.zM ?_)))))
  obtain rfl := Option.some.inj H
  exact Tr.out (m := [(iv 9)]) [] (zJ rfl zR) (fun W hW => ⟨rfl, hW.low leB⟩)
 ·refine Tr.skip (Tr.zA (Tr.seq (Tr.sr (Tr.mv rfl rfl (Tr.va rfl (fun _ _ h1 h2 => QG zFI (h1.ev rfl)) ?_)))))
  refine Tr.va rfl (fun _ _ h1 h2 => VR (h1.ev rfl) (h1.ev rfl)) ?_
  refine Tr.nil (Tr.zA (Tr.cond rfl H (fun H => ?_) (fun H => ?_)))
  ·refine Tr.sr (Tr.asg rfl rfl (Tr.nil (Tr.zA (Tr.ret (Tr.zM ?_)))))
   obtain rfl := Option.some.inj H
   exact Tr.out (m := [(iv 2)]) [] (zJ rfl zR) (fun W hW => ⟨rfl, hW.low leB⟩)
  ·refine Tr.skip (Tr.zA (Tr.seq (Tr.sr (Tr.asg rfl rfl (Tr.nil (Tr.zA (Tr.block (Tr.loop (σ := Int) (fun m w s => Qf p0 p1 m s = some r) (fun s => [(0, (.slice zG p0.length zH)), (1, (iv p1)), (5, (iv s))]) (fun s => []) N 0 H (.cons rfl (.cons rfl (.cons rfl .nil))) .nil (fun _ _ h => WM (h)) ?_))))))))
   intro w Qs mL1 Ww hs
   have H := hs
   replace H : Qf p0 p1 (mL1 + 1) Ww = some r := H
   replace ze := ze.leR Qs
   replace leB := leB.trans Qs
   rw [Qf.eq_2] at H
   show Tr _ _ (LF [(0, (.slice zG p0.length zH)), (1, (iv p1)), (5, (iv Ww))]) (LE []) _
   refine Tr.seq (Tr.sr (Tr.mv rfl rfl (Tr.mv rfl rfl (Tr.va rfl (fun _ _ h1 h2 => QG zFI (h1.ev rfl)) ?_))))
   refine Tr.va rfl (fun _ _ h1 h2 => QV (h1.ev rfl) (h1.ev rfl)) ?_
   refine Tr.nil (Tr.zA (Tr.cond rfl H (fun H => ?_) (fun H => ?_)))
   ·refine Tr.skip (Tr.zA (Tr.seq (Tr.block (Tr.sr (Tr.mv rfl rfl (Tr.mv rfl rfl ?_))))))
    obtain ⟨JY, hx128, H⟩ := bnd H
    obtain ⟨hx1280, hx1281, hx1282⟩ := zw hx128
    refine Tr.va rfl (fun _ _ h1 h2 => zN el_45 (h1.ev rfl) ze.form (h1.ev rfl) hx1280 hx1281) ?_
    refine Tr.va rfl (fun _ _ h1 h2 => zu (cs := [(iv JY.X0), (iv JY.Y0), (iv JY.X1), (iv JY.Y1)]) ag_49 zGH (h1.ev rfl) (za.take (rdF zFn ze hx1282 h2) 4) rfl) ?_
    refine Tr.alloc 3 (wn rfl) rfl ze_49 fun zHV => ?_
    refine Tr.store 3 (cs := [(iv JY.X0), (iv JY.Y0), (iv JY.X1), (iv JY.Y1)]) [(iv JY.X0), (iv JY.Y0), (iv JY.X1), (iv JY.Y1)] (wn rfl) rfl rfl rfl rfl zGH rfl rfl rfl ?_
    refine Tr.nil (Tr.zA (Tr.seq (Tr.sr (Tr.va rfl (fun _ _ h1 h2 => zB zHL (h1.ev rfl)) ?_))))
    refine Tr.va rfl (fun _ _ h1 h2 => zF Qu (h1.ev rfl) (rdb h2 (vs := [(iv JY.X0), (iv JY.Y0), (iv JY.X1), (iv JY.Y1)]) (k := 3) rfl 0) rfl) ?_
    refine Tr.mv rfl rfl ?_
    obtain ⟨zIf, hy130, H⟩ := bnd H
    refine Tr.Qa (r := (.bool zIf)) (wn rfl) rfl Tryz.call60 (zI rfl (zI rfl zT)) (fun W hW => Kg JY.X0 p1 zIf hy130 (HF.start _)) ?_
    refine Tr.va rfl (fun _ _ h1 h2 => Qb (h1.ev rfl)) ?_
    refine Tr.mv rfl rfl ?_
    obtain ⟨g132, zJ7, H⟩ := bnd H
    refine Tr.Jl 6 [(0, (.slice zG p0.length zH)), (1, (iv p1)), (5, (iv Ww)), (6, (.pointer (some ⟨zHV, 0, none⟩))), (34, (.bool g132))] [(3, bx zHV #[(iv JY.X0), (iv JY.Y0), (iv JY.X1), (iv JY.Y1)] 49)] ?_ ?_
    ·cases zFM : (!zIf)
     ·rw [zFM] at zJ7
      rw [if_neg (by decide)] at zJ7
      have H := zJ7
      refine Tr.val (wg rfl rfl rfl) rfl (fun _ _ h1 h2 => zB zHK (h1.ev rfl)) ?_
      refine Tr.val (wg rfl rfl rfl) rfl (fun _ _ h1 h2 => zF Qu (h1.ev rfl) (rdb h2 (vs := [(iv JY.X0), (iv JY.Y0), (iv JY.X1), (iv JY.Y1)]) (k := 3) rfl 1) rfl) ?_
      refine Tr.val (wg rfl rfl rfl) rfl (fun _ _ h1 h2 => run_move (h1.ev rfl)) ?_
      obtain ⟨y133, hy133, H⟩ := bnd H
      refine Tr.Qa (r := (.bool y133)) (wg rfl rfl rfl) rfl Tryz.call60 (zI rfl (zI rfl zT)) (fun W hW => Kg JY.Y0 p1 y133 hy133 (HF.start _)) ?_
      refine Tr.val (wg rfl rfl rfl) rfl (fun _ _ h1 h2 => Qb (h1.ev rfl)) ?_
      refine Tr.va rfl (fun _ _ h1 h2 => zV (h1.ev rfl) (h1.ev rfl)) ?_
      obtain rfl := Option.some.inj H
      exact Tr.nil (Tr.QI (.cons rfl (.cons rfl (.cons rfl (.cons rfl (.cons rfl .nil))))) (.cons rfl .nil))
     ·rw [zFM] at zJ7
      rw [if_pos rfl] at zJ7
      have H := zJ7
      obtain rfl := Option.some.inj H
      refine Tr.pass rfl rfl rfl rfl rfl (by decide) ?_
      refine Tr.pass rfl rfl rfl rfl rfl (by decide) ?_
      refine Tr.pass rfl rfl rfl rfl rfl (by decide) ?_
      refine Tr.pass rfl rfl rfl rfl rfl (by decide) ?_
      refine Tr.pass rfl rfl rfl rfl rfl (by decide) ?_
      refine Tr.va rfl (fun _ _ h1 h2 => zU (h1.ev rfl) (h1.ev rfl)) ?_
      exact Tr.nil (Tr.QI (.cons rfl (.cons rfl (.cons rfl (.cons rfl (.cons rfl .nil))))) (.cons rfl .nil))
    ·show Tr _ _ (LF [(0, (.slice zG p0.length zH)), (1, (iv p1)), (5, (iv Ww)), (6, (.pointer (some ⟨zHV, 0, none⟩))), (34, (.bool g132))]) (LE [(3, bx zHV #[(iv JY.X0), (iv JY.Y0), (iv JY.X1), (iv JY.Y1)] 49)]) _
     refine Tr.mv rfl rfl ?_
     obtain ⟨g135, zFN, H⟩ := bnd H
     refine Tr.Jl 6 [(0, (.slice zG p0.length zH)), (1, (iv p1)), (5, (iv Ww)), (6, (.pointer (some ⟨zHV, 0, none⟩))), (41, (.bool g135))] [(3, bx zHV #[(iv JY.X0), (iv JY.Y0), (iv JY.X1), (iv JY.Y1)] 49)] ?_ ?_
     ·cases zFM : g132
      ·rw [zFM] at zFN
       rw [if_neg (by decide)] at zFN
       have H := zFN
       refine Tr.val (wg rfl rfl rfl) rfl (fun _ _ h1 h2 => zB zHJ (h1.ev rfl)) ?_
       refine Tr.val (wg rfl rfl rfl) rfl (fun _ _ h1 h2 => zF Qu (h1.ev rfl) (rdb h2 (vs := [(iv JY.X0), (iv JY.Y0), (iv JY.X1), (iv JY.Y1)]) (k := 3) rfl 2) rfl) ?_
       refine Tr.val (wg rfl rfl rfl) rfl (fun _ _ h1 h2 => run_move (h1.ev rfl)) ?_
       obtain ⟨y136, hy136, H⟩ := bnd H
       refine Tr.Qa (r := (.bool y136)) (wg rfl rfl rfl) rfl Tryz.call60 (zI rfl (zI rfl zT)) (fun W hW => Kg JY.X1 p1 y136 hy136 (HF.start _)) ?_
       refine Tr.val (wg rfl rfl rfl) rfl (fun _ _ h1 h2 => Qb (h1.ev rfl)) ?_
       refine Tr.va rfl (fun _ _ h1 h2 => zV (h1.ev rfl) (h1.ev rfl)) ?_
       obtain rfl := Option.some.inj H
       exact Tr.nil (Tr.QI (.cons rfl (.cons rfl (.cons rfl (.cons rfl (.cons rfl .nil))))) (.cons rfl .nil))
      ·rw [zFM] at zFN
       rw [if_pos rfl] at zFN
       have H := zFN
       obtain rfl := Option.some.inj H
       refine Tr.pass rfl rfl rfl rfl rfl (by decide) ?_
       refine Tr.pass rfl rfl rfl rfl rfl (by decide) ?_
       refine Tr.pass rfl rfl rfl rfl rfl (by decide) ?_
       refine Tr.pass rfl rfl rfl rfl rfl (by decide) ?_
       refine Tr.pass rfl rfl rfl rfl rfl (by decide) ?_
       refine Tr.va rfl (fun _ _ h1 h2 => zU (h1.ev rfl) (h1.ev rfl)) ?_
       exact Tr.nil (Tr.QI (.cons rfl (.cons rfl (.cons rfl (.cons rfl (.cons rfl .nil))))) (.cons rfl .nil))
     ·show Tr _ _ (LF [(0, (.slice zG p0.length zH)), (1, (iv p1)), (5, (iv Ww)), (6, (.pointer (some ⟨zHV, 0, none⟩))), (41, (.bool g135))]) (LE [(3, bx zHV #[(iv JY.X0), (iv JY.Y0), (iv JY.X1), (iv JY.Y1)] 49)]) _
      refine Tr.mv rfl rfl ?_
      obtain ⟨g138, hg138, H⟩ := bnd H
      refine Tr.Jl 6 [(0, (.slice zG p0.length zH)), (1, (iv p1)), (5, (iv Ww)), (6, (.pointer (some ⟨zHV, 0, none⟩))), (48, (.bool g138))] [(3, bx zHV #[(iv JY.X0), (iv JY.Y0), (iv JY.X1), (iv JY.Y1)] 49)] ?_ ?_
      ·cases zFM : g135
       ·rw [zFM] at hg138
        rw [if_neg (by decide)] at hg138
        have H := hg138
        refine Tr.val (wg rfl rfl rfl) rfl (fun _ _ h1 h2 => zB zHI (h1.ev rfl)) ?_
        refine Tr.val (wg rfl rfl rfl) rfl (fun _ _ h1 h2 => zF Qu (h1.ev rfl) (rdb h2 (vs := [(iv JY.X0), (iv JY.Y0), (iv JY.X1), (iv JY.Y1)]) (k := 3) rfl 3) rfl) ?_
        refine Tr.val (wg rfl rfl rfl) rfl (fun _ _ h1 h2 => run_move (h1.ev rfl)) ?_
        obtain ⟨y139, hy139, H⟩ := bnd H
        refine Tr.Qa (r := (.bool y139)) (wg rfl rfl rfl) rfl Tryz.call60 (zI rfl (zI rfl zT)) (fun W hW => Kg JY.Y1 p1 y139 hy139 (HF.start _)) ?_
        refine Tr.val (wg rfl rfl rfl) rfl (fun _ _ h1 h2 => Qb (h1.ev rfl)) ?_
        refine Tr.va rfl (fun _ _ h1 h2 => zV (h1.ev rfl) (h1.ev rfl)) ?_
        obtain rfl := Option.some.inj H
        exact Tr.nil (Tr.QI (.cons rfl (.cons rfl (.cons rfl (.cons rfl (.cons rfl .nil))))) (.cons rfl .nil))
       ·rw [zFM] at hg138
        rw [if_pos rfl] at hg138
        have H := hg138
        obtain rfl := Option.some.inj H
        refine Tr.pass rfl rfl rfl rfl rfl (by decide) ?_
        refine Tr.pass rfl rfl rfl rfl rfl (by decide) ?_
        refine Tr.pass rfl rfl rfl rfl rfl (by decide) ?_
        refine Tr.pass rfl rfl rfl rfl rfl (by decide) ?_
        refine Tr.pass rfl rfl rfl rfl rfl (by decide) ?_
        refine Tr.va rfl (fun _ _ h1 h2 => zU (h1.ev rfl) (h1.ev rfl)) ?_
        exact Tr.nil (Tr.QI (.cons rfl (.cons rfl (.cons rfl (.cons rfl (.cons rfl .nil))))) (.cons rfl .nil))
      ·show Tr _ _ (LF [(0, (.slice zG p0.length zH)), (1, (iv p1)), (5, (iv Ww)), (6, (.pointer (some ⟨zHV, 0, none⟩))), (48, (.bool g138))]) (LE [(3, bx zHV #[(iv JY.X0), (iv JY.Y0), (iv JY.X1), (iv JY.Y1)] 49)]) _
       refine Tr.nil (Tr.zA (Tr.cond rfl H (fun H => ?_) (fun H => ?_)))
       ·refine Tr.sr (Tr.asg rfl rfl (Tr.nil (Tr.zA (Tr.ret (Tr.zM (Tr.zW (Tr.zM (Tr.zM (Tr.zW (Tr.zM ?_))))))))))
        obtain rfl := Option.some.inj H
        exact Tr.out (m := [(iv 1)]) [] (zJ rfl zR) (fun W hW => ⟨rfl, hW.low leB⟩)
       ·refine Tr.skip (Tr.zA (Tr.sr (Tr.va rfl (fun _ _ h1 h2 => zB zHJ (h1.ev rfl)) ?_)))
        refine Tr.va rfl (fun _ _ h1 h2 => zF Qu (h1.ev rfl) (rdb h2 (vs := [(iv JY.X0), (iv JY.Y0), (iv JY.X1), (iv JY.Y1)]) (k := 3) rfl 2) rfl) ?_
        refine Tr.va rfl (fun _ _ h1 h2 => zB zHL (h1.ev rfl)) ?_
        refine Tr.va rfl (fun _ _ h1 h2 => zF Qu (h1.ev rfl) (rdb h2 (vs := [(iv JY.X0), (iv JY.Y0), (iv JY.X1), (iv JY.Y1)]) (k := 3) rfl 0) rfl) ?_
        refine Tr.va rfl (fun _ _ h1 h2 => zAy (h1.ev rfl) (h1.ev rfl)) ?_
        refine Tr.mv rfl rfl (Tr.Jl 6 [(0, (.slice zG p0.length zH)), (1, (iv p1)), (5, (iv Ww)), (60, (.bool ((decide (JY.X1 ≤ JY.X0)) || (decide (JY.Y1 ≤ JY.Y0)))))] [(3, bx zHV #[(iv JY.X0), (iv JY.Y0), (iv JY.X1), (iv JY.Y1)] 49)] ?_ ?_)
        ·cases zFM : (decide (JY.X1 ≤ JY.X0))
         ·refine Tr.val (wg rfl rfl rfl) rfl (fun _ _ h1 h2 => zB zHI (h1.ev rfl)) ?_
          refine Tr.val (wg rfl rfl rfl) rfl (fun _ _ h1 h2 => zF Qu (h1.ev rfl) (rdb h2 (vs := [(iv JY.X0), (iv JY.Y0), (iv JY.X1), (iv JY.Y1)]) (k := 3) rfl 3) rfl) ?_
          refine Tr.val (wg rfl rfl rfl) rfl (fun _ _ h1 h2 => zB zHK (h1.ev rfl)) ?_
          refine Tr.val (wg rfl rfl rfl) rfl (fun _ _ h1 h2 => zF Qu (h1.ev rfl) (rdb h2 (vs := [(iv JY.X0), (iv JY.Y0), (iv JY.X1), (iv JY.Y1)]) (k := 3) rfl 1) rfl) ?_
          refine Tr.val (wg rfl rfl rfl) rfl (fun _ _ h1 h2 => zAy (h1.ev rfl) (h1.ev rfl)) ?_
          refine Tr.va rfl (fun _ _ h1 h2 => zV (h1.ev rfl) (h1.ev rfl)) ?_
          exact Tr.nil (Tr.QI (.cons rfl (.cons rfl (.cons rfl (.cons rfl .nil)))) (.cons rfl .nil))
         ·refine Tr.pass rfl rfl rfl rfl rfl (by decide) ?_
          refine Tr.pass rfl rfl rfl rfl rfl (by decide) ?_
          refine Tr.pass rfl rfl rfl rfl rfl (by decide) ?_
          refine Tr.pass rfl rfl rfl rfl rfl (by decide) ?_
          refine Tr.pass rfl rfl rfl rfl rfl (by decide) ?_
          refine Tr.va rfl (fun _ _ h1 h2 => zU (h1.ev rfl) (h1.ev rfl)) ?_
          exact Tr.nil (Tr.QI (.cons rfl (.cons rfl (.cons rfl (.cons rfl .nil)))) (.cons rfl .nil))
        ·show Tr _ _ (LF [(0, (.slice zG p0.length zH)), (1, (iv p1)), (5, (iv Ww)), (60, (.bool ((decide (JY.X1 ≤ JY.X0)) || (decide (JY.Y1 ≤ JY.Y0)))))]) (LE [(3, bx zHV #[(iv JY.X0), (iv JY.Y0), (iv JY.X1), (iv JY.Y1)] 49)]) _
         refine Tr.nil (Tr.zA (Tr.cond rfl H (fun H => ?_) (fun H => ?_)))
         ·refine Tr.sr (Tr.asg rfl rfl (Tr.nil (Tr.zA (Tr.ret (Tr.zW (Tr.zM (Tr.zM (Tr.zW (Tr.zM ?_)))))))))
          obtain rfl := Option.some.inj H
          exact Tr.out (m := [(iv 13)]) [] (zJ rfl zR) (fun W hW => ⟨rfl, hW.low leB⟩)
         ·refine Tr.skip (Tr.zi (Tr.zA (Tr.region (Tr.mv rfl rfl (Tr.va rfl (fun _ _ h1 h2 => QS (h1.ev rfl) (h1.ev rfl)) ?_)))))
          exact Tr.asg rfl rfl (Tr.nil (Tr.zb Qs (w64 (Ww + 1)) H (.cons rfl (.cons rfl (.cons rfl .nil))) .nil))
   ·refine Tr.exit (Tr.zx (Tr.zx (Tr.Qd (Tr.zA (Tr.sr (Tr.asg rfl rfl (Tr.nil (Tr.zA (Tr.ret ?_)))))))))
    obtain rfl := Option.some.inj H
    exact Tr.out (m := [(iv 0)]) [] (zJ rfl zR) (fun W hW => ⟨rfl, hW.low leB⟩)

theorem zDc (N : Nat) (rec : (List zD) → Option Int) (hrec : ∀ {w : Bs} (p0 : (List zD)) (zG : Option Addr) (zH : Nat) (ze : Sl w.R w.W zC zG zH p0) (r : Int) (H : rec p0 = some r) (hE : HF w w.W E0), Calls Tryz.prog 45 [(.slice zG p0.length zH)].toArray w.W fun e W' => e = .returned (iv r) ∧ HF w W' E0) {w : Bs} (p0 : (List zD)) (zG : Option Addr) (zH : Nat) (ze : Sl w.R w.W zC zG zH p0) (r : Int) (H : zAY N rec p0 = some r) (hE : HF w w.W E0) : Calls Tryz.prog 45 [(.slice zG p0.length zH)].toArray w.W fun e W' => e = .returned (iv r) ∧ HF w W' E0 := by
 unfold zAY at H
 have leB := Bs.Le.refl w
 refine Tr.enter (n := 55) Tryz.func45 rfl rfl rfl hE ?_
 refine Tr.sr (Tr.asg rfl rfl (Tr.nil (Tr.zA (Tr.sr (Tr.asg rfl rfl (Tr.nil (Tr.zA (Tr.seq (Tr.sr (Tr.asg rfl rfl ?_))))))))))
 refine Tr.nil (Tr.zA (Tr.block (Tr.loop (σ := Int × Int) (fun m w s => QA p0 rec m s.1 s.2 = some r) (fun s => [(0, (.slice zG p0.length zH)), (3, (iv s.1)), (4, (iv s.2))]) (fun s => []) N (0, 0) H (.cons rfl (.cons rfl (.cons rfl .nil))) .nil (fun _ _ h => WM (h)) ?_)))
 intro w leL5 mL5 s hs
 obtain ⟨zBu, zBq⟩ := s
 have H := hs
 replace H : QA p0 rec (mL5 + 1) zBu zBq = some r := H
 replace ze := ze.leR leL5
 replace leB := leB.trans leL5
 rw [QA.eq_2] at H
 show Tr _ _ (LF [(0, (.slice zG p0.length zH)), (3, (iv zBu)), (4, (iv zBq))]) (LE []) _
 refine Tr.seq (Tr.sr (Tr.mv rfl rfl (Tr.mv rfl rfl (Tr.va rfl (fun _ _ h1 h2 => QG zBx (h1.ev rfl)) ?_))))
 refine Tr.va rfl (fun _ _ h1 h2 => QV (h1.ev rfl) (h1.ev rfl)) ?_
 refine Tr.mv rfl rfl (Tr.Jl 3 [(0, (.slice zG p0.length zH)), (3, (iv zBu)), (4, (iv zBq)), (14, (.bool ((decide (zBq < (p0.length : Int))) && (decide (zBu ≤ 3000)))))] [] ?_ ?_)
 ·cases hg194 : (decide (zBq < (p0.length : Int)))
  ·refine Tr.pass rfl rfl rfl rfl rfl (by decide) ?_
   refine Tr.pass rfl rfl rfl rfl rfl (by decide) ?_
   refine Tr.va rfl (fun _ _ h1 h2 => zV (h1.ev rfl) (h1.ev rfl)) ?_
   exact Tr.nil (Tr.QI (.cons rfl (.cons rfl (.cons rfl (.cons rfl .nil)))) .nil)
  ·refine Tr.val (wg rfl rfl rfl) rfl (fun _ _ h1 h2 => run_move (h1.ev rfl)) ?_
   refine Tr.val (wg rfl rfl rfl) rfl (fun _ _ h1 h2 => zAy (h1.ev rfl) (h1.ev rfl)) ?_
   refine Tr.va rfl (fun _ _ h1 h2 => zU (h1.ev rfl) (h1.ev rfl)) ?_
   exact Tr.nil (Tr.QI (.cons rfl (.cons rfl (.cons rfl (.cons rfl .nil)))) .nil)
 ·show Tr _ _ (LF [(0, (.slice zG p0.length zH)), (3, (iv zBu)), (4, (iv zBq)), (14, (.bool ((decide (zBq < (p0.length : Int))) && (decide (zBu ≤ 3000)))))]) (LE []) _
  refine Tr.nil (Tr.zA (Tr.cond rfl H (fun H => ?_) (fun H => ?_)))
  ·refine Tr.skip (Tr.zA (Tr.seq (Tr.block (Tr.sr (Tr.mv rfl rfl (Tr.va rfl (fun _ _ h1 h2 => QS (h1.ev rfl) (h1.ev rfl)) ?_))))))
   refine Tr.asg rfl rfl (Tr.nil (Tr.zA (Tr.sr (Tr.asg rfl rfl (Tr.asg rfl rfl (Tr.nil (Tr.zA ?_)))))))
   have leJ172 := Bs.Le.refl w
   refine Tr.zFq (σ := Int) (fun w s => Jy p0 rec zBu zBq (QA p0 rec mL5) s = some r) (fun s => [(0, (.slice zG p0.length zH)), (3, (iv (w64 (zBu + 1)))), (4, (iv zBq)), (5, (iv s)), (6, (iv 1))]) (fun s => []) ?_ ?_
   ·refine Tr.sr (Tr.mv rfl rfl (Tr.mv rfl rfl ?_))
    obtain ⟨x190, hx190, H⟩ := bnd H
    obtain ⟨hx1900, hx1901, hx1902⟩ := zw hx190
    obtain ⟨u191, hRu191, hoku191, hcu191⟩ := (ze).el hx1902
    obtain ⟨⟨Au191_0, cu191_0⟩, ⟨Au191_1, cu191_1⟩⟩ := u191
    obtain ⟨hoku191_0, hoku191_1⟩ := Jc.1 hoku191
    refine Tr.va rfl (fun _ _ h1 h2 => zN zDt (h1.ev rfl) ze.form (h1.ev rfl) hx1900 hx1901) ?_
    refine Tr.va rfl (fun _ _ h1 h2 => zB zB7 (h1.ev rfl)) ?_
    refine Tr.va rfl (fun _ _ h1 h2 => zF Qu (h1.ev rfl) (za.drop (rdR hRu191 hcu191 h2) 5) rfl) ?_
    obtain ⟨y192, hy192, H⟩ := bnd H
    refine Tr.Qa (r := (.bool y192)) (wn rfl) rfl Tryz.call42 (zI rfl (zI rfl (zI rfl zT))) (fun W hW => Jf x190.NX 1 100 y192 hy192 (HF.start _)) ?_
    refine Tr.nil (Tr.zA (Tr.cond rfl H (fun H => ?_) (fun H => ?_)))
    ·refine Tr.region (Tr.mv rfl rfl (Tr.mv rfl rfl ?_))
     obtain ⟨x193, hx193, H⟩ := bnd H
     obtain ⟨hx1930, hx1931, hx1932⟩ := zw hx193
     obtain ⟨u194, hRu194, hoku194, hcu194⟩ := (ze).el hx1932
     obtain ⟨⟨Au194_0, cu194_0⟩, ⟨Au194_1, cu194_1⟩⟩ := u194
     obtain ⟨hoku194_0, hoku194_1⟩ := Jc.1 hoku194
     refine Tr.va rfl (fun _ _ h1 h2 => zN zDt (h1.ev rfl) ze.form (h1.ev rfl) hx1930 hx1931) ?_
     refine Tr.va rfl (fun _ _ h1 h2 => zB zB7 (h1.ev rfl)) ?_
     refine Tr.va rfl (fun _ _ h1 h2 => zF Qu (h1.ev rfl) (za.drop (rdR hRu194 hcu194 h2) 5) rfl) ?_
     exact Tr.asg rfl rfl (Tr.nil (Tr.zb leJ172 x193.NX H (.cons rfl (.cons rfl (.cons rfl (.cons rfl (.cons rfl .nil))))) .nil))
    ·exact Tr.skip (Tr.zb leJ172 1 H (.cons rfl (.cons rfl (.cons rfl (.cons rfl (.cons rfl .nil))))) .nil)
   ·intro w zIh hlJ173 hs
    have H := hs
    replace H : Jy p0 rec zBu zBq (QA p0 rec mL5) zIh = some r := H
    replace ze := ze.leR hlJ173
    replace leL5 := leL5.trans hlJ173
    unfold Jy at H
    show Tr _ _ (LF [(0, (.slice zG p0.length zH)), (3, (iv (w64 (zBu + 1)))), (4, (iv zBq)), (5, (iv zIh)), (6, (iv 1))]) (LE []) _
    have leJ180 := Bs.Le.refl w
    refine Tr.zFq (σ := Int) (fun w s => Jz p0 rec zBu zBq (QA p0 rec mL5) zIh s = some r) (fun s => [(0, (.slice zG p0.length zH)), (3, (iv (w64 (zBu + 1)))), (4, (iv zBq)), (5, (iv zIh)), (6, (iv s))]) (fun s => []) ?_ ?_
    ·refine Tr.sr (Tr.mv rfl rfl (Tr.mv rfl rfl ?_))
     obtain ⟨x185, hx185, H⟩ := bnd H
     obtain ⟨hx1850, hx1851, hx1852⟩ := zw hx185
     obtain ⟨u186, hRu186, hoku186, hcu186⟩ := (ze).el hx1852
     obtain ⟨⟨Au186_0, cu186_0⟩, ⟨Au186_1, cu186_1⟩⟩ := u186
     obtain ⟨hoku186_0, hoku186_1⟩ := Jc.1 hoku186
     refine Tr.va rfl (fun _ _ h1 h2 => zN zDt (h1.ev rfl) ze.form (h1.ev rfl) hx1850 hx1851) ?_
     refine Tr.va rfl (fun _ _ h1 h2 => zB zB6 (h1.ev rfl)) ?_
     refine Tr.va rfl (fun _ _ h1 h2 => zF Qu (h1.ev rfl) (za.drop (rdR hRu186 hcu186 h2) 6) rfl) ?_
     obtain ⟨y187, hy187, H⟩ := bnd H
     refine Tr.Qa (r := (.bool y187)) (wn rfl) rfl Tryz.call42 (zI rfl (zI rfl (zI rfl zT))) (fun W hW => Jf x185.NY 1 100 y187 hy187 (HF.start _)) ?_
     refine Tr.nil (Tr.zA (Tr.cond rfl H (fun H => ?_) (fun H => ?_)))
     ·refine Tr.region (Tr.mv rfl rfl (Tr.mv rfl rfl ?_))
      obtain ⟨x188, hx188, H⟩ := bnd H
      obtain ⟨hx1880, hx1881, hx1882⟩ := zw hx188
      obtain ⟨u189, hRu189, hoku189, hcu189⟩ := (ze).el hx1882
      obtain ⟨⟨Au189_0, cu189_0⟩, ⟨Au189_1, cu189_1⟩⟩ := u189
      obtain ⟨hoku189_0, hoku189_1⟩ := Jc.1 hoku189
      refine Tr.va rfl (fun _ _ h1 h2 => zN zDt (h1.ev rfl) ze.form (h1.ev rfl) hx1880 hx1881) ?_
      refine Tr.va rfl (fun _ _ h1 h2 => zB zB6 (h1.ev rfl)) ?_
      refine Tr.va rfl (fun _ _ h1 h2 => zF Qu (h1.ev rfl) (za.drop (rdR hRu189 hcu189 h2) 6) rfl) ?_
      exact Tr.asg rfl rfl (Tr.nil (Tr.zb leJ180 x188.NY H (.cons rfl (.cons rfl (.cons rfl (.cons rfl (.cons rfl .nil))))) .nil))
     ·exact Tr.skip (Tr.zb leJ180 1 H (.cons rfl (.cons rfl (.cons rfl (.cons rfl (.cons rfl .nil))))) .nil)
    ·intro w zCz hlJ181 hs
     have H := hs
     replace H : Jz p0 rec zBu zBq (QA p0 rec mL5) zIh zCz = some r := H
     replace ze := ze.leR hlJ181
     replace leL5 := leL5.trans hlJ181
     unfold Jz at H
     show Tr _ _ (LF [(0, (.slice zG p0.length zH)), (3, (iv (w64 (zBu + 1)))), (4, (iv zBq)), (5, (iv zIh)), (6, (iv zCz))]) (LE []) _
     refine Tr.region (Tr.mv rfl rfl (Tr.mv rfl rfl (Tr.mv rfl rfl (Tr.va rfl (fun _ _ h1 h2 => zGw (h1.ev rfl) (h1.ev rfl)) ?_))))
     refine Tr.mv rfl rfl (Tr.mv rfl rfl ?_)
     obtain ⟨x182, hx182, H⟩ := bnd H
     obtain ⟨hx1820, hx1821, hx1822⟩ := zw hx182
     obtain ⟨u183, hRu183, hoku183, hcu183⟩ := (ze).el hx1822
     obtain ⟨⟨Au183_0, cu183_0⟩, ⟨Au183_1, cu183_1⟩⟩ := u183
     obtain ⟨hoku183_0, zH3⟩ := Jc.1 hoku183
     replace zH3 : Sl w.R w.W zC Au183_1 cu183_1 x182.Steps := zH3
     refine Tr.va rfl (fun _ _ h1 h2 => zN zDt (h1.ev rfl) ze.form (h1.ev rfl) hx1820 hx1821) ?_
     refine Tr.va rfl (fun _ _ h1 h2 => zB zAB (h1.ev rfl)) ?_
     refine Tr.va rfl (fun _ _ h1 h2 => zF zBR (h1.ev rfl) (za.drop (rdR hRu183 hcu183 h2) 7) rfl) ?_
     obtain ⟨y184, hy184, H⟩ := bnd H
     refine Tr.Qa (r := (iv y184)) (wn rfl) rfl Tryz.call45 (zI rfl zT) (fun W hW => hrec x182.Steps Au183_1 cu183_1 (zH3.ext hW.Qc) y184 hy184 (HF.start _)) ?_
     refine Tr.va rfl (fun _ _ h1 h2 => zGw (h1.ev rfl) (h1.ev rfl)) ?_
     refine Tr.va rfl (fun _ _ h1 h2 => QS (h1.ev rfl) (h1.ev rfl)) ?_
     refine Tr.asg rfl rfl (Tr.nil (Tr.zi (Tr.zA (Tr.region (Tr.mv rfl rfl (Tr.va rfl (fun _ _ h1 h2 => QS (h1.ev rfl) (h1.ev rfl)) ?_))))))
     exact Tr.asg rfl rfl (Tr.nil (Tr.zb leL5 ((w64 ((w64 (zBu + 1)) + (w64 ((w64 (zIh * zCz)) * y184)))), (w64 (zBq + 1))) H (.cons rfl (.cons rfl (.cons rfl .nil))) .nil))
  ·refine Tr.exit (Tr.zx (Tr.zx (Tr.Qd (Tr.zA (Tr.sr (Tr.mv rfl rfl (Tr.va rfl (fun _ _ h1 h2 => run_min (h1.ev rfl) (h1.ev rfl) _) ?_)))))))
   refine Tr.asg rfl rfl (Tr.nil (Tr.zA (Tr.ret ?_)))
   obtain rfl := Option.some.inj H
   exact Tr.out (m := [(iv (min zBu 3001))]) [] (zJ rfl zR) (fun W hW => ⟨rfl, hW.low leB⟩)
theorem zBc : ∀ (N : Nat) {w : Bs} (p0 : (List zD)) (zG : Option Addr) (zH : Nat) (ze : Sl w.R w.W zC zG zH p0) (r : Int) (H : KU N p0 = some r) (hE : HF w w.W E0), Calls Tryz.prog 45 [(.slice zG p0.length zH)].toArray w.W fun e W' => e = .returned (iv r) ∧ HF w W' E0
 | 0 => by intros; rename_i H _; cases H
 | N + 1 => zDc N (KU N) (zBc N)

theorem zDk {w : Bs} (p0 : zD) (zG : Option Addr) (zH : Nat) (ze : Sl w.R w.W QM zG zH p0.Points) (zL : Option Addr) (zK : Nat) (KE : Sl w.R w.W zC zL zK p0.Steps) (r : Bool) (H : Vg p0 = some r) (hE : HF w w.W E0) : Calls Tryz.prog 86 [(.agg #[(iv p0.Kind), (sv p0.Name), (iv p0.At.X), (iv p0.At.Y), (.slice zG p0.Points.length zH), (iv p0.NX), (iv p0.NY), (.slice zL p0.Steps.length zK)])].toArray w.W fun e W' => e = .returned (.bool r) ∧ HF w W' E0 := by
 unfold Vg at H
 have leB := Bs.Le.refl w
 refine Tr.enter (n := 62) Tryz.func86 rfl rfl rfl hE ?_
 refine Tr.sr (Tr.box 1 (cs := [(iv p0.Kind), (sv p0.Name), (iv p0.At.X), (iv p0.At.Y), (.slice zG p0.Points.length zH), (iv p0.NX), (iv p0.NY), (.slice zL p0.Steps.length zK)]) (wn rfl) rfl rfl rfl fun QB => ?_)
 refine Tr.asg rfl rfl (Tr.nil (Tr.zA (Tr.sr (Tr.asg rfl rfl (Tr.asg rfl rfl (Tr.asg rfl rfl (Tr.asg rfl rfl (Tr.nil (Tr.zA ?_)))))))))
 have leJ108 := Bs.Le.refl w
 refine Tr.zFq (σ := Bool × Bool × Bool × Bool) (fun w s => JJ p0 s.1 s.2.1 s.2.2.1 s.2.2.2 = some r) (fun s => [(1, (.pointer (some ⟨QB, 0, none⟩))), (3, (.bool s.1)), (4, (.bool s.2.1)), (5, (.bool s.2.2.1)), (6, (.bool s.2.2.2))]) (fun s => [(1, bx QB #[(iv p0.Kind), (sv p0.Name), (iv p0.At.X), (iv p0.At.Y), (.slice zG p0.Points.length zH), (iv p0.NX), (iv p0.NY), (.slice zL p0.Steps.length zK)] 80)]) ?_ ?_
 ·refine Tr.sr (Tr.va rfl (fun _ _ h1 h2 => zB zBd (h1.ev rfl)) ?_)
  refine Tr.va rfl (fun _ _ h1 h2 => zF Qu (h1.ev rfl) (rdb h2 (vs := [(iv p0.Kind), (sv p0.Name), (iv p0.At.X), (iv p0.At.Y), (.slice zG p0.Points.length zH), (iv p0.NX), (iv p0.NY), (.slice zL p0.Steps.length zK)]) (k := 1) rfl 0) rfl) ?_
  refine Tr.nil (Tr.zA (Tr.block (Tr.sr (Tr.va rfl (fun _ _ h1 h2 => QY (h1.ev rfl) (h1.ev rfl)) ?_))))
  refine Tr.asg rfl rfl (Tr.nil (Tr.zA (Tr.cond rfl H (fun H => ?_) (fun H => ?_))))
  ·exact Tr.region (Tr.asg rfl rfl (Tr.nil (Tr.zi (Tr.zb leJ108 (true, false, false, false) H (.cons rfl (.cons rfl (.cons rfl (.cons rfl (.cons rfl .nil))))) (.cons rfl .nil)))))
  ·have leJ111 := Bs.Le.refl w
   refine Tr.zFq (σ := Bool) (fun w s => Jq p0 s = some r) (fun s => [(1, (.pointer (some ⟨QB, 0, none⟩))), (3, (.bool false)), (4, (.bool false)), (5, (.bool false)), (6, (.bool false)), (8, (iv p0.Kind)), (11, (.bool s))]) (fun s => [(1, bx QB #[(iv p0.Kind), (sv p0.Name), (iv p0.At.X), (iv p0.At.Y), (.slice zG p0.Points.length zH), (iv p0.NX), (iv p0.NY), (.slice zL p0.Steps.length zK)] 80)]) ?_ ?_
   ·refine Tr.sr (Tr.va rfl (fun _ _ h1 h2 => QY (h1.ev rfl) (h1.ev rfl)) ?_)
    refine Tr.asg rfl rfl (Tr.nil (Tr.zA (Tr.cond rfl H (fun H => ?_) (fun H => ?_))))
    ·exact Tr.skip (Tr.zb leJ111 (p0.Kind == 4) H (.cons rfl (.cons rfl (.cons rfl (.cons rfl (.cons rfl (.cons rfl (.cons rfl .nil))))))) (.cons rfl .nil))
    ·refine Tr.sr (Tr.va rfl (fun _ _ h1 h2 => QY (h1.ev rfl) (h1.ev rfl)) ?_)
     refine Tr.asg rfl rfl (Tr.nil (Tr.zA (Tr.cond rfl H (fun H => ?_) (fun H => ?_))))
     ·exact Tr.skip (Tr.zb leJ111 (p0.Kind == 5) H (.cons rfl (.cons rfl (.cons rfl (.cons rfl (.cons rfl (.cons rfl (.cons rfl .nil))))))) (.cons rfl .nil))
     ·refine Tr.region (Tr.va rfl (fun _ _ h1 h2 => QY (h1.ev rfl) (h1.ev rfl)) ?_)
      exact Tr.asg rfl rfl (Tr.nil (Tr.zb leJ111 (p0.Kind == 6) H (.cons rfl (.cons rfl (.cons rfl (.cons rfl (.cons rfl (.cons rfl (.cons rfl .nil))))))) (.cons rfl .nil)))
   ·intro w x110 hlJ112 hs
    have H := hs
    replace H : Jq p0 x110 = some r := H
    replace leJ108 := leJ108.trans hlJ112
    unfold Jq at H
    show Tr _ _ (LF [(1, (.pointer (some ⟨QB, 0, none⟩))), (3, (.bool false)), (4, (.bool false)), (5, (.bool false)), (6, (.bool false)), (8, (iv p0.Kind)), (11, (.bool x110))]) (LE [(1, bx QB #[(iv p0.Kind), (sv p0.Name), (iv p0.At.X), (iv p0.At.Y), (.slice zG p0.Points.length zH), (iv p0.NX), (iv p0.NY), (.slice zL p0.Steps.length zK)] 80)]) _
    refine Tr.cond rfl H (fun H => ?_) (fun H => ?_)
    ·exact Tr.region (Tr.asg rfl rfl (Tr.nil (Tr.zi (Tr.zb leJ108 (false, true, false, false) H (.cons rfl (.cons rfl (.cons rfl (.cons rfl (.cons rfl .nil))))) (.cons rfl .nil)))))
    ·refine Tr.sr (Tr.va rfl (fun _ _ h1 h2 => QY (h1.ev rfl) (h1.ev rfl)) ?_)
     refine Tr.asg rfl rfl (Tr.nil (Tr.zA (Tr.cond rfl H (fun H => ?_) (fun H => ?_))))
     ·exact Tr.region (Tr.asg rfl rfl (Tr.nil (Tr.zi (Tr.zb leJ108 (false, false, true, false) H (.cons rfl (.cons rfl (.cons rfl (.cons rfl (.cons rfl .nil))))) (.cons rfl .nil)))))
     ·refine Tr.sr (Tr.va rfl (fun _ _ h1 h2 => QY (h1.ev rfl) (h1.ev rfl)) ?_)
      refine Tr.asg rfl rfl (Tr.nil (Tr.zA (Tr.cond rfl H (fun H => ?_) (fun H => ?_))))
      ·exact Tr.region (Tr.asg rfl rfl (Tr.asg rfl rfl (Tr.nil (Tr.zi (Tr.zb leJ108 (false, true, false, true) H (.cons rfl (.cons rfl (.cons rfl (.cons rfl (.cons rfl .nil))))) (.cons rfl .nil))))))
      ·exact Tr.skip (Tr.zi (Tr.zb leJ108 (false, false, false, false) H (.cons rfl (.cons rfl (.cons rfl (.cons rfl (.cons rfl .nil))))) (.cons rfl .nil)))
 ·intro w s hlJ109 hs
  obtain ⟨x104, x105, VK, x107⟩ := s
  have H := hs
  replace H : JJ p0 x104 x105 VK x107 = some r := H
  replace leB := leB.trans hlJ109
  unfold JJ at H
  show Tr _ _ (LF [(1, (.pointer (some ⟨QB, 0, none⟩))), (3, (.bool x104)), (4, (.bool x105)), (5, (.bool VK)), (6, (.bool x107))]) (LE [(1, bx QB #[(iv p0.Kind), (sv p0.Name), (iv p0.At.X), (iv p0.At.Y), (.slice zG p0.Points.length zH), (iv p0.NX), (iv p0.NY), (.slice zL p0.Steps.length zK)] 80)]) _
  refine Tr.sr (Tr.mv rfl rfl (Tr.mv rfl rfl (Tr.Jl 4 [(1, (.pointer (some ⟨QB, 0, none⟩))), (4, (.bool x105)), (5, (.bool VK)), (6, (.bool x107)), (24, (.bool (x104 || (sEq p0.Name (⟨#[]⟩)))))] [(1, bx QB #[(iv p0.Kind), (sv p0.Name), (iv p0.At.X), (iv p0.At.Y), (.slice zG p0.Points.length zH), (iv p0.NX), (iv p0.NY), (.slice zL p0.Steps.length zK)] 80)] ?_ ?_)))
  ·cases zBm : x104
   ·refine Tr.val (wg rfl rfl rfl) rfl (fun _ _ h1 h2 => zB zE1 (h1.ev rfl)) ?_
    refine Tr.val (wg rfl rfl rfl) rfl (fun _ _ h1 h2 => zF zAR (h1.ev rfl) (rdb h2 (vs := [(iv p0.Kind), (sv p0.Name), (iv p0.At.X), (iv p0.At.Y), (.slice zG p0.Points.length zH), (iv p0.NX), (iv p0.NY), (.slice zL p0.Steps.length zK)]) (k := 1) rfl 1) rfl) ?_
    refine Tr.val (wg rfl rfl rfl) rfl (fun _ _ h1 h2 => Qq (h1.ev rfl) (h1.ev rfl)) ?_
    refine Tr.va rfl (fun _ _ h1 h2 => zV (h1.ev rfl) (h1.ev rfl)) ?_
    exact Tr.nil (Tr.QI (.cons rfl (.cons rfl (.cons rfl (.cons rfl (.cons rfl .nil))))) (.cons rfl .nil))
   ·refine Tr.pass rfl rfl rfl rfl rfl (by decide) ?_
    refine Tr.pass rfl rfl rfl rfl rfl (by decide) ?_
    refine Tr.pass rfl rfl rfl rfl rfl (by decide) ?_
    refine Tr.va rfl (fun _ _ h1 h2 => zU (h1.ev rfl) (h1.ev rfl)) ?_
    exact Tr.nil (Tr.QI (.cons rfl (.cons rfl (.cons rfl (.cons rfl (.cons rfl .nil))))) (.cons rfl .nil))
  ·show Tr _ _ (LF [(1, (.pointer (some ⟨QB, 0, none⟩))), (4, (.bool x105)), (5, (.bool VK)), (6, (.bool x107)), (24, (.bool (x104 || (sEq p0.Name (⟨#[]⟩)))))]) (LE [(1, bx QB #[(iv p0.Kind), (sv p0.Name), (iv p0.At.X), (iv p0.At.Y), (.slice zG p0.Points.length zH), (iv p0.NX), (iv p0.NY), (.slice zL p0.Steps.length zK)] 80)]) _
   refine Tr.mv rfl rfl (Tr.Jl 8 [(1, (.pointer (some ⟨QB, 0, none⟩))), (5, (.bool VK)), (6, (.bool x107)), (33, (.bool ((x104 || (sEq p0.Name (⟨#[]⟩))) && (x105 || (JP p0.At (zf.mk 0 0))))))] [(1, bx QB #[(iv p0.Kind), (sv p0.Name), (iv p0.At.X), (iv p0.At.Y), (.slice zG p0.Points.length zH), (iv p0.NX), (iv p0.NY), (.slice zL p0.Steps.length zK)] 80)] ?_ ?_)
   ·cases zBm : (x104 || (sEq p0.Name (⟨#[]⟩)))
    ·refine Tr.pass rfl rfl rfl rfl rfl (by decide) ?_
     refine Tr.pass rfl rfl rfl rfl rfl (by decide) ?_
     refine Tr.QX rfl rfl rfl rfl (by decide) ?_
     refine Tr.QX rfl rfl rfl rfl (by decide) ?_
     refine Tr.QX rfl rfl rfl rfl (by decide) ?_
     refine Tr.QX rfl rfl rfl rfl (by decide) ?_
     refine Tr.pass rfl rfl rfl rfl rfl (by decide) ?_
     refine Tr.va rfl (fun _ _ h1 h2 => zV (h1.ev rfl) (h1.ev rfl)) ?_
     exact Tr.nil (Tr.QI (.cons rfl (.cons rfl (.cons rfl (.cons rfl .nil)))) (.cons rfl .nil))
    ·refine Tr.val (wg rfl rfl rfl) rfl (fun _ _ h1 h2 => run_move (h1.ev rfl)) ?_
     refine Tr.val (wg rfl rfl rfl) rfl (fun _ _ h1 h2 => run_move (h1.ev rfl)) ?_
     refine Tr.Jl 5 [(1, (.pointer (some ⟨QB, 0, none⟩))), (5, (.bool VK)), (6, (.bool x107)), (25, (.bool true)), (32, (.bool (x105 || (JP p0.At (zf.mk 0 0)))))] [(1, bx QB #[(iv p0.Kind), (sv p0.Name), (iv p0.At.X), (iv p0.At.Y), (.slice zG p0.Points.length zH), (iv p0.NX), (iv p0.NY), (.slice zL p0.Steps.length zK)] 80)] ?_ ?_
     ·cases zBm : x105
      ·refine Tr.val (wg rfl rfl rfl) rfl (fun _ _ h1 h2 => zB zBH (h1.ev rfl)) ?_
       refine Tr.val (wg rfl rfl rfl) rfl (fun _ _ h1 h2 => zu (cs := [(iv p0.At.X), (iv p0.At.Y)]) zBo Wx (h1.ev rfl) (za.take (rdb h2 (vs := [(iv p0.Kind), (sv p0.Name), (iv p0.At.X), (iv p0.At.Y), (.slice zG p0.Points.length zH), (iv p0.NX), (iv p0.NY), (.slice zL p0.Steps.length zK)]) (k := 1) rfl 2) 2) rfl) ?_
       refine Tr.build (vs := []) (cs := [(iv 0), (iv 0)]) (wg rfl rfl rfl) rfl Qj (by kernel_rfl) ?_
       refine Tr.val (wg rfl rfl rfl) rfl (fun _ _ h1 h2 => run_eql_52 p0.At (zf.mk 0 0) (h1.ev rfl) (h1.ev rfl)) ?_
       refine Tr.val (wg rfl rfl rfl) rfl (fun _ _ h1 h2 => zV (h1.ev rfl) (h1.ev rfl)) ?_
       exact Tr.nil (Tr.QI (.cons rfl (.cons rfl (.cons rfl (.cons rfl (.cons rfl .nil))))) (.cons rfl .nil))
      ·refine Tr.pass rfl rfl rfl rfl rfl (by decide) ?_
       refine Tr.pass rfl rfl rfl rfl rfl (by decide) ?_
       refine Tr.pass rfl rfl rfl rfl rfl (by decide) ?_
       refine Tr.pass rfl rfl rfl rfl rfl (by decide) ?_
       refine Tr.val (wg rfl rfl rfl) rfl (fun _ _ h1 h2 => zU (h1.ev rfl) (h1.ev rfl)) ?_
       exact Tr.nil (Tr.QI (.cons rfl (.cons rfl (.cons rfl (.cons rfl (.cons rfl .nil))))) (.cons rfl .nil))
     ·show Tr _ _ (LF [(1, (.pointer (some ⟨QB, 0, none⟩))), (5, (.bool VK)), (6, (.bool x107)), (25, (.bool true)), (32, (.bool (x105 || (JP p0.At (zf.mk 0 0)))))]) (LE [(1, bx QB #[(iv p0.Kind), (sv p0.Name), (iv p0.At.X), (iv p0.At.Y), (.slice zG p0.Points.length zH), (iv p0.NX), (iv p0.NY), (.slice zL p0.Steps.length zK)] 80)]) _
      refine Tr.va rfl (fun _ _ h1 h2 => zU (h1.ev rfl) (h1.ev rfl)) ?_
      exact Tr.nil (Tr.QI (.cons rfl (.cons rfl (.cons rfl (.cons rfl .nil)))) (.cons rfl .nil))
   ·show Tr _ _ (LF [(1, (.pointer (some ⟨QB, 0, none⟩))), (5, (.bool VK)), (6, (.bool x107)), (33, (.bool ((x104 || (sEq p0.Name (⟨#[]⟩))) && (x105 || (JP p0.At (zf.mk 0 0))))))]) (LE [(1, bx QB #[(iv p0.Kind), (sv p0.Name), (iv p0.At.X), (iv p0.At.Y), (.slice zG p0.Points.length zH), (iv p0.NX), (iv p0.NY), (.slice zL p0.Steps.length zK)] 80)]) _
    refine Tr.mv rfl rfl (Tr.Jl 8 [(1, (.pointer (some ⟨QB, 0, none⟩))), (6, (.bool x107)), (42, (.bool (((x104 || (sEq p0.Name (⟨#[]⟩))) && (x105 || (JP p0.At (zf.mk 0 0)))) && (VK || ((p0.Points.length : Int) == 0)))))] [(1, bx QB #[(iv p0.Kind), (sv p0.Name), (iv p0.At.X), (iv p0.At.Y), (.slice zG p0.Points.length zH), (iv p0.NX), (iv p0.NY), (.slice zL p0.Steps.length zK)] 80)] ?_ ?_)
    ·cases zBm : ((x104 || (sEq p0.Name (⟨#[]⟩))) && (x105 || (JP p0.At (zf.mk 0 0))))
     ·refine Tr.pass rfl rfl rfl rfl rfl (by decide) ?_
      refine Tr.pass rfl rfl rfl rfl rfl (by decide) ?_
      refine Tr.QX rfl rfl rfl rfl (by decide) ?_
      refine Tr.QX rfl rfl rfl rfl (by decide) ?_
      refine Tr.QX rfl rfl rfl rfl (by decide) ?_
      refine Tr.QX rfl rfl rfl rfl (by decide) ?_
      refine Tr.pass rfl rfl rfl rfl rfl (by decide) ?_
      refine Tr.va rfl (fun _ _ h1 h2 => zV (h1.ev rfl) (h1.ev rfl)) ?_
      exact Tr.nil (Tr.QI (.cons rfl (.cons rfl (.cons rfl .nil))) (.cons rfl .nil))
     ·refine Tr.val (wg rfl rfl rfl) rfl (fun _ _ h1 h2 => run_move (h1.ev rfl)) ?_
      refine Tr.val (wg rfl rfl rfl) rfl (fun _ _ h1 h2 => run_move (h1.ev rfl)) ?_
      refine Tr.Jl 5 [(1, (.pointer (some ⟨QB, 0, none⟩))), (6, (.bool x107)), (34, (.bool true)), (41, (.bool (VK || ((p0.Points.length : Int) == 0))))] [(1, bx QB #[(iv p0.Kind), (sv p0.Name), (iv p0.At.X), (iv p0.At.Y), (.slice zG p0.Points.length zH), (iv p0.NX), (iv p0.NY), (.slice zL p0.Steps.length zK)] 80)] ?_ ?_
      ·cases zBm : VK
       ·refine Tr.val (wg rfl rfl rfl) rfl (fun _ _ h1 h2 => zB zBG (h1.ev rfl)) ?_
        refine Tr.val (wg rfl rfl rfl) rfl (fun _ _ h1 h2 => zF zFs (h1.ev rfl) (rdb h2 (vs := [(iv p0.Kind), (sv p0.Name), (iv p0.At.X), (iv p0.At.Y), (.slice zG p0.Points.length zH), (iv p0.NX), (iv p0.NY), (.slice zL p0.Steps.length zK)]) (k := 1) rfl 4) rfl) ?_
        refine Tr.val (wg rfl rfl rfl) rfl (fun _ _ h1 h2 => QG zCM (h1.ev rfl)) ?_
        refine Tr.val (wg rfl rfl rfl) rfl (fun _ _ h1 h2 => QY (h1.ev rfl) (h1.ev rfl)) ?_
        refine Tr.val (wg rfl rfl rfl) rfl (fun _ _ h1 h2 => zV (h1.ev rfl) (h1.ev rfl)) ?_
        exact Tr.nil (Tr.QI (.cons rfl (.cons rfl (.cons rfl (.cons rfl .nil)))) (.cons rfl .nil))
       ·refine Tr.pass rfl rfl rfl rfl rfl (by decide) ?_
        refine Tr.pass rfl rfl rfl rfl rfl (by decide) ?_
        refine Tr.pass rfl rfl rfl rfl rfl (by decide) ?_
        refine Tr.pass rfl rfl rfl rfl rfl (by decide) ?_
        refine Tr.val (wg rfl rfl rfl) rfl (fun _ _ h1 h2 => zU (h1.ev rfl) (h1.ev rfl)) ?_
        exact Tr.nil (Tr.QI (.cons rfl (.cons rfl (.cons rfl (.cons rfl .nil)))) (.cons rfl .nil))
      ·show Tr _ _ (LF [(1, (.pointer (some ⟨QB, 0, none⟩))), (6, (.bool x107)), (34, (.bool true)), (41, (.bool (VK || ((p0.Points.length : Int) == 0))))]) (LE [(1, bx QB #[(iv p0.Kind), (sv p0.Name), (iv p0.At.X), (iv p0.At.Y), (.slice zG p0.Points.length zH), (iv p0.NX), (iv p0.NY), (.slice zL p0.Steps.length zK)] 80)]) _
       refine Tr.va rfl (fun _ _ h1 h2 => zU (h1.ev rfl) (h1.ev rfl)) ?_
       exact Tr.nil (Tr.QI (.cons rfl (.cons rfl (.cons rfl .nil))) (.cons rfl .nil))
    ·show Tr _ _ (LF [(1, (.pointer (some ⟨QB, 0, none⟩))), (6, (.bool x107)), (42, (.bool (((x104 || (sEq p0.Name (⟨#[]⟩))) && (x105 || (JP p0.At (zf.mk 0 0)))) && (VK || ((p0.Points.length : Int) == 0)))))]) (LE [(1, bx QB #[(iv p0.Kind), (sv p0.Name), (iv p0.At.X), (iv p0.At.Y), (.slice zG p0.Points.length zH), (iv p0.NX), (iv p0.NY), (.slice zL p0.Steps.length zK)] 80)]) _
     refine Tr.mv rfl rfl (Tr.Jl 18 [(61, (.bool ((((x104 || (sEq p0.Name (⟨#[]⟩))) && (x105 || (JP p0.At (zf.mk 0 0)))) && (VK || ((p0.Points.length : Int) == 0))) && (x107 || (((p0.NX == 0) && (p0.NY == 0)) && ((p0.Steps.length : Int) == 0))))))] [(1, bx QB #[(iv p0.Kind), (sv p0.Name), (iv p0.At.X), (iv p0.At.Y), (.slice zG p0.Points.length zH), (iv p0.NX), (iv p0.NY), (.slice zL p0.Steps.length zK)] 80)] ?_ ?_)
     ·cases zBm : (((x104 || (sEq p0.Name (⟨#[]⟩))) && (x105 || (JP p0.At (zf.mk 0 0)))) && (VK || ((p0.Points.length : Int) == 0)))
      ·refine Tr.pass rfl rfl rfl rfl rfl (by decide) ?_
       refine Tr.pass rfl rfl rfl rfl rfl (by decide) ?_
       refine Tr.QX rfl rfl rfl rfl (by decide) ?_
       refine Tr.QX rfl rfl rfl rfl (by decide) ?_
       refine Tr.QX rfl rfl rfl rfl (by decide) ?_
       refine Tr.QX rfl rfl rfl rfl (by decide) ?_
       refine Tr.QX rfl rfl rfl rfl (by decide) ?_
       refine Tr.QX rfl rfl rfl rfl (by decide) ?_
       refine Tr.QX rfl rfl rfl rfl (by decide) ?_
       refine Tr.QX rfl rfl rfl rfl (by decide) ?_
       refine Tr.QX rfl rfl rfl rfl (by decide) ?_
       refine Tr.QX rfl rfl rfl rfl (by decide) ?_
       refine Tr.QX rfl rfl rfl rfl (by decide) ?_
       refine Tr.QX rfl rfl rfl rfl (by decide) ?_
       refine Tr.QX rfl rfl rfl rfl (by decide) ?_
       refine Tr.QX rfl rfl rfl rfl (by decide) ?_
       refine Tr.pass rfl rfl rfl rfl rfl (by decide) ?_
       refine Tr.va rfl (fun _ _ h1 h2 => zV (h1.ev rfl) (h1.ev rfl)) ?_
       exact Tr.nil (Tr.QI (.cons rfl .nil) (.cons rfl .nil))
      ·refine Tr.val (wg rfl rfl rfl) rfl (fun _ _ h1 h2 => run_move (h1.ev rfl)) ?_
       refine Tr.val (wg rfl rfl rfl) rfl (fun _ _ h1 h2 => run_move (h1.ev rfl)) ?_
       refine Tr.Jl 15 [(43, (.bool true)), (60, (.bool (x107 || (((p0.NX == 0) && (p0.NY == 0)) && ((p0.Steps.length : Int) == 0)))))] [(1, bx QB #[(iv p0.Kind), (sv p0.Name), (iv p0.At.X), (iv p0.At.Y), (.slice zG p0.Points.length zH), (iv p0.NX), (iv p0.NY), (.slice zL p0.Steps.length zK)] 80)] ?_ ?_
       ·cases zBm : x107
        ·refine Tr.val (wg rfl rfl rfl) rfl (fun _ _ h1 h2 => zB zB7 (h1.ev rfl)) ?_
         refine Tr.val (wg rfl rfl rfl) rfl (fun _ _ h1 h2 => zF Qu (h1.ev rfl) (rdb h2 (vs := [(iv p0.Kind), (sv p0.Name), (iv p0.At.X), (iv p0.At.Y), (.slice zG p0.Points.length zH), (iv p0.NX), (iv p0.NY), (.slice zL p0.Steps.length zK)]) (k := 1) rfl 5) rfl) ?_
         refine Tr.val (wg rfl rfl rfl) rfl (fun _ _ h1 h2 => QY (h1.ev rfl) (h1.ev rfl)) ?_
         refine Tr.val (wg rfl rfl rfl) rfl (fun _ _ h1 h2 => run_move (h1.ev rfl)) ?_
         refine Tr.Jl 4 [(1, (.pointer (some ⟨QB, 0, none⟩))), (43, (.bool true)), (45, (.bool false)), (53, (.bool ((p0.NX == 0) && (p0.NY == 0))))] [(1, bx QB #[(iv p0.Kind), (sv p0.Name), (iv p0.At.X), (iv p0.At.Y), (.slice zG p0.Points.length zH), (iv p0.NX), (iv p0.NY), (.slice zL p0.Steps.length zK)] 80)] ?_ ?_
         ·cases zBm : (p0.NX == 0)
          ·refine Tr.pass rfl rfl rfl rfl rfl (by decide) ?_
           refine Tr.pass rfl rfl rfl rfl rfl (by decide) ?_
           refine Tr.pass rfl rfl rfl rfl rfl (by decide) ?_
           refine Tr.val (wg rfl rfl rfl) rfl (fun _ _ h1 h2 => zV (h1.ev rfl) (h1.ev rfl)) ?_
           exact Tr.nil (Tr.QI (.cons rfl (.cons rfl (.cons rfl (.cons rfl .nil)))) (.cons rfl .nil))
          ·refine Tr.val (wg rfl rfl rfl) rfl (fun _ _ h1 h2 => zB zB6 (h1.ev rfl)) ?_
           refine Tr.val (wg rfl rfl rfl) rfl (fun _ _ h1 h2 => zF Qu (h1.ev rfl) (rdb h2 (vs := [(iv p0.Kind), (sv p0.Name), (iv p0.At.X), (iv p0.At.Y), (.slice zG p0.Points.length zH), (iv p0.NX), (iv p0.NY), (.slice zL p0.Steps.length zK)]) (k := 1) rfl 6) rfl) ?_
           refine Tr.val (wg rfl rfl rfl) rfl (fun _ _ h1 h2 => QY (h1.ev rfl) (h1.ev rfl)) ?_
           refine Tr.val (wg rfl rfl rfl) rfl (fun _ _ h1 h2 => zU (h1.ev rfl) (h1.ev rfl)) ?_
           exact Tr.nil (Tr.QI (.cons rfl (.cons rfl (.cons rfl (.cons rfl .nil)))) (.cons rfl .nil))
         ·show Tr _ _ (LF [(1, (.pointer (some ⟨QB, 0, none⟩))), (43, (.bool true)), (45, (.bool false)), (53, (.bool ((p0.NX == 0) && (p0.NY == 0))))]) (LE [(1, bx QB #[(iv p0.Kind), (sv p0.Name), (iv p0.At.X), (iv p0.At.Y), (.slice zG p0.Points.length zH), (iv p0.NX), (iv p0.NY), (.slice zL p0.Steps.length zK)] 80)]) _
          refine Tr.val (wg rfl rfl rfl) rfl (fun _ _ h1 h2 => run_move (h1.ev rfl)) ?_
          refine Tr.Jl 5 [(43, (.bool true)), (45, (.bool false)), (59, (.bool (((p0.NX == 0) && (p0.NY == 0)) && ((p0.Steps.length : Int) == 0))))] [(1, bx QB #[(iv p0.Kind), (sv p0.Name), (iv p0.At.X), (iv p0.At.Y), (.slice zG p0.Points.length zH), (iv p0.NX), (iv p0.NY), (.slice zL p0.Steps.length zK)] 80)] ?_ ?_
          ·cases zBm : ((p0.NX == 0) && (p0.NY == 0))
           ·refine Tr.pass rfl rfl rfl rfl rfl (by decide) ?_
            refine Tr.pass rfl rfl rfl rfl rfl (by decide) ?_
            refine Tr.pass rfl rfl rfl rfl rfl (by decide) ?_
            refine Tr.pass rfl rfl rfl rfl rfl (by decide) ?_
            refine Tr.val (wg rfl rfl rfl) rfl (fun _ _ h1 h2 => zV (h1.ev rfl) (h1.ev rfl)) ?_
            exact Tr.nil (Tr.QI (.cons rfl (.cons rfl (.cons rfl .nil))) (.cons rfl .nil))
           ·refine Tr.val (wg rfl rfl rfl) rfl (fun _ _ h1 h2 => zB zAB (h1.ev rfl)) ?_
            refine Tr.val (wg rfl rfl rfl) rfl (fun _ _ h1 h2 => zF zBR (h1.ev rfl) (rdb h2 (vs := [(iv p0.Kind), (sv p0.Name), (iv p0.At.X), (iv p0.At.Y), (.slice zG p0.Points.length zH), (iv p0.NX), (iv p0.NY), (.slice zL p0.Steps.length zK)]) (k := 1) rfl 7) rfl) ?_
            refine Tr.val (wg rfl rfl rfl) rfl (fun _ _ h1 h2 => QG zBx (h1.ev rfl)) ?_
            refine Tr.val (wg rfl rfl rfl) rfl (fun _ _ h1 h2 => QY (h1.ev rfl) (h1.ev rfl)) ?_
            refine Tr.val (wg rfl rfl rfl) rfl (fun _ _ h1 h2 => zU (h1.ev rfl) (h1.ev rfl)) ?_
            exact Tr.nil (Tr.QI (.cons rfl (.cons rfl (.cons rfl .nil))) (.cons rfl .nil))
          ·show Tr _ _ (LF [(43, (.bool true)), (45, (.bool false)), (59, (.bool (((p0.NX == 0) && (p0.NY == 0)) && ((p0.Steps.length : Int) == 0))))]) (LE [(1, bx QB #[(iv p0.Kind), (sv p0.Name), (iv p0.At.X), (iv p0.At.Y), (.slice zG p0.Points.length zH), (iv p0.NX), (iv p0.NY), (.slice zL p0.Steps.length zK)] 80)]) _
           refine Tr.val (wg rfl rfl rfl) rfl (fun _ _ h1 h2 => zV (h1.ev rfl) (h1.ev rfl)) ?_
           exact Tr.nil (Tr.QI (.cons rfl (.cons rfl .nil)) (.cons rfl .nil))
        ·refine Tr.pass rfl rfl rfl rfl rfl (by decide) ?_
         refine Tr.pass rfl rfl rfl rfl rfl (by decide) ?_
         refine Tr.pass rfl rfl rfl rfl rfl (by decide) ?_
         refine Tr.pass rfl rfl rfl rfl rfl (by decide) ?_
         refine Tr.QX rfl rfl rfl rfl (by decide) ?_
         refine Tr.QX rfl rfl rfl rfl (by decide) ?_
         refine Tr.QX rfl rfl rfl rfl (by decide) ?_
         refine Tr.pass rfl rfl rfl rfl rfl (by decide) ?_
         refine Tr.pass rfl rfl rfl rfl rfl (by decide) ?_
         refine Tr.QX rfl rfl rfl rfl (by decide) ?_
         refine Tr.QX rfl rfl rfl rfl (by decide) ?_
         refine Tr.QX rfl rfl rfl rfl (by decide) ?_
         refine Tr.QX rfl rfl rfl rfl (by decide) ?_
         refine Tr.pass rfl rfl rfl rfl rfl (by decide) ?_
         refine Tr.val (wg rfl rfl rfl) rfl (fun _ _ h1 h2 => zU (h1.ev rfl) (h1.ev rfl)) ?_
         exact Tr.nil (Tr.QI (.cons rfl (.cons rfl .nil)) (.cons rfl .nil))
       ·show Tr _ _ (LF [(43, (.bool true)), (60, (.bool (x107 || (((p0.NX == 0) && (p0.NY == 0)) && ((p0.Steps.length : Int) == 0)))))]) (LE [(1, bx QB #[(iv p0.Kind), (sv p0.Name), (iv p0.At.X), (iv p0.At.Y), (.slice zG p0.Points.length zH), (iv p0.NX), (iv p0.NY), (.slice zL p0.Steps.length zK)] 80)]) _
        refine Tr.va rfl (fun _ _ h1 h2 => zU (h1.ev rfl) (h1.ev rfl)) ?_
        exact Tr.nil (Tr.QI (.cons rfl .nil) (.cons rfl .nil))
     ·show Tr _ _ (LF [(61, (.bool ((((x104 || (sEq p0.Name (⟨#[]⟩))) && (x105 || (JP p0.At (zf.mk 0 0)))) && (VK || ((p0.Points.length : Int) == 0))) && (x107 || (((p0.NX == 0) && (p0.NY == 0)) && ((p0.Steps.length : Int) == 0))))))]) (LE [(1, bx QB #[(iv p0.Kind), (sv p0.Name), (iv p0.At.X), (iv p0.At.Y), (.slice zG p0.Points.length zH), (iv p0.NX), (iv p0.NY), (.slice zL p0.Steps.length zK)] 80)]) _
      refine Tr.asg rfl rfl (Tr.nil (Tr.zA (Tr.ret ?_)))
      obtain rfl := Option.some.inj H
      exact Tr.out (m := [(.bool ((((x104 || (sEq p0.Name (⟨#[]⟩))) && (x105 || (JP p0.At (zf.mk 0 0)))) && (VK || ((p0.Points.length : Int) == 0))) && (x107 || (((p0.NX == 0) && (p0.NY == 0)) && ((p0.Steps.length : Int) == 0)))))]) [] (zJ rfl zR) (fun W hW => ⟨rfl, hW.low leB⟩)

theorem zEb (N : Nat) {w : Bs} (p0 : QN) (zG : Option Addr) (zH : Nat) (ze : Sl w.R w.W zQ zG zH p0.Tools) (zL : Option Addr) (zK : Nat) (KE : Sl w.R w.W zC zL zK p0.Steps) (p1 : ByteArray) (r : Int) (H : zAD N p0 p1 = some r) (hE : HF w w.W E0) : Calls Tryz.prog 87 [(.agg #[(iv p0.Unit), (.slice zG p0.Tools.length zH), (.slice zL p0.Steps.length zK)]), (sv p1)].toArray w.W fun e W' => e = .returned (iv r) ∧ HF w W' E0 := by
 unfold zAD at H
 have leB := Bs.Le.refl w
 refine Tr.enter (n := 22) Tryz.func87 rfl rfl rfl hE ?_
 refine Tr.sr (Tr.box 1 (cs := [(iv p0.Unit), (.slice zG p0.Tools.length zH), (.slice zL p0.Steps.length zK)]) (wn rfl) rfl rfl rfl fun QB => ?_)
 refine Tr.asg rfl rfl (Tr.nil (Tr.zA (Tr.seq (Tr.sr (Tr.asg rfl rfl (Tr.nil (Tr.zA (Tr.block (Tr.loop (σ := Int) (fun m w s => Jm p0 p1 m s = some r) (fun s => [(1, (sv p1)), (2, (.pointer (some ⟨QB, 0, none⟩))), (5, (iv s))]) (fun s => [(1, bx QB #[(iv p0.Unit), (.slice zG p0.Tools.length zH), (.slice zL p0.Steps.length zK)] 25)]) N 0 H (.cons rfl (.cons rfl (.cons rfl .nil))) (.cons rfl .nil) (fun _ _ h => WM (h)) ?_)))))))))
 intro w Qs mL1 Wm hs
 have H := hs
 replace H : Jm p0 p1 (mL1 + 1) Wm = some r := H
 replace ze := ze.leR Qs
 replace leB := leB.trans Qs
 rw [Jm.eq_2] at H
 show Tr _ _ (LF [(1, (sv p1)), (2, (.pointer (some ⟨QB, 0, none⟩))), (5, (iv Wm))]) (LE [(1, bx QB #[(iv p0.Unit), (.slice zG p0.Tools.length zH), (.slice zL p0.Steps.length zK)] 25)]) _
 refine Tr.seq (Tr.sr (Tr.mv rfl rfl (Tr.va rfl (fun _ _ h1 h2 => zB Vl (h1.ev rfl)) ?_)))
 refine Tr.va rfl (fun _ _ h1 h2 => zF zBp (h1.ev rfl) (rdb h2 (vs := [(iv p0.Unit), (.slice zG p0.Tools.length zH), (.slice zL p0.Steps.length zK)]) (k := 1) rfl 1) rfl) ?_
 refine Tr.va rfl (fun _ _ h1 h2 => QG zFJ (h1.ev rfl)) ?_
 refine Tr.va rfl (fun _ _ h1 h2 => QV (h1.ev rfl) (h1.ev rfl)) ?_
 refine Tr.nil (Tr.zA (Tr.cond rfl H (fun H => ?_) (fun H => ?_)))
 ·refine Tr.skip (Tr.zA (Tr.seq (Tr.block (Tr.sr (Tr.va rfl (fun _ _ h1 h2 => zB Vl (h1.ev rfl)) ?_)))))
  refine Tr.va rfl (fun _ _ h1 h2 => zF zBp (h1.ev rfl) (rdb h2 (vs := [(iv p0.Unit), (.slice zG p0.Tools.length zH), (.slice zL p0.Steps.length zK)]) (k := 1) rfl 1) rfl) ?_
  refine Tr.mv rfl rfl ?_
  obtain ⟨JF, zJ4, H⟩ := bnd H
  obtain ⟨zGf, zGe, zGd⟩ := zw zJ4
  obtain ⟨u110, hRu110, hoku110, hcu110⟩ := (ze).el zGd
  obtain ⟨zAJ, zAI⟩ := u110
  have hoku110_0 := hoku110
  refine Tr.va rfl (fun _ _ h1 h2 => zN zFm (h1.ev rfl) ze.form (h1.ev rfl) zGf zGe) ?_
  refine Tr.va rfl (fun _ _ h1 h2 => zB zCA (h1.ev rfl)) ?_
  refine Tr.va rfl (fun _ _ h1 h2 => zF zAR (h1.ev rfl) (za.drop (rdR hRu110 hcu110 h2) 0) rfl) ?_
  refine Tr.mv rfl rfl (Tr.va rfl (fun _ _ h1 h2 => Qq (h1.ev rfl) (h1.ev rfl)) ?_)
  refine Tr.nil (Tr.zA (Tr.cond rfl H (fun H => ?_) (fun H => ?_)))
  ·refine Tr.sr (Tr.mv rfl rfl (Tr.asg rfl rfl (Tr.nil (Tr.zA (Tr.ret (Tr.zW (Tr.zM (Tr.zM (Tr.zW (Tr.zM ?_))))))))))
   obtain rfl := Option.some.inj H
   exact Tr.out (m := [(iv Wm)]) [] (zJ rfl zR) (fun W hW => ⟨rfl, hW.low leB⟩)
  ·refine Tr.skip (Tr.zi (Tr.zA (Tr.region (Tr.mv rfl rfl (Tr.va rfl (fun _ _ h1 h2 => QS (h1.ev rfl) (h1.ev rfl)) ?_)))))
   exact Tr.asg rfl rfl (Tr.nil (Tr.zb Qs (w64 (Wm + 1)) H (.cons rfl (.cons rfl (.cons rfl .nil))) (.cons rfl .nil)))
 ·refine Tr.exit (Tr.zx (Tr.zx (Tr.Qd (Tr.zA (Tr.sr (Tr.asg rfl rfl (Tr.nil (Tr.zA (Tr.ret ?_)))))))))
  obtain rfl := Option.some.inj H
  exact Tr.out (m := [(iv (-1))]) [] (zJ rfl zR) (fun W hW => ⟨rfl, hW.low leB⟩)

theorem zAs {w : Bs} (p0 : zf) (p1 : Int) (r : Bool) (H : KP p0 p1 = some r) (hE : HF w w.W E0) : Calls Tryz.prog 88 [(.agg #[(iv p0.X), (iv p0.Y)]), (iv p1)].toArray w.W fun e W' => e = .returned (.bool r) ∧ HF w W' E0 := by
 unfold KP at H
 have leB := Bs.Le.refl w
 refine Tr.enter (n := 15) Tryz.func88 rfl rfl rfl hE ?_
 refine Tr.sr (Tr.box 1 (cs := [(iv p0.X), (iv p0.Y)]) (wn rfl) rfl rfl rfl fun QB => ?_)
 refine Tr.asg rfl rfl (Tr.nil (Tr.zA (Tr.sr (Tr.va rfl (fun _ _ h1 h2 => zB zE4 (h1.ev rfl)) ?_))))
 refine Tr.va rfl (fun _ _ h1 h2 => zF Qu (h1.ev rfl) (rdb h2 (vs := [(iv p0.X), (iv p0.Y)]) (k := 1) rfl 0) rfl) ?_
 refine Tr.mv rfl rfl ?_
 obtain ⟨y101, hy101, H⟩ := bnd H
 refine Tr.Qa (r := (.bool y101)) (wn rfl) rfl Tryz.call60 (zI rfl (zI rfl zT)) (fun W hW => Kg p0.X p1 y101 hy101 (HF.start _)) ?_
 refine Tr.mv rfl rfl ?_
 obtain ⟨zEB, Wz, H⟩ := bnd H
 refine Tr.Jl 5 [(14, (.bool zEB))] [(1, bx QB #[(iv p0.X), (iv p0.Y)] 52)] ?_ ?_
 ·cases zC6 : y101
  ·rw [zC6] at Wz
   rw [if_neg (by decide)] at Wz
   have H := Wz
   obtain rfl := Option.some.inj H
   refine Tr.pass rfl rfl rfl rfl rfl (by decide) ?_
   refine Tr.pass rfl rfl rfl rfl rfl (by decide) ?_
   refine Tr.pass rfl rfl rfl rfl rfl (by decide) ?_
   refine Tr.pass rfl rfl rfl rfl rfl (by decide) ?_
   refine Tr.va rfl (fun _ _ h1 h2 => zV (h1.ev rfl) (h1.ev rfl)) ?_
   exact Tr.nil (Tr.QI (.cons rfl .nil) (.cons rfl .nil))
  ·rw [zC6] at Wz
   rw [if_pos rfl] at Wz
   have H := Wz
   refine Tr.val (wg rfl rfl rfl) rfl (fun _ _ h1 h2 => zB zE3 (h1.ev rfl)) ?_
   refine Tr.val (wg rfl rfl rfl) rfl (fun _ _ h1 h2 => zF Qu (h1.ev rfl) (rdb h2 (vs := [(iv p0.X), (iv p0.Y)]) (k := 1) rfl 1) rfl) ?_
   refine Tr.val (wg rfl rfl rfl) rfl (fun _ _ h1 h2 => run_move (h1.ev rfl)) ?_
   obtain ⟨y104, hy104, H⟩ := bnd H
   refine Tr.Qa (r := (.bool y104)) (wg rfl rfl rfl) rfl Tryz.call60 (zI rfl (zI rfl zT)) (fun W hW => Kg p0.Y p1 y104 hy104 (HF.start _)) ?_
   refine Tr.va rfl (fun _ _ h1 h2 => zU (h1.ev rfl) (h1.ev rfl)) ?_
   obtain rfl := Option.some.inj H
   exact Tr.nil (Tr.QI (.cons rfl .nil) (.cons rfl .nil))
 ·show Tr _ _ (LF [(14, (.bool zEB))]) (LE [(1, bx QB #[(iv p0.X), (iv p0.Y)] 52)]) _
  refine Tr.asg rfl rfl (Tr.nil (Tr.zA (Tr.ret ?_)))
  obtain rfl := Option.some.inj H
  exact Tr.out (m := [(.bool zEB)]) [] (zJ rfl zR) (fun W hW => ⟨rfl, hW.low leB⟩)

theorem zC2 (N : Nat) {w : Bs} (p0 : (List zf)) (zG : Option Addr) (zH : Nat) (ze : Sl w.R w.W QM zG zH p0) (p1 : Int) (r : Int) (H : Vm N p0 p1 = some r) (hE : HF w w.W E0) : Calls Tryz.prog 89 [(.slice zG p0.length zH), (iv p1)].toArray w.W fun e W' => e = .returned (iv r) ∧ HF w W' E0 := by
 unfold Vm at H
 have leB := Bs.Le.refl w
 refine Tr.enter (n := 57) Tryz.func89 rfl rfl rfl hE ?_
 refine Tr.sr (Tr.asg rfl rfl (Tr.nil (Tr.zA (Tr.seq (Tr.sr (Tr.asg rfl rfl (Tr.nil (Tr.zA (Tr.block (Tr.loop (σ := Int) (fun m w s => JD N p0 p1 m s = some r) (fun s => [(0, (.slice zG p0.length zH)), (1, (iv p1)), (5, (iv s))]) (fun s => []) N 0 H (.cons rfl (.cons rfl (.cons rfl .nil))) .nil (fun _ _ h => WM (h)) ?_))))))))))
 intro w Qs mL1 x107 hs
 have H := hs
 replace H : JD N p0 p1 (mL1 + 1) x107 = some r := H
 replace ze := ze.leR Qs
 replace leB := leB.trans Qs
 rw [JD.eq_2] at H
 show Tr _ _ (LF [(0, (.slice zG p0.length zH)), (1, (iv p1)), (5, (iv x107))]) (LE []) _
 refine Tr.seq (Tr.sr (Tr.mv rfl rfl (Tr.mv rfl rfl (Tr.va rfl (fun _ _ h1 h2 => QG zCM (h1.ev rfl)) ?_))))
 refine Tr.va rfl (fun _ _ h1 h2 => QV (h1.ev rfl) (h1.ev rfl)) ?_
 refine Tr.nil (Tr.zA (Tr.cond rfl H (fun H => ?_) (fun H => ?_)))
 ·refine Tr.skip (Tr.zA (Tr.seq (Tr.block (Tr.sr (Tr.mv rfl rfl (Tr.mv rfl rfl ?_))))))
  obtain ⟨Wm, zHA, H⟩ := bnd H
  obtain ⟨zEz, zEy, zEx⟩ := zw zHA
  refine Tr.va rfl (fun _ _ h1 h2 => zN zHN (h1.ev rfl) ze.form (h1.ev rfl) zEz zEy) ?_
  refine Tr.va rfl (fun _ _ h1 h2 => zu (cs := [(iv Wm.X), (iv Wm.Y)]) zBo Wx (h1.ev rfl) (za.take (rdF zBJ ze zEx h2) 2) rfl) ?_
  refine Tr.mv rfl rfl ?_
  obtain ⟨zD7, zJz, H⟩ := bnd H
  refine Tr.Qa (r := (.bool zD7)) (wn rfl) rfl Tryz.call88 (zI rfl (zI rfl zT)) (fun W hW => zAs Wm p1 zD7 zJz (HF.start _)) ?_
  refine Tr.va rfl (fun _ _ h1 h2 => Qb (h1.ev rfl)) ?_
  refine Tr.nil (Tr.zA (Tr.cond rfl H (fun H => ?_) (fun H => ?_)))
  ·refine Tr.sr (Tr.asg rfl rfl (Tr.nil (Tr.zA (Tr.ret (Tr.zW (Tr.zM (Tr.zM (Tr.zW (Tr.zM ?_)))))))))
   obtain rfl := Option.some.inj H
   exact Tr.out (m := [(iv 1)]) [] (zJ rfl zR) (fun W hW => ⟨rfl, hW.low leB⟩)
  ·refine Tr.skip (Tr.zi (Tr.zA (Tr.region (Tr.mv rfl rfl (Tr.va rfl (fun _ _ h1 h2 => QS (h1.ev rfl) (h1.ev rfl)) ?_)))))
   exact Tr.asg rfl rfl (Tr.nil (Tr.zb Qs (w64 (x107 + 1)) H (.cons rfl (.cons rfl (.cons rfl .nil))) .nil))
 ·refine Tr.exit (Tr.zx (Tr.zx (Tr.Qd (Tr.zA (Tr.seq (Tr.sr (Tr.mv rfl rfl (Tr.va rfl (fun _ _ h1 h2 => QG zCM (h1.ev rfl)) ?_))))))))
  refine Tr.va rfl (fun _ _ h1 h2 => VR (h1.ev rfl) (h1.ev rfl)) ?_
  refine Tr.nil (Tr.zA (Tr.cond rfl H (fun H => ?_) (fun H => ?_)))
  ·refine Tr.sr (Tr.asg rfl rfl (Tr.nil (Tr.zA (Tr.ret (Tr.zM ?_)))))
   obtain rfl := Option.some.inj H
   exact Tr.out (m := [(iv 2)]) [] (zJ rfl zR) (fun W hW => ⟨rfl, hW.low leB⟩)
  ·refine Tr.skip (Tr.zA (Tr.seq (Tr.sr (Tr.mv rfl rfl (Tr.va rfl (fun _ _ h1 h2 => QG zCM (h1.ev rfl)) ?_)))))
   refine Tr.va rfl (fun _ _ h1 h2 => QV (h1.ev rfl) (h1.ev rfl)) ?_
   refine Tr.nil (Tr.zA (Tr.cond rfl H (fun H => ?_) (fun H => ?_)))
   ·refine Tr.sr (Tr.asg rfl rfl (Tr.nil (Tr.zA (Tr.ret (Tr.zM ?_)))))
    obtain rfl := Option.some.inj H
    exact Tr.out (m := [(iv 3)]) [] (zJ rfl zR) (fun W hW => ⟨rfl, hW.low leB⟩)
   ·refine Tr.skip (Tr.zA (Tr.seq (Tr.sr (Tr.asg rfl rfl (Tr.nil (Tr.zA (Tr.block (Tr.loop (σ := Int) (fun m w s => JC p0 m s = some r) (fun s => [(0, (.slice zG p0.length zH)), (6, (iv s))]) (fun s => []) N 0 H (.cons rfl (.cons rfl .nil)) .nil (fun _ _ h => WM (h)) ?_))))))))
    intro w leL2 mL2 Ww hs
    have H := hs
    replace H : JC p0 (mL2 + 1) Ww = some r := H
    replace ze := ze.leR leL2
    replace leB := leB.trans leL2
    rw [JC.eq_2] at H
    show Tr _ _ (LF [(0, (.slice zG p0.length zH)), (6, (iv Ww))]) (LE []) _
    refine Tr.seq (Tr.sr (Tr.mv rfl rfl (Tr.mv rfl rfl (Tr.va rfl (fun _ _ h1 h2 => QG zCM (h1.ev rfl)) ?_))))
    refine Tr.va rfl (fun _ _ h1 h2 => QV (h1.ev rfl) (h1.ev rfl)) ?_
    refine Tr.nil (Tr.zA (Tr.cond rfl H (fun H => ?_) (fun H => ?_)))
    ·refine Tr.skip (Tr.zA (Tr.seq (Tr.block (Tr.seq (Tr.zGK 15 [] [14] (by kernel_rfl) (by kernel_rfl) fun sz128 hlosz128 hEsz128 => ?_)))))
     refine Dr.quiet 0 [(34, (.slice zG p0.length zH))] (by kernel_rfl) rfl rfl (by kernel_rfl) ?_ rfl rfl ?_
     ·exact Tq.mv rfl rfl (Tq.fin (.cons rfl .nil))
     refine Dr.quiet 1 [(35, (iv Ww))] (by kernel_rfl) rfl rfl (by kernel_rfl) ?_ rfl rfl ?_
     ·exact Tq.mv rfl rfl (Tq.fin (.cons rfl .nil))
     obtain ⟨zEk, hx129, H⟩ := bnd H
     obtain ⟨hx1290, hx1291, hx1292⟩ := zw hx129
     refine Dr.quiet 2 [(36, (.pointer (some ⟨adB zG, adO zG + (Ww).toNat * 2, none⟩)))] (by kernel_rfl) rfl rfl (by kernel_rfl) ?_ rfl rfl ?_
     ·refine Tq.va rfl (fun _ _ h1 h2 => zN zHN (h1.ev rfl) ze.form (h1.ev rfl) hx1290 hx1291) ?_
      exact Tq.fin (.cons rfl .nil)
     refine Dr.quiet 3 [(37, (.agg #[(iv zEk.X), (iv zEk.Y)]))] (by kernel_rfl) rfl rfl (by kernel_rfl) ?_ rfl rfl ?_
     ·refine Tq.va rfl (fun _ _ h1 h2 => zu (cs := [(iv zEk.X), (iv zEk.Y)]) zBo Wx (h1.ev rfl) (za.take (rdF zBJ ze hx1292 h2) 2) rfl) ?_
      exact Tq.fin (.cons rfl .nil)
     refine Dr.JR 4 (by kernel_rfl) rfl (wn rfl) rfl (by kernel_rfl) (fun _ _ h1 => run_move (h1.ev rfl)) rfl ?_
     refine Dr.JR 5 (by kernel_rfl) rfl (wn rfl) rfl (by kernel_rfl) (fun _ _ h1 => run_move (h1.ev rfl)) rfl ?_
     refine Dr.JR 6 (by kernel_rfl) rfl (wn rfl) rfl (by kernel_rfl) (fun _ _ h1 => QS (h1.ev rfl) (h1.ev rfl)) rfl ?_
     refine Dr.JR 7 (by kernel_rfl) rfl (wn rfl) rfl (by kernel_rfl) (fun _ _ h1 => run_move (h1.ev rfl)) rfl ?_
     refine Dr.JR 8 (by kernel_rfl) rfl (wn rfl) rfl (by kernel_rfl) (fun _ _ h1 => QG zCM (h1.ev rfl)) rfl ?_
     obtain ⟨q130, hq130, H⟩ := bnd H
     refine Dr.JR 9 (by kernel_rfl) rfl (wn rfl) rfl (by kernel_rfl) (fun _ _ h1 => run_md (h1.ev rfl) (h1.ev rfl) hq130) rfl ?_
     obtain ⟨VG, hx131, H⟩ := bnd H
     obtain ⟨hx1310, hx1311, hx1312⟩ := zw hx131
     refine Dr.JR 10 (by kernel_rfl) rfl (wn rfl) rfl (by kernel_rfl) (fun _ _ h1 => zN zHN (h1.ev rfl) ze.form (h1.ev rfl) hx1310 hx1311) rfl ?_
     refine Dr.zAN 11 [(45, (.agg #[(iv VG.X), (iv VG.Y)]))] [] true (by kernel_rfl) rfl rfl (by kernel_rfl) (fun W W' h2 hsW hk => HF.zB3 (le := []) (ks := []) (s0 := sz128) true h2 hk (fun _ => hlosz128) .nil (fun b hb => hb.elim (fun ⟨_, hp, _⟩ => nomatch hp) (fun hb => .inr ⟨rfl, hb.2, (fun _ h => nomatch h)⟩)) (fun _ h => nomatch h) rfl) ?_ rfl rfl ?_
     ·refine Tq.va rfl (fun _ _ h1 h2 => zu (cs := [(iv VG.X), (iv VG.Y)]) zBo Wx (h1.ev rfl) (za.take (rdF zBJ ze hx1312 h2) 2) rfl) ?_
      exact Tq.fin (.cons rfl .nil)
     refine Dr.cut (U := Nat × Nat) [12, 13] 1 (fun u => sz128 ≤ u.1 ∧ sz128 ≤ u.2) (fun u => [(0, (.slice zG p0.length zH)), (6, (iv Ww)), (7, (.pointer (some ⟨u.1, 0, none⟩))), (8, (.pointer (some ⟨u.2, 0, none⟩))), (28, (iv Ww)), (29, (.slice zG p0.length zH)), (30, (iv (p0.length : Int))), (31, (.bool (decide (Ww < (p0.length : Int))))), (34, (.slice zG p0.length zH)), (35, (iv Ww)), (36, (.pointer (some ⟨adB zG, adO zG + (Ww).toNat * 2, none⟩))), (37, (.agg #[(iv zEk.X), (iv zEk.Y)])), (38, (.slice zG p0.length zH)), (39, (iv Ww)), (40, (iv (w64 (Ww + 1)))), (41, (.slice zG p0.length zH)), (42, (iv (p0.length : Int))), (43, (iv q130)), (44, (.pointer (some ⟨adB zG, adO zG + (q130).toNat * 2, none⟩))), (45, (.agg #[(iv VG.X), (iv VG.Y)]))]) (fun u => [(5, bx u.1 #[(iv 0), (iv 0)] 52), (6, bx u.2 #[(iv 0), (iv 0)] 52)]) ?_ ?_
     ·intro hC
      refine Dr.pair 12 13 (by kernel_rfl) ?_ ?_
      ·refine St.alloc 12 5 rfl (wn rfl) rfl zJQ fun b132 hb132 => ?_
       refine Dr.one 13 (by kernel_rfl) ?_
       refine St.alloc 13 6 rfl (wn rfl) rfl zJQ fun b133 hb133 => ?_
       exact (hC ⟨b132, b133⟩ ⟨hb132, hb133⟩).use (by kernel_rfl) (.cons rfl (.cons rfl (.cons rfl (.cons rfl (.cons rfl (.cons rfl (.cons rfl (.cons rfl (.cons rfl (.cons rfl (.cons rfl (.cons rfl (.cons rfl (.cons rfl (.cons rfl (.cons rfl (.cons rfl (.cons rfl (.cons rfl (.cons rfl .nil)))))))))))))))))))) (.cons rfl (.cons rfl .nil))
      ·refine St.alloc 13 6 rfl (wn rfl) rfl zJQ fun b133 hb133 => ?_
       refine Dr.one 12 (by kernel_rfl) ?_
       refine St.alloc 12 5 rfl (wn rfl) rfl zJQ fun b132 hb132 => ?_
       exact (hC ⟨b132, b133⟩ ⟨hb132, hb133⟩).use (by kernel_rfl) (.cons rfl (.cons rfl (.cons rfl (.cons rfl (.cons rfl (.cons rfl (.cons rfl (.cons rfl (.cons rfl (.cons rfl (.cons rfl (.cons rfl (.cons rfl (.cons rfl (.cons rfl (.cons rfl (.cons rfl (.cons rfl (.cons rfl (.cons rfl .nil)))))))))))))))))))) (.cons rfl (.cons rfl .nil))
     intro u hu
     obtain ⟨b132, b133⟩ := u
     obtain ⟨hb132, hb133⟩ := hu
     replace hb132 : sz128 ≤ b132 := hb132
     show Dr _ _ _ _ _ _ _ _ _ (LF [(0, (.slice zG p0.length zH)), (6, (iv Ww)), (7, (.pointer (some ⟨b132, 0, none⟩))), (8, (.pointer (some ⟨b133, 0, none⟩))), (28, (iv Ww)), (29, (.slice zG p0.length zH)), (30, (iv (p0.length : Int))), (31, (.bool (decide (Ww < (p0.length : Int))))), (34, (.slice zG p0.length zH)), (35, (iv Ww)), (36, (.pointer (some ⟨adB zG, adO zG + (Ww).toNat * 2, none⟩))), (37, (.agg #[(iv zEk.X), (iv zEk.Y)])), (38, (.slice zG p0.length zH)), (39, (iv Ww)), (40, (iv (w64 (Ww + 1)))), (41, (.slice zG p0.length zH)), (42, (iv (p0.length : Int))), (43, (iv q130)), (44, (.pointer (some ⟨adB zG, adO zG + (q130).toNat * 2, none⟩))), (45, (.agg #[(iv VG.X), (iv VG.Y)]))]) (LE [(5, bx b132 #[(iv 0), (iv 0)] 52), (6, bx b133 #[(iv 0), (iv 0)] 52)])
     refine Dr.one 14 (by kernel_rfl) ?_
     refine St.store 14 5 (cs := [(iv zEk.X), (iv zEk.Y)]) [(iv zEk.X), (iv zEk.Y)] rfl (wn rfl) (.inr ⟨by simp, hb132⟩) rfl rfl rfl rfl Wx rfl rfl rfl ?_
     refine Dr.tail (by kernel_rfl) ?_
     refine Tr.store 6 (cs := [(iv VG.X), (iv VG.Y)]) [(iv VG.X), (iv VG.Y)] (wn rfl) rfl rfl rfl rfl Wx rfl rfl rfl ?_
     refine Tr.nil (Tr.zA (Tr.sr (Tr.va rfl (fun _ _ h1 h2 => zB zE4 (h1.ev rfl)) ?_)))
     refine Tr.va rfl (fun _ _ h1 h2 => zF Qu (h1.ev rfl) (rdb h2 (vs := [(iv zEk.X), (iv zEk.Y)]) (k := 5) rfl 0) rfl) ?_
     refine Tr.va rfl (fun _ _ h1 h2 => zB zE4 (h1.ev rfl)) ?_
     refine Tr.va rfl (fun _ _ h1 h2 => zF Qu (h1.ev rfl) (rdb h2 (vs := [(iv VG.X), (iv VG.Y)]) (k := 6) rfl 0) rfl) ?_
     refine Tr.va rfl (fun _ _ h1 h2 => QY (h1.ev rfl) (h1.ev rfl)) ?_
     refine Tr.va rfl (fun _ _ h1 h2 => zB zE3 (h1.ev rfl)) ?_
     refine Tr.va rfl (fun _ _ h1 h2 => zF Qu (h1.ev rfl) (rdb h2 (vs := [(iv zEk.X), (iv zEk.Y)]) (k := 5) rfl 1) rfl) ?_
     refine Tr.va rfl (fun _ _ h1 h2 => zB zE3 (h1.ev rfl)) ?_
     refine Tr.va rfl (fun _ _ h1 h2 => zF Qu (h1.ev rfl) (rdb h2 (vs := [(iv VG.X), (iv VG.Y)]) (k := 6) rfl 1) rfl) ?_
     refine Tr.va rfl (fun _ _ h1 h2 => QY (h1.ev rfl) (h1.ev rfl)) ?_
     refine Tr.va rfl (fun _ _ h1 h2 => run_eqlB un_4 (h1.ev rfl) (h1.ev rfl)) ?_
     refine Tr.nil (Tr.zA (Tr.cond rfl H (fun H => ?_) (fun H => ?_)))
     ·refine Tr.sr (Tr.asg rfl rfl (Tr.nil (Tr.zA (Tr.ret (Tr.zW (Tr.zM (Tr.zM (Tr.zW (Tr.zM ?_)))))))))
      obtain rfl := Option.some.inj H
      exact Tr.out (m := [(iv 3)]) [] (zJ rfl zR) (fun W hW => ⟨rfl, hW.low leB⟩)
     ·refine Tr.skip (Tr.zi (Tr.zA (Tr.region (Tr.mv rfl rfl (Tr.va rfl (fun _ _ h1 h2 => QS (h1.ev rfl) (h1.ev rfl)) ?_)))))
      exact Tr.asg rfl rfl (Tr.nil (Tr.zb leL2 (w64 (Ww + 1)) H (.cons rfl (.cons rfl .nil)) .nil))
    ·refine Tr.exit (Tr.zx (Tr.zx (Tr.Qd (Tr.zA (Tr.sr (Tr.asg rfl rfl (Tr.nil (Tr.zA (Tr.ret ?_)))))))))
     obtain rfl := Option.some.inj H
     exact Tr.out (m := [(iv 0)]) [] (zJ rfl zR) (fun W hW => ⟨rfl, hW.low leB⟩)

theorem zC1 (N : Nat) {w : Bs} (p0 : QN) (zG : Option Addr) (zH : Nat) (ze : Sl w.R w.W zQ zG zH p0.Tools) (zL : Option Addr) (zK : Nat) (KE : Sl w.R w.W zC zL zK p0.Steps) (p1 : zD) (zX : Option Addr) (zY : Nat) (Qv : Sl w.R w.W QM zX zY p1.Points) (QL : Option Addr) (QJ : Nat) (zHB : Sl w.R w.W zC QL QJ p1.Steps) (p2 : Int) (r : Int) (H : VE N p0 p1 p2 = some r) (hE : HF w w.W E0) : Calls Tryz.prog 61 [(.agg #[(iv p0.Unit), (.slice zG p0.Tools.length zH), (.slice zL p0.Steps.length zK)]), (.agg #[(iv p1.Kind), (sv p1.Name), (iv p1.At.X), (iv p1.At.Y), (.slice zX p1.Points.length zY), (iv p1.NX), (iv p1.NY), (.slice QL p1.Steps.length QJ)]), (iv p2)].toArray w.W fun e W' => e = .returned (iv r) ∧ HF w W' E0 := by
 unfold VE at H
 have leB := Bs.Le.refl w
 refine Tr.enter (n := 57) Tryz.func61 rfl rfl rfl hE ?_
 refine Tr.sr (Tr.box 1 (cs := [(iv p0.Unit), (.slice zG p0.Tools.length zH), (.slice zL p0.Steps.length zK)]) (wn rfl) rfl rfl rfl fun QB => ?_)
 refine Tr.box 2 (cs := [(iv p1.Kind), (sv p1.Name), (iv p1.At.X), (iv p1.At.Y), (.slice zX p1.Points.length zY), (iv p1.NX), (iv p1.NY), (.slice QL p1.Steps.length QJ)]) (wn rfl) rfl rfl rfl fun JS => ?_
 refine Tr.asg rfl rfl (Tr.nil (Tr.zA (Tr.seq (Tr.sr (Tr.va rfl (fun _ _ h1 h2 => zB zBd (h1.ev rfl)) ?_)))))
 refine Tr.va rfl (fun _ _ h1 h2 => zF Qu (h1.ev rfl) (rdb h2 (vs := [(iv p1.Kind), (sv p1.Name), (iv p1.At.X), (iv p1.At.Y), (.slice zX p1.Points.length zY), (iv p1.NX), (iv p1.NY), (.slice QL p1.Steps.length QJ)]) (k := 2) rfl 0) rfl) ?_
 obtain ⟨y102, hy102, H⟩ := bnd H
 refine Tr.Qa (r := (.bool y102)) (wn rfl) rfl Tryz.call42 (zI rfl (zI rfl (zI rfl zT))) (fun W hW => Jf p1.Kind 1 8 y102 hy102 (HF.start _)) ?_
 refine Tr.va rfl (fun _ _ h1 h2 => Qb (h1.ev rfl)) ?_
 refine Tr.nil (Tr.zA (Tr.cond rfl H (fun H => ?_) (fun H => ?_)))
 ·refine Tr.sr (Tr.asg rfl rfl (Tr.nil (Tr.zA (Tr.ret (Tr.zM ?_)))))
  obtain rfl := Option.some.inj H
  exact Tr.out (m := [(iv 4)]) [] (zJ rfl zR) (fun W hW => ⟨rfl, hW.low leB⟩)
 ·refine Tr.skip (Tr.zA (Tr.seq (Tr.sr (Tr.va rfl (fun _ _ h1 h2 => zu (cs := [(iv p1.Kind), (sv p1.Name), (iv p1.At.X), (iv p1.At.Y), (.slice zX p1.Points.length zY), (iv p1.NX), (iv p1.NY), (.slice QL p1.Steps.length QJ)]) zDA Wo (h1.ev rfl) (za.take (rdb h2 (vs := [(iv p1.Kind), (sv p1.Name), (iv p1.At.X), (iv p1.At.Y), (.slice zX p1.Points.length zY), (iv p1.NX), (iv p1.NY), (.slice QL p1.Steps.length QJ)]) (k := 2) rfl 0) 8) rfl) ?_))))
  obtain ⟨zk, zEN, H⟩ := bnd H
  refine Tr.Qa (r := (.bool zk)) (wn rfl) rfl Tryz.call86 (zI rfl zT) (fun W hW => zDk p1 zX zY (Qv.ext hW.Qc) QL QJ (zHB.ext hW.Qc) zk zEN (HF.start _)) ?_
  refine Tr.va rfl (fun _ _ h1 h2 => Qb (h1.ev rfl)) ?_
  refine Tr.nil (Tr.zA (Tr.cond rfl H (fun H => ?_) (fun H => ?_)))
  ·refine Tr.sr (Tr.asg rfl rfl (Tr.nil (Tr.zA (Tr.ret (Tr.zM ?_)))))
   obtain rfl := Option.some.inj H
   exact Tr.out (m := [(iv 3)]) [] (zJ rfl zR) (fun W hW => ⟨rfl, hW.low leB⟩)
  ·refine Tr.skip (Tr.zA (Tr.seq (Tr.sr (Tr.va rfl (fun _ _ h1 h2 => zB zBd (h1.ev rfl)) ?_))))
   refine Tr.va rfl (fun _ _ h1 h2 => zF Qu (h1.ev rfl) (rdb h2 (vs := [(iv p1.Kind), (sv p1.Name), (iv p1.At.X), (iv p1.At.Y), (.slice zX p1.Points.length zY), (iv p1.NX), (iv p1.NY), (.slice QL p1.Steps.length QJ)]) (k := 2) rfl 0) rfl) ?_
   refine Tr.va rfl (fun _ _ h1 h2 => QY (h1.ev rfl) (h1.ev rfl)) ?_
   refine Tr.mv rfl rfl ?_
   obtain ⟨zIG, zBn, H⟩ := bnd H
   refine Tr.Jl 6 [(2, (iv p2)), (3, (.pointer (some ⟨QB, 0, none⟩))), (4, (.pointer (some ⟨JS, 0, none⟩))), (23, (.bool zIG))] [(1, bx QB #[(iv p0.Unit), (.slice zG p0.Tools.length zH), (.slice zL p0.Steps.length zK)] 25), (2, bx JS #[(iv p1.Kind), (sv p1.Name), (iv p1.At.X), (iv p1.At.Y), (.slice zX p1.Points.length zY), (iv p1.NX), (iv p1.NY), (.slice QL p1.Steps.length QJ)] 80)] ?_ ?_
   ·cases zFO : (p1.Kind == 3)
    ·rw [zFO] at zBn
     rw [if_neg (by decide)] at zBn
     have H := zBn
     obtain rfl := Option.some.inj H
     refine Tr.pass rfl rfl rfl rfl rfl (by decide) ?_
     refine Tr.pass rfl rfl rfl rfl rfl (by decide) ?_
     refine Tr.pass rfl rfl rfl rfl rfl (by decide) ?_
     refine Tr.pass rfl rfl rfl rfl rfl (by decide) ?_
     refine Tr.pass rfl rfl rfl rfl rfl (by decide) ?_
     refine Tr.va rfl (fun _ _ h1 h2 => zV (h1.ev rfl) (h1.ev rfl)) ?_
     exact Tr.nil (Tr.QI (.cons rfl (.cons rfl (.cons rfl (.cons rfl .nil)))) (.cons rfl (.cons rfl .nil)))
    ·rw [zFO] at zBn
     rw [if_pos rfl] at zBn
     have H := zBn
     refine Tr.val (wg rfl rfl rfl) rfl (fun _ _ h1 h2 => zu (cs := [(iv p0.Unit), (.slice zG p0.Tools.length zH), (.slice zL p0.Steps.length zK)]) WY Kb (h1.ev rfl) (za.take (rdb h2 (vs := [(iv p0.Unit), (.slice zG p0.Tools.length zH), (.slice zL p0.Steps.length zK)]) (k := 1) rfl 0) 3) rfl) ?_
     refine Tr.val (wg rfl rfl rfl) rfl (fun _ _ h1 h2 => zB zE1 (h1.ev rfl)) ?_
     refine Tr.val (wg rfl rfl rfl) rfl (fun _ _ h1 h2 => zF zAR (h1.ev rfl) (rdb h2 (vs := [(iv p1.Kind), (sv p1.Name), (iv p1.At.X), (iv p1.At.Y), (.slice zX p1.Points.length zY), (iv p1.NX), (iv p1.NY), (.slice QL p1.Steps.length QJ)]) (k := 2) rfl 1) rfl) ?_
     obtain ⟨WP, zJ0, H⟩ := bnd H
     refine Tr.Qa (r := (iv WP)) (wg rfl rfl rfl) rfl Tryz.call87 (zI rfl (zI rfl zT)) (fun W hW => zEb N p0 zG zH (ze.ext hW.Qc) zL zK (KE.ext hW.Qc) p1.Name WP zJ0 (HF.start _)) ?_
     refine Tr.val (wg rfl rfl rfl) rfl (fun _ _ h1 h2 => QV (h1.ev rfl) (h1.ev rfl)) ?_
     refine Tr.va rfl (fun _ _ h1 h2 => zU (h1.ev rfl) (h1.ev rfl)) ?_
     obtain rfl := Option.some.inj H
     exact Tr.nil (Tr.QI (.cons rfl (.cons rfl (.cons rfl (.cons rfl .nil)))) (.cons rfl (.cons rfl .nil)))
   ·show Tr _ _ (LF [(2, (iv p2)), (3, (.pointer (some ⟨QB, 0, none⟩))), (4, (.pointer (some ⟨JS, 0, none⟩))), (23, (.bool zIG))]) (LE [(1, bx QB #[(iv p0.Unit), (.slice zG p0.Tools.length zH), (.slice zL p0.Steps.length zK)] 25), (2, bx JS #[(iv p1.Kind), (sv p1.Name), (iv p1.At.X), (iv p1.At.Y), (.slice zX p1.Points.length zY), (iv p1.NX), (iv p1.NY), (.slice QL p1.Steps.length QJ)] 80)]) _
    refine Tr.nil (Tr.zA (Tr.cond rfl H (fun H => ?_) (fun H => ?_)))
    ·refine Tr.sr (Tr.asg rfl rfl (Tr.nil (Tr.zA (Tr.ret (Tr.zM ?_)))))
     obtain rfl := Option.some.inj H
     exact Tr.out (m := [(iv 5)]) [] (zJ rfl zR) (fun W hW => ⟨rfl, hW.low leB⟩)
    ·refine Tr.skip (Tr.zA (Tr.seq (Tr.sr (Tr.va rfl (fun _ _ h1 h2 => zB zBH (h1.ev rfl)) ?_))))
     refine Tr.va rfl (fun _ _ h1 h2 => zu (cs := [(iv p1.At.X), (iv p1.At.Y)]) zBo Wx (h1.ev rfl) (za.take (rdb h2 (vs := [(iv p1.Kind), (sv p1.Name), (iv p1.At.X), (iv p1.At.Y), (.slice zX p1.Points.length zY), (iv p1.NX), (iv p1.NY), (.slice QL p1.Steps.length QJ)]) (k := 2) rfl 2) 2) rfl) ?_
     refine Tr.va rfl (fun _ _ h1 h2 => zB zBe (h1.ev rfl)) ?_
     refine Tr.va rfl (fun _ _ h1 h2 => zF Qu (h1.ev rfl) (rdb h2 (vs := [(iv p0.Unit), (.slice zG p0.Tools.length zH), (.slice zL p0.Steps.length zK)]) (k := 1) rfl 0) rfl) ?_
     obtain ⟨zGB, hy107, H⟩ := bnd H
     refine Tr.Qa (r := (.bool zGB)) (wn rfl) rfl Tryz.call88 (zI rfl (zI rfl zT)) (fun W hW => zAs p1.At p0.Unit zGB hy107 (HF.start _)) ?_
     refine Tr.va rfl (fun _ _ h1 h2 => Qb (h1.ev rfl)) ?_
     refine Tr.nil (Tr.zA (Tr.cond rfl H (fun H => ?_) (fun H => ?_)))
     ·refine Tr.sr (Tr.asg rfl rfl (Tr.nil (Tr.zA (Tr.ret (Tr.zM ?_)))))
      obtain rfl := Option.some.inj H
      exact Tr.out (m := [(iv 1)]) [] (zJ rfl zR) (fun W hW => ⟨rfl, hW.low leB⟩)
     ·refine Tr.skip (Tr.zA (Tr.seq (Tr.sr (Tr.va rfl (fun _ _ h1 h2 => zB zBd (h1.ev rfl)) ?_))))
      refine Tr.va rfl (fun _ _ h1 h2 => zF Qu (h1.ev rfl) (rdb h2 (vs := [(iv p1.Kind), (sv p1.Name), (iv p1.At.X), (iv p1.At.Y), (.slice zX p1.Points.length zY), (iv p1.NX), (iv p1.NY), (.slice QL p1.Steps.length QJ)]) (k := 2) rfl 0) rfl) ?_
      refine Tr.va rfl (fun _ _ h1 h2 => QY (h1.ev rfl) (h1.ev rfl)) ?_
      refine Tr.nil (Tr.zA (Tr.cond rfl H (fun H => ?_) (fun H => ?_)))
      ·refine Tr.sr (Tr.va rfl (fun _ _ h1 h2 => zB zBG (h1.ev rfl)) ?_)
       refine Tr.va rfl (fun _ _ h1 h2 => zF zFs (h1.ev rfl) (rdb h2 (vs := [(iv p1.Kind), (sv p1.Name), (iv p1.At.X), (iv p1.At.Y), (.slice zX p1.Points.length zY), (iv p1.NX), (iv p1.NY), (.slice QL p1.Steps.length QJ)]) (k := 2) rfl 4) rfl) ?_
       refine Tr.va rfl (fun _ _ h1 h2 => zB zBe (h1.ev rfl)) ?_
       refine Tr.va rfl (fun _ _ h1 h2 => zF Qu (h1.ev rfl) (rdb h2 (vs := [(iv p0.Unit), (.slice zG p0.Tools.length zH), (.slice zL p0.Steps.length zK)]) (k := 1) rfl 0) rfl) ?_
       obtain ⟨zCy, hy108, H⟩ := bnd H
       refine Tr.Qa (r := (iv zCy)) (wn rfl) rfl Tryz.call89 (zI rfl (zI rfl zT)) (fun W hW => zC2 N p1.Points zX zY (Qv.ext hW.Qc) p0.Unit zCy hy108 (HF.start _)) ?_
       refine Tr.asg rfl rfl (Tr.nil (Tr.zA (Tr.ret (Tr.zM ?_))))
       obtain rfl := Option.some.inj H
       exact Tr.out (m := [(iv zCy)]) [] (zJ rfl zR) (fun W hW => ⟨rfl, hW.low leB⟩)
      ·refine Tr.skip (Tr.zA ?_)
       have leJ113 := Bs.Le.refl w
       refine Tr.zFq (σ := Unit) (fun w _ => Ju = some r) (fun _ => []) (fun _ => []) ?_ ?_
       ·refine Tr.sr (Tr.va rfl (fun _ _ h1 h2 => zB zBd (h1.ev rfl)) ?_)
        refine Tr.va rfl (fun _ _ h1 h2 => zF Qu (h1.ev rfl) (rdb h2 (vs := [(iv p1.Kind), (sv p1.Name), (iv p1.At.X), (iv p1.At.Y), (.slice zX p1.Points.length zY), (iv p1.NX), (iv p1.NY), (.slice QL p1.Steps.length QJ)]) (k := 2) rfl 0) rfl) ?_
        refine Tr.va rfl (fun _ _ h1 h2 => QY (h1.ev rfl) (h1.ev rfl)) ?_
        refine Tr.nil (Tr.zA (Tr.cond rfl H (fun H => ?_) (fun H => ?_)))
        ·refine Tr.seq (Tr.sr (Tr.va rfl (fun _ _ h1 h2 => zB zB7 (h1.ev rfl)) ?_))
         refine Tr.va rfl (fun _ _ h1 h2 => zF Qu (h1.ev rfl) (rdb h2 (vs := [(iv p1.Kind), (sv p1.Name), (iv p1.At.X), (iv p1.At.Y), (.slice zX p1.Points.length zY), (iv p1.NX), (iv p1.NY), (.slice QL p1.Steps.length QJ)]) (k := 2) rfl 5) rfl) ?_
         obtain ⟨y115, hy115, H⟩ := bnd H
         refine Tr.Qa (r := (.bool y115)) (wn rfl) rfl Tryz.call42 (zI rfl (zI rfl (zI rfl zT))) (fun W hW => Jf p1.NX 1 100 y115 hy115 (HF.start _)) ?_
         refine Tr.va rfl (fun _ _ h1 h2 => Qb (h1.ev rfl)) ?_
         refine Tr.mv rfl rfl ?_
         obtain ⟨g117, hg117, H⟩ := bnd H
         refine Tr.Jl 5 [(2, (iv p2)), (4, (.pointer (some ⟨JS, 0, none⟩))), (50, (.bool g117))] [(1, bx QB #[(iv p0.Unit), (.slice zG p0.Tools.length zH), (.slice zL p0.Steps.length zK)] 25), (2, bx JS #[(iv p1.Kind), (sv p1.Name), (iv p1.At.X), (iv p1.At.Y), (.slice zX p1.Points.length zY), (iv p1.NX), (iv p1.NY), (.slice QL p1.Steps.length QJ)] 80)] ?_ ?_
         ·cases zFO : (!y115)
          ·rw [zFO] at hg117
           rw [if_neg (by decide)] at hg117
           have H := hg117
           refine Tr.val (wg rfl rfl rfl) rfl (fun _ _ h1 h2 => zB zB6 (h1.ev rfl)) ?_
           refine Tr.val (wg rfl rfl rfl) rfl (fun _ _ h1 h2 => zF Qu (h1.ev rfl) (rdb h2 (vs := [(iv p1.Kind), (sv p1.Name), (iv p1.At.X), (iv p1.At.Y), (.slice zX p1.Points.length zY), (iv p1.NX), (iv p1.NY), (.slice QL p1.Steps.length QJ)]) (k := 2) rfl 6) rfl) ?_
           obtain ⟨y118, hy118, H⟩ := bnd H
           refine Tr.Qa (r := (.bool y118)) (wg rfl rfl rfl) rfl Tryz.call42 (zI rfl (zI rfl (zI rfl zT))) (fun W hW => Jf p1.NY 1 100 y118 hy118 (HF.start _)) ?_
           refine Tr.val (wg rfl rfl rfl) rfl (fun _ _ h1 h2 => Qb (h1.ev rfl)) ?_
           refine Tr.va rfl (fun _ _ h1 h2 => zV (h1.ev rfl) (h1.ev rfl)) ?_
           obtain rfl := Option.some.inj H
           exact Tr.nil (Tr.QI (.cons rfl (.cons rfl (.cons rfl .nil))) (.cons rfl (.cons rfl .nil)))
          ·rw [zFO] at hg117
           rw [if_pos rfl] at hg117
           have H := hg117
           obtain rfl := Option.some.inj H
           refine Tr.pass rfl rfl rfl rfl rfl (by decide) ?_
           refine Tr.pass rfl rfl rfl rfl rfl (by decide) ?_
           refine Tr.pass rfl rfl rfl rfl rfl (by decide) ?_
           refine Tr.pass rfl rfl rfl rfl rfl (by decide) ?_
           refine Tr.va rfl (fun _ _ h1 h2 => zU (h1.ev rfl) (h1.ev rfl)) ?_
           exact Tr.nil (Tr.QI (.cons rfl (.cons rfl (.cons rfl .nil))) (.cons rfl (.cons rfl .nil)))
         ·show Tr _ _ (LF [(2, (iv p2)), (4, (.pointer (some ⟨JS, 0, none⟩))), (50, (.bool g117))]) (LE [(1, bx QB #[(iv p0.Unit), (.slice zG p0.Tools.length zH), (.slice zL p0.Steps.length zK)] 25), (2, bx JS #[(iv p1.Kind), (sv p1.Name), (iv p1.At.X), (iv p1.At.Y), (.slice zX p1.Points.length zY), (iv p1.NX), (iv p1.NY), (.slice QL p1.Steps.length QJ)] 80)]) _
          refine Tr.nil (Tr.zA (Tr.cond rfl H (fun H => ?_) (fun H => ?_)))
          ·refine Tr.sr (Tr.asg rfl rfl (Tr.nil (Tr.zA (Tr.ret (Tr.zM (Tr.zM ?_))))))
           obtain rfl := Option.some.inj H
           exact Tr.out (m := [(iv 1)]) [] (zJ rfl zR) (fun W hW => ⟨rfl, hW.low leB⟩)
          ·refine Tr.skip (Tr.zA (Tr.seq (Tr.sr (Tr.va rfl (fun _ _ h1 h2 => zB zAB (h1.ev rfl)) ?_))))
           refine Tr.va rfl (fun _ _ h1 h2 => zF zBR (h1.ev rfl) (rdb h2 (vs := [(iv p1.Kind), (sv p1.Name), (iv p1.At.X), (iv p1.At.Y), (.slice zX p1.Points.length zY), (iv p1.NX), (iv p1.NY), (.slice QL p1.Steps.length QJ)]) (k := 2) rfl 7) rfl) ?_
           refine Tr.va rfl (fun _ _ h1 h2 => QG zBx (h1.ev rfl)) ?_
           refine Tr.va rfl (fun _ _ h1 h2 => QY (h1.ev rfl) (h1.ev rfl)) ?_
           refine Tr.nil (Tr.zA (Tr.cond rfl H (fun H => ?_) (fun H => ?_)))
           ·refine Tr.sr (Tr.asg rfl rfl (Tr.nil (Tr.zA (Tr.ret (Tr.zM (Tr.zM ?_))))))
            obtain rfl := Option.some.inj H
            exact Tr.out (m := [(iv 9)]) [] (zJ rfl zR) (fun W hW => ⟨rfl, hW.low leB⟩)
           ·refine Tr.skip (Tr.zA (Tr.sr (Tr.mv rfl rfl (Tr.va rfl (fun _ _ h1 h2 => zAz (h1.ev rfl) (h1.ev rfl)) ?_))))
            refine Tr.nil (Tr.zA (Tr.cond rfl H (fun H => ?_) (fun H => ?_)))
            ·refine Tr.sr (Tr.asg rfl rfl (Tr.nil (Tr.zA (Tr.ret (Tr.zM ?_)))))
             obtain rfl := Option.some.inj H
             exact Tr.out (m := [(iv 2)]) [] (zJ rfl zR) (fun W hW => ⟨rfl, hW.low leB⟩)
            ·exact Tr.skip (Tr.zb leJ113 () H .nil .nil)
        ·exact Tr.skip (Tr.zb leJ113 () H .nil .nil)
       ·intro w _ hlJ114 hs
        have H := hs
        replace H : Ju = some r := H
        replace leB := leB.trans hlJ114
        unfold Ju at H
        show Tr _ _ (LF []) (LE []) _
        refine Tr.sr (Tr.asg rfl rfl (Tr.nil (Tr.zA (Tr.ret ?_))))
        obtain rfl := Option.some.inj H
        exact Tr.out (m := [(iv 0)]) [] (zJ rfl zR) (fun W hW => ⟨rfl, hW.low leB⟩)

theorem zCL (N : Nat) (rec : QN → (List zD) → Int → Option Int) (hrec : ∀ {w : Bs} (p0 : QN) (zG : Option Addr) (zH : Nat) (ze : Sl w.R w.W zQ zG zH p0.Tools) (zL : Option Addr) (zK : Nat) (KE : Sl w.R w.W zC zL zK p0.Steps) (p1 : (List zD)) (zX : Option Addr) (zY : Nat) (Qv : Sl w.R w.W zC zX zY p1) (p2 : Int) (r : Int) (H : rec p0 p1 p2 = some r) (hE : HF w w.W E0), Calls Tryz.prog 46 [(.agg #[(iv p0.Unit), (.slice zG p0.Tools.length zH), (.slice zL p0.Steps.length zK)]), (.slice zX p1.length zY), (iv p2)].toArray w.W fun e W' => e = .returned (iv r) ∧ HF w W' E0) {w : Bs} (p0 : QN) (zG : Option Addr) (zH : Nat) (ze : Sl w.R w.W zQ zG zH p0.Tools) (zL : Option Addr) (zK : Nat) (KE : Sl w.R w.W zC zL zK p0.Steps) (p1 : (List zD)) (zX : Option Addr) (zY : Nat) (Qv : Sl w.R w.W zC zX zY p1) (p2 : Int) (r : Int) (H : WO N rec p0 p1 p2 = some r) (hE : HF w w.W E0) : Calls Tryz.prog 46 [(.agg #[(iv p0.Unit), (.slice zG p0.Tools.length zH), (.slice zL p0.Steps.length zK)]), (.slice zX p1.length zY), (iv p2)].toArray w.W fun e W' => e = .returned (iv r) ∧ HF w W' E0 := by
 unfold WO at H
 have leB := Bs.Le.refl w
 refine Tr.enter (n := 38) Tryz.func46 rfl rfl rfl hE ?_
 refine Tr.sr (Tr.box 1 (cs := [(iv p0.Unit), (.slice zG p0.Tools.length zH), (.slice zL p0.Steps.length zK)]) (wn rfl) rfl rfl rfl fun QB => ?_)
 refine Tr.asg rfl rfl (Tr.nil (Tr.zA (Tr.seq (Tr.sr (Tr.asg rfl rfl (Tr.nil (Tr.zA (Tr.block (Tr.loop (σ := Int) (fun m w s => Qx N p0 p1 p2 rec m s = some r) (fun s => [(1, (.slice zX p1.length zY)), (2, (iv p2)), (3, (.pointer (some ⟨QB, 0, none⟩))), (7, (iv s))]) (fun s => [(1, bx QB #[(iv p0.Unit), (.slice zG p0.Tools.length zH), (.slice zL p0.Steps.length zK)] 25)]) N 0 H (.cons rfl (.cons rfl (.cons rfl (.cons rfl .nil)))) (.cons rfl .nil) (fun _ _ h => WM (h)) ?_)))))))))
 intro w Qs mL1 VY hs
 have H := hs
 replace H : Qx N p0 p1 p2 rec (mL1 + 1) VY = some r := H
 replace Qv := Qv.leR Qs
 replace ze := ze.leR Qs
 replace KE := KE.leR Qs
 replace leB := leB.trans Qs
 rw [Qx.eq_2] at H
 show Tr _ _ (LF [(1, (.slice zX p1.length zY)), (2, (iv p2)), (3, (.pointer (some ⟨QB, 0, none⟩))), (7, (iv VY))]) (LE [(1, bx QB #[(iv p0.Unit), (.slice zG p0.Tools.length zH), (.slice zL p0.Steps.length zK)] 25)]) _
 refine Tr.seq (Tr.sr (Tr.mv rfl rfl (Tr.mv rfl rfl (Tr.va rfl (fun _ _ h1 h2 => QG zBx (h1.ev rfl)) ?_))))
 refine Tr.va rfl (fun _ _ h1 h2 => QV (h1.ev rfl) (h1.ev rfl)) ?_
 refine Tr.nil (Tr.zA (Tr.cond rfl H (fun H => ?_) (fun H => ?_)))
 ·refine Tr.skip (Tr.zA (Tr.seq (Tr.block (Tr.seq (Tr.seq (Tr.draw (by kernel_rfl) (by kernel_rfl) ?_))))))
  refine Tq.va rfl (fun _ _ h1 h2 => zu (cs := [(iv p0.Unit), (.slice zG p0.Tools.length zH), (.slice zL p0.Steps.length zK)]) WY Kb (h1.ev rfl) (za.take (rdb h2 (vs := [(iv p0.Unit), (.slice zG p0.Tools.length zH), (.slice zL p0.Steps.length zK)]) (k := 1) rfl 0) 3) rfl) ?_
  refine Tq.mv rfl rfl (Tq.mv rfl rfl ?_)
  obtain ⟨zHo, hx117, H⟩ := bnd H
  obtain ⟨hx1170, hx1171, hx1172⟩ := zw hx117
  obtain ⟨u118, hRu118, hoku118, hcu118⟩ := (Qv).el hx1172
  obtain ⟨⟨Au118_0, cu118_0⟩, ⟨Au118_1, cu118_1⟩⟩ := u118
  obtain ⟨zIC, zIB⟩ := Jc.1 hoku118
  replace zIC : Sl w.R w.W QM Au118_0 cu118_0 zHo.Points := zIC
  replace zIB : Sl w.R w.W zC Au118_1 cu118_1 zHo.Steps := zIB
  refine Tq.va rfl (fun _ _ h1 h2 => zN zDt (h1.ev rfl) Qv.form (h1.ev rfl) hx1170 hx1171) ?_
  refine Tq.va rfl (fun _ _ h1 h2 => zu (cs := [(iv zHo.Kind), (sv zHo.Name), (iv zHo.At.X), (iv zHo.At.Y), (.slice Au118_0 zHo.Points.length cu118_0), (iv zHo.NX), (iv zHo.NY), (.slice Au118_1 zHo.Steps.length cu118_1)]) zDA Wo (h1.ev rfl) (za.take (rdR hRu118 hcu118 h2) 8) rfl) ?_
  refine Tq.mv rfl rfl ?_
  obtain ⟨Ja, zJy, H⟩ := bnd H
  refine Tq.Qa (r := (iv Ja)) (wn rfl) rfl Tryz.call61 (zI rfl (zI rfl (zI rfl zT))) (fun W hW => zC1 N p0 zG zH (ze.ext hW.Qc) zL zK (KE.ext hW.Qc) zHo Au118_0 cu118_0 (zIC.ext hW.Qc) Au118_1 cu118_1 (zIB.ext hW.Qc) p2 Ja zJy (HF.start _)) ?_
  refine Tq.asg rfl rfl (Tq.nil (Tr.zA (Tr.sr (Tr.mv rfl rfl (Tr.va rfl (fun _ _ h1 h2 => KV (h1.ev rfl) (h1.ev rfl)) ?_)))))
  refine Tr.nil (Tr.zA (Tr.cond rfl H (fun H => ?_) (fun H => ?_)))
  ·refine Tr.sr (Tr.mv rfl rfl (Tr.asg rfl rfl (Tr.nil (Tr.zA (Tr.ret (Tr.zM (Tr.zW (Tr.zM (Tr.zM (Tr.zW (Tr.zM ?_)))))))))))
   obtain rfl := Option.some.inj H
   exact Tr.out (m := [(iv Ja)]) [] (zJ rfl zR) (fun W hW => ⟨rfl, hW.low leB⟩)
  ·refine Tr.skip (Tr.zA (Tr.seq (Tr.draw (by kernel_rfl) (by kernel_rfl) ?_)))
   refine Tq.va rfl (fun _ _ h1 h2 => zu (cs := [(iv p0.Unit), (.slice zG p0.Tools.length zH), (.slice zL p0.Steps.length zK)]) WY Kb (h1.ev rfl) (za.take (rdb h2 (vs := [(iv p0.Unit), (.slice zG p0.Tools.length zH), (.slice zL p0.Steps.length zK)]) (k := 1) rfl 0) 3) rfl) ?_
   refine Tq.mv rfl rfl (Tq.mv rfl rfl ?_)
   obtain ⟨x120, hx120, H⟩ := bnd H
   obtain ⟨hx1200, hx1201, hx1202⟩ := zw hx120
   obtain ⟨u121, hRu121, hoku121, hcu121⟩ := (Qv).el hx1202
   obtain ⟨⟨Au121_0, cu121_0⟩, ⟨Au121_1, cu121_1⟩⟩ := u121
   obtain ⟨hoku121_0, zIA⟩ := Jc.1 hoku121
   replace zIA : Sl w.R w.W zC Au121_1 cu121_1 x120.Steps := zIA
   refine Tq.va rfl (fun _ _ h1 h2 => zN zDt (h1.ev rfl) Qv.form (h1.ev rfl) hx1200 hx1201) ?_
   refine Tq.va rfl (fun _ _ h1 h2 => zB zAB (h1.ev rfl)) ?_
   refine Tq.va rfl (fun _ _ h1 h2 => zF zBR (h1.ev rfl) (za.drop (rdR hRu121 hcu121 h2) 7) rfl) ?_
   refine Tq.mv rfl rfl (Tq.va rfl (fun _ _ h1 h2 => QS (h1.ev rfl) (h1.ev rfl)) ?_)
   obtain ⟨zJR, hy122, H⟩ := bnd H
   refine Tq.Qa (r := (iv zJR)) (wn rfl) rfl Tryz.call46 (zI rfl (zI rfl (zI rfl zT))) (fun W hW => hrec p0 zG zH (ze.ext hW.Qc) zL zK (KE.ext hW.Qc) x120.Steps Au121_1 cu121_1 (zIA.ext hW.Qc) (w64 (p2 + 1)) zJR hy122 (HF.start _)) ?_
   refine Tq.asg rfl rfl (Tq.nil (Tr.zA (Tr.sr (Tr.mv rfl rfl (Tr.va rfl (fun _ _ h1 h2 => KV (h1.ev rfl) (h1.ev rfl)) ?_)))))
   refine Tr.nil (Tr.zA (Tr.cond rfl H (fun H => ?_) (fun H => ?_)))
   ·refine Tr.sr (Tr.mv rfl rfl (Tr.asg rfl rfl (Tr.nil (Tr.zA (Tr.ret (Tr.zW (Tr.zM (Tr.zM (Tr.zW (Tr.zM ?_))))))))))
    obtain rfl := Option.some.inj H
    exact Tr.out (m := [(iv zJR)]) [] (zJ rfl zR) (fun W hW => ⟨rfl, hW.low leB⟩)
   ·refine Tr.skip (Tr.zi (Tr.zA (Tr.region (Tr.mv rfl rfl (Tr.va rfl (fun _ _ h1 h2 => QS (h1.ev rfl) (h1.ev rfl)) ?_)))))
    exact Tr.asg rfl rfl (Tr.nil (Tr.zb Qs (w64 (VY + 1)) H (.cons rfl (.cons rfl (.cons rfl (.cons rfl .nil)))) (.cons rfl .nil)))
 ·refine Tr.exit (Tr.zx (Tr.zx (Tr.Qd (Tr.zA (Tr.sr (Tr.asg rfl rfl (Tr.nil (Tr.zA (Tr.ret ?_)))))))))
  obtain rfl := Option.some.inj H
  exact Tr.out (m := [(iv 0)]) [] (zJ rfl zR) (fun W hW => ⟨rfl, hW.low leB⟩)
theorem zAd : ∀ (N : Nat) {w : Bs} (p0 : QN) (zG : Option Addr) (zH : Nat) (ze : Sl w.R w.W zQ zG zH p0.Tools) (zL : Option Addr) (zK : Nat) (KE : Sl w.R w.W zC zL zK p0.Steps) (p1 : (List zD)) (zX : Option Addr) (zY : Nat) (Qv : Sl w.R w.W zC zX zY p1) (p2 : Int) (r : Int) (H : Jk N p0 p1 p2 = some r) (hE : HF w w.W E0), Calls Tryz.prog 46 [(.agg #[(iv p0.Unit), (.slice zG p0.Tools.length zH), (.slice zL p0.Steps.length zK)]), (.slice zX p1.length zY), (iv p2)].toArray w.W fun e W' => e = .returned (iv r) ∧ HF w W' E0
 | 0 => by intros; rename_i H _; cases H
 | N + 1 => zCL N (Jk N) (zAd N)

theorem zC3 (N : Nat) {w : Bs} (p0 : QN) (zG : Option Addr) (zH : Nat) (ze : Sl w.R w.W zQ zG zH p0.Tools) (zL : Option Addr) (zK : Nat) (KE : Sl w.R w.W zC zL zK p0.Steps) (r : Int) (H : JK N p0 = some r) (hE : HF w w.W E0) : Calls Tryz.prog 24 [(.agg #[(iv p0.Unit), (.slice zG p0.Tools.length zH), (.slice zL p0.Steps.length zK)])].toArray w.W fun e W' => e = .returned (iv r) ∧ HF w W' E0 := by
 unfold JK at H
 have leB := Bs.Le.refl w
 refine Tr.enter (n := 60) Tryz.func24 rfl rfl rfl hE ?_
 refine Tr.sr (Tr.box 1 (cs := [(iv p0.Unit), (.slice zG p0.Tools.length zH), (.slice zL p0.Steps.length zK)]) (wn rfl) rfl rfl rfl fun QB => ?_)
 refine Tr.asg rfl rfl (Tr.nil (Tr.zA (Tr.seq (Tr.sr (Tr.va rfl (fun _ _ h1 h2 => zB zBe (h1.ev rfl)) ?_)))))
 refine Tr.va rfl (fun _ _ h1 h2 => zF Qu (h1.ev rfl) (rdb h2 (vs := [(iv p0.Unit), (.slice zG p0.Tools.length zH), (.slice zL p0.Steps.length zK)]) (k := 1) rfl 0) rfl) ?_
 obtain ⟨y101, hy101, H⟩ := bnd H
 refine Tr.Qa (r := (.bool y101)) (wn rfl) rfl Tryz.call42 (zI rfl (zI rfl (zI rfl zT))) (fun W hW => Jf p0.Unit 1 1000 y101 hy101 (HF.start _)) ?_
 refine Tr.va rfl (fun _ _ h1 h2 => Qb (h1.ev rfl)) ?_
 refine Tr.nil (Tr.zA (Tr.cond rfl H (fun H => ?_) (fun H => ?_)))
 ·refine Tr.sr (Tr.asg rfl rfl (Tr.nil (Tr.zA (Tr.ret (Tr.zM ?_)))))
  obtain rfl := Option.some.inj H
  exact Tr.out (m := [(iv 1)]) [] (zJ rfl zR) (fun W hW => ⟨rfl, hW.low leB⟩)
 ·refine Tr.skip (Tr.zA (Tr.seq (Tr.sr (Tr.va rfl (fun _ _ h1 h2 => zB Vl (h1.ev rfl)) ?_))))
  refine Tr.va rfl (fun _ _ h1 h2 => zF zBp (h1.ev rfl) (rdb h2 (vs := [(iv p0.Unit), (.slice zG p0.Tools.length zH), (.slice zL p0.Steps.length zK)]) (k := 1) rfl 1) rfl) ?_
  refine Tr.va rfl (fun _ _ h1 h2 => QG zFJ (h1.ev rfl)) ?_
  refine Tr.va rfl (fun _ _ h1 h2 => VR (h1.ev rfl) (h1.ev rfl)) ?_
  refine Tr.nil (Tr.zA (Tr.cond rfl H (fun H => ?_) (fun H => ?_)))
  ·refine Tr.sr (Tr.asg rfl rfl (Tr.nil (Tr.zA (Tr.ret (Tr.zM ?_)))))
   obtain rfl := Option.some.inj H
   exact Tr.out (m := [(iv 2)]) [] (zJ rfl zR) (fun W hW => ⟨rfl, hW.low leB⟩)
  ·refine Tr.skip (Tr.zA (Tr.seq (Tr.sr (Tr.asg rfl rfl (Tr.nil (Tr.zA (Tr.block (Tr.loop (σ := Int) (fun m w s => Qo N p0 m s = some r) (fun s => [(1, (.pointer (some ⟨QB, 0, none⟩))), (3, (iv s))]) (fun s => [(1, bx QB #[(iv p0.Unit), (.slice zG p0.Tools.length zH), (.slice zL p0.Steps.length zK)] 25)]) N 0 H (.cons rfl (.cons rfl .nil)) (.cons rfl .nil) (fun _ _ h => WM (h)) ?_))))))))
   intro w Qs mL1 zGV hs
   have H := hs
   replace H : Qo N p0 (mL1 + 1) zGV = some r := H
   replace ze := ze.leR Qs
   replace KE := KE.leR Qs
   replace leB := leB.trans Qs
   rw [Qo.eq_2] at H
   show Tr _ _ (LF [(1, (.pointer (some ⟨QB, 0, none⟩))), (3, (iv zGV))]) (LE [(1, bx QB #[(iv p0.Unit), (.slice zG p0.Tools.length zH), (.slice zL p0.Steps.length zK)] 25)]) _
   refine Tr.seq (Tr.sr (Tr.mv rfl rfl (Tr.va rfl (fun _ _ h1 h2 => zB Vl (h1.ev rfl)) ?_)))
   refine Tr.va rfl (fun _ _ h1 h2 => zF zBp (h1.ev rfl) (rdb h2 (vs := [(iv p0.Unit), (.slice zG p0.Tools.length zH), (.slice zL p0.Steps.length zK)]) (k := 1) rfl 1) rfl) ?_
   refine Tr.va rfl (fun _ _ h1 h2 => QG zFJ (h1.ev rfl)) ?_
   refine Tr.va rfl (fun _ _ h1 h2 => QV (h1.ev rfl) (h1.ev rfl)) ?_
   refine Tr.nil (Tr.zA (Tr.cond rfl H (fun H => ?_) (fun H => ?_)))
   ·refine Tr.skip (Tr.zA (Tr.seq (Tr.block (Tr.sr (Tr.va rfl (fun _ _ h1 h2 => zB Vl (h1.ev rfl)) ?_)))))
    refine Tr.va rfl (fun _ _ h1 h2 => zF zBp (h1.ev rfl) (rdb h2 (vs := [(iv p0.Unit), (.slice zG p0.Tools.length zH), (.slice zL p0.Steps.length zK)]) (k := 1) rfl 1) rfl) ?_
    refine Tr.mv rfl rfl ?_
    obtain ⟨zBi, hx126, H⟩ := bnd H
    obtain ⟨hx1260, hx1261, hx1262⟩ := zw hx126
    obtain ⟨u127, hRu127, hoku127, hcu127⟩ := (ze).el hx1262
    obtain ⟨Wv, Wu⟩ := u127
    have zCa := hoku127
    replace zCa : Sl w.R w.W KW Wv Wu zBi.Rects := zCa
    refine Tr.va rfl (fun _ _ h1 h2 => zN zFm (h1.ev rfl) ze.form (h1.ev rfl) hx1260 hx1261) ?_
    refine Tr.va rfl (fun _ _ h1 h2 => zu (cs := [(sv zBi.Name), (.slice Wv zBi.Rects.length Wu)]) ag_47 zDo (h1.ev rfl) (za.take (rdR hRu127 hcu127 h2) 2) rfl) ?_
    refine Tr.alloc 4 (wn rfl) rfl ze_47 fun b128 => ?_
    refine Tr.store 4 (cs := [(sv zBi.Name), (.slice Wv zBi.Rects.length Wu)]) [(sv zBi.Name), (.slice Wv zBi.Rects.length Wu)] (wn rfl) rfl rfl rfl rfl zDo rfl rfl rfl ?_
    refine Tr.nil (Tr.zA (Tr.seq (Tr.sr (Tr.va rfl (fun _ _ h1 h2 => zB zCA (h1.ev rfl)) ?_))))
    refine Tr.va rfl (fun _ _ h1 h2 => zF zAR (h1.ev rfl) (rdb h2 (vs := [(sv zBi.Name), (.slice Wv zBi.Rects.length Wu)]) (k := 4) rfl 0) rfl) ?_
    obtain ⟨y129, hy129, H⟩ := bnd H
    refine Tr.Qa (r := (.bool y129)) (wn rfl) rfl Tryz.call43 (zI rfl zT) (fun W hW => zDm N zBi.Name y129 hy129 (HF.start _)) ?_
    refine Tr.va rfl (fun _ _ h1 h2 => Qb (h1.ev rfl)) ?_
    refine Tr.nil (Tr.zA (Tr.cond rfl H (fun H => ?_) (fun H => ?_)))
    ·refine Tr.sr (Tr.asg rfl rfl (Tr.nil (Tr.zA (Tr.ret (Tr.zM (Tr.zW (Tr.zM (Tr.zM (Tr.zW (Tr.zM ?_))))))))))
     obtain rfl := Option.some.inj H
     exact Tr.out (m := [(iv 5)]) [] (zJ rfl zR) (fun W hW => ⟨rfl, hW.low leB⟩)
    ·refine Tr.skip (Tr.zA (Tr.seq (Tr.sr (Tr.va rfl (fun _ _ h1 h2 => zB zB9 (h1.ev rfl)) ?_))))
     refine Tr.va rfl (fun _ _ h1 h2 => zF zHZ (h1.ev rfl) (rdb h2 (vs := [(sv zBi.Name), (.slice Wv zBi.Rects.length Wu)]) (k := 4) rfl 1) rfl) ?_
     refine Tr.va rfl (fun _ _ h1 h2 => zB zBe (h1.ev rfl)) ?_
     refine Tr.va rfl (fun _ _ h1 h2 => zF Qu (h1.ev rfl) (rdb h2 (vs := [(iv p0.Unit), (.slice zG p0.Tools.length zH), (.slice zL p0.Steps.length zK)]) (k := 1) rfl 0) rfl) ?_
     obtain ⟨zIf, hy130, H⟩ := bnd H
     refine Tr.Qa (r := (iv zIf)) (wn rfl) rfl Tryz.call44 (zI rfl (zI rfl zT)) (fun W hW => zBt N zBi.Rects Wv Wu (zCa.ext hW.Qc) p0.Unit zIf hy130 (HF.start _)) ?_
     refine Tr.asg rfl rfl (Tr.nil (Tr.zA (Tr.sr (Tr.mv rfl rfl (Tr.va rfl (fun _ _ h1 h2 => KV (h1.ev rfl) (h1.ev rfl)) ?_)))))
     refine Tr.nil (Tr.zA (Tr.cond rfl H (fun H => ?_) (fun H => ?_)))
     ·refine Tr.sr (Tr.mv rfl rfl (Tr.asg rfl rfl (Tr.nil (Tr.zA (Tr.ret (Tr.zM (Tr.zW (Tr.zM (Tr.zM (Tr.zW (Tr.zM ?_)))))))))))
      obtain rfl := Option.some.inj H
      exact Tr.out (m := [(iv zIf)]) [] (zJ rfl zR) (fun W hW => ⟨rfl, hW.low leB⟩)
     ·refine Tr.skip (Tr.zA (Tr.seq (Tr.draw (by kernel_rfl) (by kernel_rfl) ?_)))
      refine Tq.mv rfl rfl (Tq.va rfl (fun _ _ h1 h2 => VR (h1.ev rfl) (h1.ev rfl)) ?_)
      refine Tq.mv rfl rfl ?_
      obtain ⟨g133, hg133, H⟩ := bnd H
      refine Tq.mid 11 [(1, (.pointer (some ⟨QB, 0, none⟩))), (3, (iv zGV)), (51, (.bool g133))] ?_ ?_
      ·cases zFN : (decide (0 < zGV))
       ·rw [zFN] at hg133
        rw [if_neg (by decide)] at hg133
        have H := hg133
        obtain rfl := Option.some.inj H
        refine Tq.pass rfl rfl rfl rfl rfl (by decide) ?_
        refine Tq.pass rfl rfl rfl rfl rfl (by decide) ?_
        refine Tq.pass rfl rfl rfl rfl rfl (by decide) ?_
        refine Tq.pass rfl rfl rfl rfl rfl (by decide) ?_
        refine Tq.pass rfl rfl rfl rfl rfl (by decide) ?_
        refine Tq.pass rfl rfl rfl rfl rfl (by decide) ?_
        refine Tq.pass rfl rfl rfl rfl rfl (by decide) ?_
        refine Tq.pass rfl rfl rfl rfl rfl (by decide) ?_
        refine Tq.pass rfl rfl rfl rfl rfl (by decide) ?_
        refine Tq.pass rfl rfl rfl rfl rfl (by decide) ?_
        refine Tq.va rfl (fun _ _ h1 h2 => zV (h1.ev rfl) (h1.ev rfl)) ?_
        exact Tq.fin (.cons rfl (.cons rfl (.cons rfl .nil)))
       ·rw [zFN] at hg133
        rw [if_pos rfl] at hg133
        have H := hg133
        refine Tq.val (wg rfl rfl rfl) rfl (fun _ _ h1 h2 => zB zCA (h1.ev rfl)) ?_
        refine Tq.val (wg rfl rfl rfl) rfl (fun _ _ h1 h2 => zF zAR (h1.ev rfl) (rdb h2 (vs := [(sv zBi.Name), (.slice Wv zBi.Rects.length Wu)]) (k := 4) rfl 0) rfl) ?_
        refine Tq.val (wg rfl rfl rfl) rfl (fun _ _ h1 h2 => zB Vl (h1.ev rfl)) ?_
        refine Tq.val (wg rfl rfl rfl) rfl (fun _ _ h1 h2 => zF zBp (h1.ev rfl) (rdb h2 (vs := [(iv p0.Unit), (.slice zG p0.Tools.length zH), (.slice zL p0.Steps.length zK)]) (k := 1) rfl 1) rfl) ?_
        refine Tq.val (wg rfl rfl rfl) rfl (fun _ _ h1 h2 => run_move (h1.ev rfl)) ?_
        refine Tq.val (wg rfl rfl rfl) rfl (fun _ _ h1 h2 => zIr (h1.ev rfl) (h1.ev rfl)) ?_
        obtain ⟨zBv, hx134, H⟩ := bnd H
        obtain ⟨hx1340, hx1341, hx1342⟩ := zw hx134
        obtain ⟨u135, hRu135, hoku135, hcu135⟩ := (ze).el hx1342
        obtain ⟨Au135_0, cu135_0⟩ := u135
        have hoku135_0 := hoku135
        refine Tq.val (wg rfl rfl rfl) rfl (fun _ _ h1 h2 => zN zFm (h1.ev rfl) ze.form (h1.ev rfl) hx1340 hx1341) ?_
        refine Tq.val (wg rfl rfl rfl) rfl (fun _ _ h1 h2 => zB zCA (h1.ev rfl)) ?_
        refine Tq.val (wg rfl rfl rfl) rfl (fun _ _ h1 h2 => zF zAR (h1.ev rfl) (za.drop (rdR hRu135 hcu135 h2) 0) rfl) ?_
        refine Tq.val (wg rfl rfl rfl) rfl (fun _ _ h1 h2 => run_leqS (h1.ev rfl) (h1.ev rfl)) ?_
        refine Tq.va rfl (fun _ _ h1 h2 => zU (h1.ev rfl) (h1.ev rfl)) ?_
        obtain rfl := Option.some.inj H
        exact Tq.fin (.cons rfl (.cons rfl (.cons rfl .nil)))
      ·refine Tq.nil (Tr.zA (Tr.cond rfl H (fun H => ?_) (fun H => ?_)))
       ·refine Tr.sr (Tr.asg rfl rfl (Tr.nil (Tr.zA (Tr.ret (Tr.zW (Tr.zM (Tr.zM (Tr.zW (Tr.zM ?_)))))))))
        obtain rfl := Option.some.inj H
        exact Tr.out (m := [(iv 8)]) [] (zJ rfl zR) (fun W hW => ⟨rfl, hW.low leB⟩)
       ·refine Tr.skip (Tr.zi (Tr.zA (Tr.region (Tr.mv rfl rfl (Tr.va rfl (fun _ _ h1 h2 => QS (h1.ev rfl) (h1.ev rfl)) ?_)))))
        exact Tr.asg rfl rfl (Tr.nil (Tr.zb Qs (w64 (zGV + 1)) H (.cons rfl (.cons rfl .nil)) (.cons rfl .nil)))
   ·refine Tr.exit (Tr.zx (Tr.zx (Tr.Qd (Tr.zA (Tr.seq (Tr.sr (Tr.va rfl (fun _ _ h1 h2 => zB zCg (h1.ev rfl)) ?_)))))))
    refine Tr.va rfl (fun _ _ h1 h2 => zF zBR (h1.ev rfl) (rdb h2 (vs := [(iv p0.Unit), (.slice zG p0.Tools.length zH), (.slice zL p0.Steps.length zK)]) (k := 1) rfl 2) rfl) ?_
    obtain ⟨y136, hy136, H⟩ := bnd H
    refine Tr.Qa (r := (iv y136)) (wn rfl) rfl Tryz.call45 (zI rfl zT) (fun W hW => zBc N p0.Steps zL zK (KE.ext hW.Qc) y136 hy136 (HF.start _)) ?_
    refine Tr.va rfl (fun _ _ h1 h2 => VR (h1.ev rfl) (h1.ev rfl)) ?_
    refine Tr.nil (Tr.zA (Tr.cond rfl H (fun H => ?_) (fun H => ?_)))
    ·refine Tr.sr (Tr.asg rfl rfl (Tr.nil (Tr.zA (Tr.ret (Tr.zM ?_)))))
     obtain rfl := Option.some.inj H
     exact Tr.out (m := [(iv 2)]) [] (zJ rfl zR) (fun W hW => ⟨rfl, hW.low leB⟩)
    ·refine Tr.skip (Tr.zA (Tr.sr (Tr.va rfl (fun _ _ h1 h2 => zu (cs := [(iv p0.Unit), (.slice zG p0.Tools.length zH), (.slice zL p0.Steps.length zK)]) WY Kb (h1.ev rfl) (za.take (rdb h2 (vs := [(iv p0.Unit), (.slice zG p0.Tools.length zH), (.slice zL p0.Steps.length zK)]) (k := 1) rfl 0) 3) rfl) ?_)))
     refine Tr.va rfl (fun _ _ h1 h2 => zB zCg (h1.ev rfl)) ?_
     refine Tr.va rfl (fun _ _ h1 h2 => zF zBR (h1.ev rfl) (rdb h2 (vs := [(iv p0.Unit), (.slice zG p0.Tools.length zH), (.slice zL p0.Steps.length zK)]) (k := 1) rfl 2) rfl) ?_
     obtain ⟨y137, hy137, H⟩ := bnd H
     refine Tr.Qa (r := (iv y137)) (wn rfl) rfl Tryz.call46 (zI rfl (zI rfl (zI rfl zT))) (fun W hW => zAd N p0 zG zH (ze.ext hW.Qc) zL zK (KE.ext hW.Qc) p0.Steps zL zK (KE.ext hW.Qc) 0 y137 hy137 (HF.start _)) ?_
     refine Tr.asg rfl rfl (Tr.nil (Tr.zA (Tr.ret ?_)))
     obtain rfl := Option.some.inj H
     exact Tr.out (m := [(iv y137)]) [] (zJ rfl zR) (fun W hW => ⟨rfl, hW.low leB⟩)

end Go.Proofs.YtokanbmnoghafaaGreatDoor
