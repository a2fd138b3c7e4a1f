/- The walks: each function computes its plain function. -/
import Derived.Test.YtoageaoknnnfbaaGreatDoorXWa
namespace Go.Proofs.YtoageaoknnnfbaaGreatDoor
open Go.RowKit
set_option maxRecDepth 100000
set_option maxHeartbeats 1000000
theorem zBi (N : Nat) {w : Bs} (p0 : (List zS)) (QA : Option Addr) (QB : Nat) (QE : Sl w.O w.W zK QA QB p0) (bq0 : Nat) (q1 : Bool) (bq1 : Nat) (q2 : zt) (Aq2_0 : Option Addr) (cq2_0 : Nat) (zFB : Sl w.R w.W zK Aq2_0 cq2_0 q2.Tools) (Aq2_1 : Option Addr) (cq2_1 : Nat) (zFA : Sl w.R w.W zG Aq2_1 cq2_1 q2.Steps) (bq2 : Nat) (hb2 : w.R bq2) (hc2 : zL w.W bq2 0 [(iv q2.Unit), (.slice Aq2_0 q2.Tools.length cq2_0), (.slice Aq2_1 q2.Steps.length cq2_1)]) (q3 : Int) (bq3 : Nat) (hb3 : w.R bq3) (hc3 : zL w.W bq3 0 [(iv q3)]) (hb0 : w.R bq0) (hc0 : zL w.W bq0 0 [(.func (.func 44) #[] #[(.pointer (some ⟨bq1, 0, none⟩)), (.pointer (some ⟨bq2, 0, none⟩)), (.pointer (some ⟨bq3, 0, none⟩))])]) (r : ((List zS) × Bool)) (H : Qx N p0 q1 q2 q3 = some r) (hE : HF w w.W (LEn [bx bq1 #[(.bool q1)] 4, emp])) : Calls Tryz.prog 63 [(.slice QA p0.length QB), (.func (.func 67) #[] #[(.pointer (some ⟨bq0, 0, none⟩))])].toArray w.W fun e W' => ∃ (w' : Bs) (u : (Option Addr × Nat)), w.Le w' ∧ e = .returned (.slice u.1 r.1.length u.2) ∧ (SlF u.1 r.1.length u.2) ∧ HF w' W' (LEn [bx bq1 #[(.bool r.2)] 4, ow u.1 u.2 64 zK r.1]) := by
 unfold Qx at H
 have leB := Bs.Le.refl w
 refine Tr.enter (n := 50) Tryz.func63 rfl rfl rfl hE ?_
 refine Tr.sr (Tr.asg rfl rfl (Tr.JS 1 64 zK ?_))
 show Tr _ _ (uf _ 4 (.slice none (([] : List zS)).length 0)) _ _
 refine Tr.nil (Tr.zA (Tr.sr (Tr.mv rfl rfl ?_)))
 obtain ⟨QT, zBp, H⟩ := bnd H
 refine Tr.VQ [2] [emp] (U := (Option Addr × Nat)) (fun u => (.slice u.1 QT.length u.2)) (fun O W u => SlF u.1 QT.length u.2) (fun u => [ow u.1 u.2 64 zK QT]) rfl (zM rfl zY) (fun _ => rfl) (wn rfl) rfl Tryz.call92 (zF rfl zO) (fun W hW hp hE => zFJ p0 QA QB (QE.zAl (hW.QS hp)) QT zBp hE) ?_
 intro w u zAj hu
 obtain ⟨QY, QX⟩ := u
 have gy100_0 := hu
 replace hc0 := zAj.ext.cells hb0 hc0
 replace hb0 := zAj.r _ hb0
 replace hc2 := zAj.ext.cells hb2 hc2
 replace hb2 := zAj.r _ hb2
 replace zFB := zFB.leR zAj
 replace zFA := zFA.leR zAj
 replace hc3 := zAj.ext.cells hb3 hc3
 replace hb3 := zAj.r _ hb3
 replace leB := leB.trans zAj
 have zBq : SlF QY QT.length QX := gy100_0 --@phi
 show Tr _ _ (uf _ 10 (.slice QY QT.length QX)) (up _ 2 (ow QY QX 64 zK QT)) _
 refine Tr.asg rfl rfl (Tr.nil (Tr.zA (Tr.seq (Tr.sr (Tr.mv rfl rfl (Tr.va rfl (fun _ _ h1 h2 => zq zHi (h1.ev rfl)) ?_))))))
 refine Tr.mv rfl rfl (Tr.nil (Tr.zA (Tr.block (Tr.loop (σ := Bool × (List zS) × Int × (Option Addr) × Nat) (fun m w s => za q2 q3 QT m s.1 s.2.1 s.2.2.1 = some r ∧ SlF s.2.2.2.1 s.2.1.length s.2.2.2.2) (fun s => [(1, (.func (.func 67) #[] #[(.pointer (some ⟨bq0, 0, none⟩))])), (5, (.slice s.2.2.2.1 s.2.1.length s.2.2.2.2)), (12, (iv (QT.length : Int))), (13, (iv s.2.2.1))]) (fun s => [(0, bx bq1 #[(.bool s.1)] 4), (2, ow s.2.2.2.1 s.2.2.2.2 64 zK s.2.1)]) N (q1, QT, 0, QY, QX) ⟨H, zBq⟩ (.cons rfl (.cons rfl (.cons rfl (.cons rfl .nil)))) (.cons rfl (.cons rfl .nil)) (fun _ _ h => zAi (h.1)) ?_))))
 intro w VK mL3 s hs
 obtain ⟨x207, zCN, zBM, zCE, zDI⟩ := s
 obtain ⟨H, hl208⟩ := hs
 replace H : za q2 q3 QT (mL3 + 1) x207 zCN zBM = some r := H
 replace hc0 := VK.ext.cells hb0 hc0
 replace hb0 := VK.r _ hb0
 replace hc2 := VK.ext.cells hb2 hc2
 replace hb2 := VK.r _ hb2
 replace zFB := zFB.leR VK
 replace zFA := zFA.leR VK
 replace hc3 := VK.ext.cells hb3 hc3
 replace hb3 := VK.r _ hb3
 replace leB := leB.trans VK
 replace hl208 : SlF zCE zCN.length zDI := hl208
 rw [za.eq_2] at H
 show Tr _ _ (LF [(1, (.func (.func 67) #[] #[(.pointer (some ⟨bq0, 0, none⟩))])), (5, (.slice zCE zCN.length zDI)), (12, (iv (QT.length : Int))), (13, (iv zBM))]) (LE [(0, bx bq1 #[(.bool x207)] 4), (2, ow zCE zDI 64 zK zCN)]) _
 refine Tr.sr (Tr.va rfl (fun _ _ h1 h2 => zz (h1.ev rfl) (h1.ev rfl)) ?_)
 refine Tr.nil (Tr.zA (Tr.seq (Tr.cond rfl H (fun H => ?_) (fun H => ?_))))
 ·refine Tr.skip (Tr.zA (Tr.seq (Tr.block (Tr.sr (Tr.mv rfl rfl (Tr.asg rfl rfl (Tr.nil (Tr.zA (Tr.sr (Tr.mv rfl rfl ?_))))))))))
  refine Tr.mv rfl rfl (Tr.mv rfl rfl (Tr.mv rfl rfl ?_))
  obtain ⟨x210, hx210, H⟩ := bnd H
  obtain ⟨hx2100, hx2101, hx2102⟩ := zh hx210
  refine Tr.va rfl (fun _ _ h1 h2 => zH zGQ (h1.ev rfl) hl208 (h1.ev rfl) hx2100 hx2101) ?_
  refine Tr.va rfl (fun _ _ h1 h2 => zB zC0 (h1.ev rfl)) ?_
  refine Tr.valE (U := (zK).Ad) (fun u => (zK).ok w.O w.W u x210) (fun u => (.slice u.1 x210.Rects.length u.2)) (wn rfl) rfl (ldN (κ := 2) (t := zK) (V := fun u => (.slice u.1 x210.Rects.length u.2)) rfl hx2102 (fun _ _ u h1 hc => zC zJG (h1.ev rfl) (hc.drop 1) rfl)) ?_
  intro u211 hoku211
  obtain ⟨Au211_0, cu211_0⟩ := u211
  have hoku211_0 := hoku211
  replace hoku211_0 : Sl w.O w.W zN Au211_0 cu211_0 x210.Rects := hoku211_0
  show Tr _ _ (uf _ 22 (.slice Au211_0 x210.Rects.length cu211_0)) _ _
  obtain ⟨zCo, hy212, H⟩ := bnd H
  refine Tr.VP [11] [emp] (U := (Option Addr × Nat)) (fun u => (.slice u.1 zCo.length u.2)) (fun u => SlF u.1 zCo.length u.2) (fun u => [ow u.1 u.2 36 zN zCo]) rfl (zM rfl zY) (fun _ => rfl) (wn rfl) rfl Tryz.call80 (zF rfl zO) (fun W hW hp hE => zC9 x210.Rects Au211_0 cu211_0 (hoku211_0.rl.ext (hW.QS hp)) zCo hy212 hE) ?_
  intro u hu
  obtain ⟨zHD, zGz⟩ := u
  have gy212_0 := hu
  have hgy212_0 : SlF zHD zCo.length zGz := gy212_0 --@phi
  show Tr _ _ (uf _ 23 (.slice zHD zCo.length zGz)) (up _ 11 (ow zHD zGz 36 zN zCo)) _
  obtain ⟨zFQ, hx214, H⟩ := bnd H
  obtain ⟨hx2140, hx2141, hx2142⟩ := zh hx214
  refine Tr.va rfl (fun _ _ h1 h2 => zH zGQ (h1.ev rfl) hl208 (h1.ev rfl) hx2140 hx2141) ?_
  refine Tr.va rfl (fun _ _ h1 h2 => zB zC0 (h1.ev rfl)) ?_
  refine Tr.mixOpen 2 rfl hx2142 ?_
  intro u215 hoku215
  obtain ⟨Au215_0, cu215_0⟩ := u215
  have hoku215_0 := hoku215
  show Tr _ _ _ (up _ 2 (ow zCE zDI 64 (mix zK) (zAz zCN (zBM).toNat (raw zK [(sv zFQ.Name), (.slice Au215_0 zFQ.Rects.length cu215_0)] rfl rfl)))) _
  refine Tr.zJs 2 (raw zK [(sv zFQ.Name), (.slice zHD zCo.length zGz)] rfl rfl) (cs := [(.slice zHD zCo.length zGz)]) (fo := 1) (wn rfl) rfl rfl rfl rfl rfl (List.getElem?_eq_some_iff.1 hx2142).1 sz_31 rfl rfl rfl ?_
  refine Tr.nil (Tr.zA (Tr.sr (Tr.mv rfl rfl (Tr.mv rfl rfl ?_))))
  obtain ⟨x216, hx216, H⟩ := bnd H
  obtain ⟨hx2160, hx2161, hx2162⟩ := zh hx216
  refine Tr.va rfl (fun _ _ h1 h2 => zH zGQ (h1.ev rfl) hl208 (h1.ev rfl) hx2160 hx2161) ?_
  refine Tr.va rfl (fun _ _ h1 h2 => zB zC0 (h1.ev rfl)) ?_
  refine Tr.va rfl (fun _ _ h1 h2 => zC zJG (h1.ev rfl) (zL.drop (rdm (cs := raw zK [(sv zFQ.Name), (.slice zHD zCo.length zGz)] rfl rfl) h2 (κ := 2) rfl (List.getElem?_eq_some_iff.1 hx2162).1) 1) rfl) ?_
  refine Tr.va rfl (fun _ _ h1 h2 => zq zA0 (h1.ev rfl)) ?_
  refine Tr.mv rfl rfl (Tr.nil (Tr.zA (Tr.block (Tr.loop (σ := (List zT) × Nat × Bool × (List zT) × (Option Addr) × Nat) (fun m w s => m = s.1.length + 1 ∧ s.1 = List.drop s.2.1 zCo ∧ s.2.1 ≤ zCo.length ∧ zm q2 q3 zCN zBM (za q2 q3 QT mL3) zFQ s.1 s.2.1 s.2.2.1 s.2.2.2.1 = some r ∧ SlF s.2.2.2.2.1 s.2.2.2.1.length s.2.2.2.2.2) (fun s => [(1, (.func (.func 67) #[] #[(.pointer (some ⟨bq0, 0, none⟩))])), (5, (.slice zCE zCN.length zDI)), (6, (iv zBM)), (12, (iv (QT.length : Int))), (13, (iv zBM)), (30, (.slice s.2.2.2.2.1 s.2.2.2.1.length s.2.2.2.2.2)), (31, (iv (zCo.length : Int))), (32, (iv (s.2.1 : Int)))]) (fun s => [(0, bx bq1 #[(.bool s.2.2.1)] 4), (2, ow zCE zDI 64 (mix zK) (zAz zCN (zBM).toNat (raw zK [(sv zFQ.Name), (.slice s.2.2.2.2.1 s.2.2.2.1.length s.2.2.2.2.2)] rfl rfl))), (11, ow s.2.2.2.2.1 s.2.2.2.2.2 36 zN s.2.2.2.1)]) (zCo.length + 1) (zCo, 0, x207, zCo, zHD, zGz) ⟨rfl, rfl, Nat.zero_le _, H, hgy212_0⟩ (.cons rfl (.cons rfl (.cons rfl (.cons rfl (.cons rfl (.cons rfl (.cons rfl (.cons rfl .nil)))))))) (.cons rfl (.cons rfl (.cons rfl .nil))) (fun _ _ h => absurd h.1 (by simp)) ?_))))
  intro w zB1 m s hs
  obtain ⟨Ky, iL4, x242, zFS, zFP, zFF⟩ := s
  obtain ⟨hmL4, zDT, hiL4, H, hl243⟩ := hs
  replace zDT : Ky = List.drop iL4 zCo := zDT
  replace H : zm q2 q3 zCN zBM (za q2 q3 QT mL3) zFQ Ky iL4 x242 zFS = some r := H
  replace hmL4 : m + 1 = Ky.length + 1 := hmL4
  replace hc0 := zB1.ext.cells hb0 hc0
  replace hb0 := zB1.r _ hb0
  replace hc2 := zB1.ext.cells hb2 hc2
  replace hb2 := zB1.r _ hb2
  replace zFB := zFB.leR zB1
  replace zFA := zFA.leR zB1
  replace hc3 := zB1.ext.cells hb3 hc3
  replace hb3 := zB1.r _ hb3
  replace VK := VK.trans zB1
  replace hl243 : SlF zFP zFS.length zFF := hl243
  obtain rfl : m = Ky.length := by omega
  clear hmL4
  show Tr _ _ (LF [(1, (.func (.func 67) #[] #[(.pointer (some ⟨bq0, 0, none⟩))])), (5, (.slice zCE zCN.length zDI)), (6, (iv zBM)), (12, (iv (QT.length : Int))), (13, (iv zBM)), (30, (.slice zFP zFS.length zFF)), (31, (iv (zCo.length : Int))), (32, (iv (iL4 : Int)))]) (LE [(0, bx bq1 #[(.bool x242)] 4), (2, ow zCE zDI 64 (mix zK) (zAz zCN (zBM).toNat (raw zK [(sv zFQ.Name), (.slice zFP zFS.length zFF)] rfl rfl))), (11, ow zFP zFF 36 zN zFS)]) _
  cases Ky with
  | nil =>
   rw [zm.eq_1] at H
   refine Tr.sr (Tr.va rfl (fun _ _ h1 h2 => zz (h1.ev rfl) (h1.ev rfl)) ?_)
   refine Tr.nil (Tr.zA (Tr.seq (Tr.WJ rfl (Qy zDT) ?_)))
   refine Tr.exit (Tr.zX (Tr.zX (Tr.zAC (Tr.zW (Tr.zA ?_)))))
   refine Tr.region (Tr.va rfl (fun _ _ h1 h2 => zx (h1.ev rfl) (h1.ev rfl)) ?_)
   refine Tr.mv rfl rfl (Tr.nil (Tr.freeze 11 rfl fun w le245 hz244 => ?_))
   replace VK := VK.trans le245
   refine Tr.mixClose 2 rfl ((zFP, zFF)) (zS.mk zFQ.Name zFS) hz244 rfl ?_
   have hs246 : ((zCN).set (zBM).toNat (zS.mk zFQ.Name zFS)).length = zCN.length := List.length_set
   have hfhs246 : SlF zCE ((zCN).set (zBM).toNat (zS.mk zFQ.Name zFS)).length zDI := by rw [hs246]; exact hl208
   refine Tr.sel (lf := [(1, (.func (.func 67) #[] #[(.pointer (some ⟨bq0, 0, none⟩))])), (5, (.slice zCE (((zCN).set (zBM).toNat (zS.mk zFQ.Name zFS))).length zDI)), (6, (iv zBM)), (12, (iv (QT.length : Int))), (13, (iv (w64 (zBM + 1)))), (30, (.slice zFP zFS.length zFF)), (31, (iv (zCo.length : Int))), (32, (iv (iL4 : Int))), (33, (.bool (decide ((iL4 : Int) < (zCo.length : Int))))), (48, (iv (w64 (zBM + 1))))]) (le := [(0, bx bq1 #[(.bool x242)] 4), (2, ow zCE zDI 64 zK ((zCN).set (zBM).toNat (zS.mk zFQ.Name zFS)))]) (.cons rfl (.cons (VH rfl (by rw [hs246])) (.cons rfl (.cons rfl (.cons rfl (.cons rfl (.cons rfl (.cons rfl (.cons rfl (.cons rfl .nil)))))))))) (.cons rfl (.cons rfl .nil)) ?_
   exact Tr.zZ VK (x242, ((zCN).set (zBM).toNat (zS.mk zFQ.Name zFS)), (w64 (zBM + 1)), zCE, zDI) ⟨H, hfhs246⟩ (.cons rfl (.cons rfl (.cons rfl (.cons rfl .nil)))) (.cons rfl (.cons rfl .nil))
  | cons xL4 Ky =>
   rw [zm.eq_2] at H
   refine Tr.sr (Tr.va rfl (fun _ _ h1 h2 => zz (h1.ev rfl) (h1.ev rfl)) ?_)
   refine Tr.nil (Tr.zA (Tr.seq (Tr.WI rfl (Jg zDT) ?_)))
   refine Tr.skip (Tr.zA (Tr.seq (Tr.block (Tr.sr (Tr.mv rfl rfl ?_)))))
   obtain ⟨zA5, hx247, H⟩ := bnd H
   obtain ⟨hx2470, hx2471, hx2472⟩ := zh hx247
   refine Tr.va rfl (fun _ _ h1 h2 => zH zCR (h1.ev rfl) hl243 (h1.ev rfl) hx2470 hx2471) ?_
   refine Tr.va rfl (fun _ _ h1 h2 => zR (cs := [(iv zA5.X0), (iv zA5.Y0), (iv zA5.X1), (iv zA5.Y1)]) zCD Kv (h1.ev rfl) (zL.take (rdo VM (k := 11) h2 rfl hx2472) 4) rfl) ?_
   refine Tr.alloc 14 (wn rfl) rfl zF7 fun b248 => ?_
   refine Tr.asg rfl rfl (Tr.store 14 (cs := [(iv zA5.X0), (iv zA5.Y0), (iv zA5.X1), (iv zA5.Y1)]) [(iv zA5.X0), (iv zA5.Y0), (iv zA5.X1), (iv zA5.Y1)] (wn rfl) rfl rfl rfl rfl Kv rfl rfl rfl ?_)
   refine Tr.nil (Tr.zA (Tr.zHL 9 [(8, fun x => x = bq1)] [] (by kernel_rfl) (by kernel_rfl) fun sz249 hlosz249 hEsz249 => ?_))
   refine Dr.Ji 0 (by kernel_rfl) rfl (wn rfl) rfl (by kernel_rfl) (fun _ _ h1 => run_move (h1.ev rfl)) rfl ?_
   refine Dr.Ji 1 (by kernel_rfl) rfl (wn rfl) rfl (by kernel_rfl) (fun _ _ h1 => run_move (h1.ev rfl)) rfl ?_
   obtain ⟨x250, hx250, H⟩ := bnd H
   obtain ⟨hx2500, hx2501, hx2502⟩ := zh hx250
   refine Dr.Ji 2 (by kernel_rfl) rfl (wn rfl) rfl (by kernel_rfl) (fun _ _ h1 => zH zGQ (h1.ev rfl) hl208 (h1.ev rfl) hx2500 hx2501) rfl ?_
   refine Dr.Ji 3 (by kernel_rfl) rfl (wn rfl) rfl (by kernel_rfl) (fun _ _ h1 => zB zC0 (h1.ev rfl)) rfl ?_
   refine Dr.Vn 4 [(41, (.slice zFP zFS.length zFF))] [8] false (by kernel_rfl) rfl rfl (by kernel_rfl) (fun W W' h2 hsW hk => HF.zBN (le := [(2, ow zCE zDI 64 (mix zK) (zAz zCN (zBM).toNat (raw zK [(sv zFQ.Name), (.slice zFP zFS.length zFF)] rfl rfl)))]) (ks := [(0, fun x => x = bq1)]) (s0 := sz249) false h2 hk (fun h => absurd h (by decide)) (.cons rfl .nil) (fun b hb => hb.elim (fun ⟨p, hp, hf, hb⟩ => by simp only [List.mem_cons, List.not_mem_nil, or_false] at hp; rcases hp with rfl; exact .inl ⟨_, List.mem_cons_self, hb⟩) (fun hb => absurd hb.1 (by decide))) (List.forall_mem_cons.2 ⟨fun b hb => hb, (fun _ h => nomatch h)⟩) rfl) ?_ rfl rfl ?_
   ·refine Tq.va rfl (fun _ _ h1 h2 => zC zJG (h1.ev rfl) (zL.drop (rdm (cs := raw zK [(sv zFQ.Name), (.slice zFP zFS.length zFF)] rfl rfl) h2 (κ := 2) rfl (List.getElem?_eq_some_iff.1 hx2502).1) 1) rfl) ?_
    exact Tq.fin (.cons rfl .nil)
   refine Dr.Ji 5 (by kernel_rfl) rfl (wn rfl) rfl (by kernel_rfl) (fun _ _ h1 => run_move (h1.ev rfl)) rfl ?_
   refine Dr.quiet 6 [(43, (.func (.func 67) #[] #[(.pointer (some ⟨bq0, 0, none⟩))]))] (by kernel_rfl) rfl rfl (by kernel_rfl) ?_ rfl rfl ?_
   ·exact Tq.mv rfl rfl (Tq.fin (.cons rfl .nil))
   refine Dr.quiet 7 [(44, (.agg #[(iv zA5.X0), (iv zA5.Y0), (iv zA5.X1), (iv zA5.Y1)]))] (by kernel_rfl) rfl rfl (by kernel_rfl) ?_ rfl rfl ?_
   ·refine Tq.va rfl (fun _ _ h1 h2 => zR (cs := [(iv zA5.X0), (iv zA5.Y0), (iv zA5.X1), (iv zA5.Y1)]) zCD Kv (h1.ev rfl) (zL.take (rdb h2 (vs := [(iv zA5.X0), (iv zA5.Y0), (iv zA5.X1), (iv zA5.Y1)]) (k := 14) rfl 0) 4) rfl) ?_
    exact Tq.fin (.cons rfl .nil)
   obtain ⟨zD6, hy251, H⟩ := bnd H
   refine Dr.one 8 (by kernel_rfl) ?_
   refine St.zF3 8 [0] [bx bq1 #[(.bool x242)] 4] (U := Unit) (fun u => (.agg #[(iv zD6.1.X0), (iv zD6.1.Y0), (iv zD6.1.X1), (iv zD6.1.Y1)])) (fun u => True) (fun u => [bx bq1 #[(.bool zD6.2)] 4]) rfl (zM rfl zY) (fun _ => rfl) (fun b ⟨e, he, hS⟩ => by simp only [List.mem_cons, List.not_mem_nil, or_false] at he; rcases he with rfl; exact .inl ⟨_, List.mem_cons_self, rfl, hS⟩) rfl (wn rfl) rfl rfl Tryz.call67 (zF rfl zO) (fun W hW hp hE => zD0 zA5 bq0 x242 bq1 q2 Aq2_0 cq2_0 (zFB.ext (hW.QS hp)) Aq2_1 cq2_1 (zFA.ext (hW.QS hp)) bq2 ((hW.QS hp).r _ hb2) ((hW.QS hp).cells hb2 hc2) q3 bq3 ((hW.QS hp).r _ hb3) ((hW.QS hp).cells hb3 hc3) ((hW.QS hp).r _ hb0) ((hW.QS hp).cells hb0 hc0) zD6 hy251 hE) ?_
   intro u hu hsy251
   show Dr _ _ _ _ _ _ _ _ _ (uf _ 45 (.agg #[(iv zD6.1.X0), (iv zD6.1.Y0), (iv zD6.1.X1), (iv zD6.1.Y1)])) (up _ 0 (bx bq1 #[(.bool zD6.2)] 4))
   refine Dr.tail (by kernel_rfl) ?_
   obtain ⟨x253, hx253, H⟩ := bnd H
   obtain ⟨hx2530, hx2531, hx2532⟩ := zh hx253
   refine Tr.va rfl (fun _ _ h1 h2 => zH zCR (h1.ev rfl) hl243 (h1.ev rfl) hx2530 hx2531) ?_
   obtain ⟨l254, hl254, H⟩ := bnd H
   have hnl254 := zGD hl254
   refine Tr.zGh 11 (t := zN) (l := zFS) (i := (iL4 : Int)) (fo := 0) (cs := [(iv zD6.1.X0), (iv zD6.1.Y0), (iv zD6.1.X1), (iv zD6.1.Y1)]) zD6.1 (wn rfl) rfl rfl rfl rfl rfl hx2532 Kv rfl (fun u _ => ⟨u, trivial, rfl⟩) rfl hl254 ?_
   have hfl254 : SlF zFP l254.length zFF := by rw [hnl254]; exact hl243
   refine Tr.sel (lf := [(1, (.func (.func 67) #[] #[(.pointer (some ⟨bq0, 0, none⟩))])), (5, (.slice zCE zCN.length zDI)), (6, (iv zBM)), (7, (iv (iL4 : Int))), (8, (.pointer (some ⟨b248, 0, none⟩))), (12, (iv (QT.length : Int))), (13, (iv zBM)), (30, (.slice zFP l254.length zFF)), (31, (iv (zCo.length : Int))), (32, (iv (iL4 : Int))), (33, (.bool (decide ((iL4 : Int) < (zCo.length : Int))))), (34, (iv (iL4 : Int))), (36, (.agg #[(iv zA5.X0), (iv zA5.Y0), (iv zA5.X1), (iv zA5.Y1)])), (37, (.slice zCE zCN.length zDI)), (38, (iv zBM)), (39, (.pointer (some ⟨adB zCE, adO zCE + (zBM).toNat * 2, none⟩))), (40, (.pointer (some ⟨adB zCE, adO zCE + (zBM).toNat * 2 + 1, none⟩))), (41, (.slice zFP l254.length zFF)), (42, (iv (iL4 : Int))), (43, (.func (.func 67) #[] #[(.pointer (some ⟨bq0, 0, none⟩))])), (44, (.agg #[(iv zA5.X0), (iv zA5.Y0), (iv zA5.X1), (iv zA5.Y1)])), (45, (.agg #[(iv zD6.1.X0), (iv zD6.1.Y0), (iv zD6.1.X1), (iv zD6.1.Y1)]))]) (le := [(0, bx bq1 #[(.bool zD6.2)] 4), (2, ow zCE zDI 64 (mix zK) (zAz zCN (zBM).toNat (raw zK [(sv zFQ.Name), (.slice zFP l254.length zFF)] rfl rfl))), (11, ow zFP zFF 36 zN l254), (14, bx b248 #[(iv zA5.X0), (iv zA5.Y0), (iv zA5.X1), (iv zA5.Y1)] 36)]) (.cons rfl (.cons rfl (.cons rfl (.cons rfl (.cons rfl (.cons rfl (.cons rfl (.cons (VH rfl (by rw [hnl254])) (.cons rfl (.cons rfl (.cons rfl (.cons rfl (.cons rfl (.cons rfl (.cons rfl (.cons rfl (.cons rfl (.cons (VH rfl (by rw [hnl254])) (.cons rfl (.cons rfl (.cons rfl (.cons rfl .nil)))))))))))))))))))))) (.cons rfl (.cons (emix rfl (by rw [hnl254])) (.cons rfl (.cons rfl .nil)))) ?_
   refine Tr.nil (Tr.zW (Tr.zA ?_))
   refine Tr.region (Tr.va rfl (fun _ _ h1 h2 => zx (h1.ev rfl) (h1.ev rfl)) ?_)
   exact Tr.mv rfl rfl (Tr.nil (Tr.zZ zB1 (Ky, (iL4 + 1), zD6.2, l254, zFP, zFF) ⟨rfl, Qg zDT, zo zDT, H, hfl254⟩ (.cons rfl (.cons rfl (.cons rfl (.cons rfl (.cons rfl (.cons rfl (.cons rfl (.cons (congrArg (fun z => some (Value.int .i64 z)) (Qf zDT hgy212_0)) .nil)))))))) (.cons rfl (.cons rfl (.cons rfl .nil)))))
 ·refine Tr.exit (Tr.zX (Tr.zX (Tr.zAC (Tr.zA (Tr.sr (Tr.mv rfl rfl (Tr.asg rfl rfl (Tr.nil (Tr.zA (Tr.ret ?_))))))))))
  obtain rfl := Option.some.inj H
  exact Tr.out (m := [(.slice zCE zCN.length zDI)]) [] (zP rfl zQ) (fun W hW => ⟨w, (zCE, zDI), leB, rfl, hl208, hW.pick (ks := [0, 2]) (by decide) (zM rfl (zM rfl zY))⟩)

theorem zA4 {w : Bs} (p0 : zI) (bq0 : Nat) (q1 : Bool) (bq1 : Nat) (q2 : zt) (Aq2_0 : Option Addr) (cq2_0 : Nat) (zFB : Sl w.R w.W zK Aq2_0 cq2_0 q2.Tools) (Aq2_1 : Option Addr) (cq2_1 : Nat) (zFA : Sl w.R w.W zG Aq2_1 cq2_1 q2.Steps) (bq2 : Nat) (hb2 : w.R bq2) (hc2 : zL w.W bq2 0 [(iv q2.Unit), (.slice Aq2_0 q2.Tools.length cq2_0), (.slice Aq2_1 q2.Steps.length cq2_1)]) (q3 : Int) (bq3 : Nat) (hb3 : w.R bq3) (hc3 : zL w.W bq3 0 [(iv q3)]) (hb0 : w.R bq0) (hc0 : zL w.W bq0 0 [(.func (.func 44) #[] #[(.pointer (some ⟨bq1, 0, none⟩)), (.pointer (some ⟨bq2, 0, none⟩)), (.pointer (some ⟨bq3, 0, none⟩))])]) (r : (zI × Bool)) (H : Jl p0 q1 q2 q3 = some r) (hE : HF w w.W (LEn [bx bq1 #[(.bool q1)] 4])) : Calls Tryz.prog 66 [(.agg #[(iv p0.X), (iv p0.Y)]), (.pointer (some ⟨bq0, 0, none⟩))].toArray w.W fun e W' => ∃ u : Unit, e = .returned (.agg #[(iv r.1.X), (iv r.1.Y)]) ∧ (True) ∧ HF w W' (LEn [bx bq1 #[(.bool r.2)] 4]) := by
 unfold Jl at H
 have leB := Bs.Le.refl w
 refine Tr.enter (n := 13) Tryz.func66 rfl rfl rfl hE ?_
 refine Tr.sr (Tr.box 1 (cs := [(iv p0.X), (iv p0.Y)]) (wn rfl) rfl rfl rfl fun QM => ?_)
 refine Tr.alloc 2 (wn rfl) rfl zHe fun Qt => ?_
 refine Tr.nil (Tr.zA (Tr.seq (Tr.zHL 7 [(3, fun x => x = bq1)] [] (by kernel_rfl) (by kernel_rfl) fun zHn hlosz102 hEsz102 => ?_)))
 refine Dr.quiet 0 [(4, (.func (.func 44) #[] #[(.pointer (some ⟨bq1, 0, none⟩)), (.pointer (some ⟨bq2, 0, none⟩)), (.pointer (some ⟨bq3, 0, none⟩))]))] (by kernel_rfl) rfl rfl (by kernel_rfl) ?_ rfl rfl ?_
 ·refine Tq.va rfl (fun _ _ h1 h2 => zC ag_88 (h1.ev rfl) (rdR hb0 hc0 h2) rfl) ?_
  exact Tq.fin (.cons rfl .nil)
 refine Dr.Ji 1 (by kernel_rfl) rfl (wn rfl) rfl (by kernel_rfl) (fun _ _ h1 => zB VL (h1.ev rfl)) rfl ?_
 refine Dr.quiet 2 [(6, (iv p0.X))] (by kernel_rfl) rfl rfl (by kernel_rfl) ?_ rfl rfl ?_
 ·refine Tq.va rfl (fun _ _ h1 h2 => zC QO (h1.ev rfl) (rdb h2 (vs := [(iv p0.X), (iv p0.Y)]) (k := 1) rfl 0) rfl) ?_
  exact Tq.fin (.cons rfl .nil)
 refine Dr.Vn 4 [(8, (.func (.func 44) #[] #[(.pointer (some ⟨bq1, 0, none⟩)), (.pointer (some ⟨bq2, 0, none⟩)), (.pointer (some ⟨bq3, 0, none⟩))]))] [3] false (by kernel_rfl) rfl rfl (by kernel_rfl) (fun W W' h2 hsW hk => HF.zBN (le := []) (ks := [(0, fun x => x = bq1)]) (s0 := zHn) false h2 hk (fun h => absurd h (by decide)) .nil (fun b hb => hb.elim (fun ⟨p, hp, hf, hb⟩ => by simp only [List.mem_cons, List.not_mem_nil, or_false] at hp; rcases hp with rfl; exact .inl ⟨_, List.mem_cons_self, hb⟩) (fun hb => absurd hb.1 (by decide))) (List.forall_mem_cons.2 ⟨fun b hb => hb, (fun _ h => nomatch h)⟩) rfl) ?_ rfl rfl ?_
 ·refine Tq.va rfl (fun _ _ h1 h2 => zC ag_88 (h1.ev rfl) (rdR hb0 hc0 h2) rfl) ?_
  exact Tq.fin (.cons rfl .nil)
 refine Dr.Ji 5 (by kernel_rfl) rfl (wn rfl) rfl (by kernel_rfl) (fun _ _ h1 => zB Kt (h1.ev rfl)) rfl ?_
 refine Dr.Vn 6 [(10, (iv p0.Y))] [3] false (by kernel_rfl) rfl rfl (by kernel_rfl) (fun W W' h2 hsW hk => HF.zBN (le := [(1, bx QM #[(iv p0.X), (iv p0.Y)] 43)]) (ks := [(0, fun x => x = bq1)]) (s0 := zHn) false h2 hk (fun h => absurd h (by decide)) (.cons rfl .nil) (fun b hb => hb.elim (fun ⟨p, hp, hf, hb⟩ => by simp only [List.mem_cons, List.not_mem_nil, or_false] at hp; rcases hp with rfl; exact .inl ⟨_, List.mem_cons_self, hb⟩) (fun hb => absurd hb.1 (by decide))) (List.forall_mem_cons.2 ⟨fun b hb => hb, (fun _ h => nomatch h)⟩) rfl) ?_ rfl rfl ?_
 ·refine Tq.va rfl (fun _ _ h1 h2 => zC QO (h1.ev rfl) (rdb h2 (vs := [(iv p0.X), (iv p0.Y)]) (k := 1) rfl 1) rfl) ?_
  exact Tq.fin (.cons rfl .nil)
 obtain ⟨QJ, zCy, H⟩ := bnd H
 refine Dr.one 3 (by kernel_rfl) ?_
 refine St.zF3 3 [0] [bx bq1 #[(.bool q1)] 4] (U := Unit) (fun u => (iv QJ.1)) (fun u => True) (fun u => [bx bq1 #[(.bool QJ.2)] 4]) rfl (zM rfl zY) (fun _ => rfl) (fun b ⟨e, he, hS⟩ => by simp only [List.mem_cons, List.not_mem_nil, or_false] at he; rcases he with rfl; exact .inl ⟨_, List.mem_cons_self, rfl, hS⟩) rfl (wn rfl) rfl rfl Tryz.call44 (zF rfl zO) (fun W hW hp hE => Vd p0.X q1 bq1 q2 Aq2_0 cq2_0 (zFB.ext (hW.QS hp)) Aq2_1 cq2_1 (zFA.ext (hW.QS hp)) bq2 ((hW.QS hp).r _ hb2) ((hW.QS hp).cells hb2 hc2) q3 bq3 ((hW.QS hp).r _ hb3) ((hW.QS hp).cells hb3 hc3) QJ zCy hE) ?_
 intro u hu hsy103
 show Dr _ _ _ _ _ _ _ _ _ (uf _ 7 (iv QJ.1)) (up _ 0 (bx bq1 #[(.bool QJ.2)] 4))
 refine Dr.tail (by kernel_rfl) ?_
 obtain ⟨zBf, hy105, H⟩ := bnd H
 refine Tr.zF3 [0] [bx bq1 #[(.bool QJ.2)] 4] (U := Unit) (fun u => (iv zBf.1)) (fun u => True) (fun u => [bx bq1 #[(.bool zBf.2)] 4]) rfl (zM rfl zY) (fun _ => rfl) (wn rfl) rfl rfl Tryz.call44 (zF rfl zO) (fun W hW hp hE => Vd p0.Y QJ.2 bq1 q2 Aq2_0 cq2_0 (zFB.ext (hW.QS hp)) Aq2_1 cq2_1 (zFA.ext (hW.QS hp)) bq2 ((hW.QS hp).r _ hb2) ((hW.QS hp).cells hb2 hc2) q3 bq3 ((hW.QS hp).r _ hb3) ((hW.QS hp).cells hb3 hc3) zBf hy105 hE) ?_
 intro u hu
 show Tr _ _ (uf _ 11 (iv zBf.1)) (up _ 0 (bx bq1 #[(.bool zBf.2)] 4)) _
 refine Tr.build (vs := [(0, (iv QJ.1)), (1, (iv zBf.1))]) (cs := [(iv QJ.1), (iv zBf.1)]) (wn rfl) rfl (zi rfl (zi rfl Qb)) (by kernel_rfl) ?_
 refine Tr.store 2 (cs := [(iv QJ.1), (iv zBf.1)]) [(iv QJ.1), (iv zBf.1)] (wn rfl) rfl rfl rfl rfl JB rfl rfl rfl ?_
 refine Tr.nil (Tr.zA (Tr.ret ?_))
 obtain rfl := Option.some.inj H
 exact Tr.out (m := [(.agg #[(iv QJ.1), (iv zBf.1)])]) [2] (Vm rfl rfl KF JB zQ) (fun W hW => ⟨(), rfl, trivial, HF.zHZ leB (hW.pick (ks := [0]) (by decide) (zM rfl zY)) ⟨zJb _ _ _, trivial⟩⟩)

theorem zBX {w : Bs} (p0 : zD) (QA : Option Addr) (QB : Nat) (QD : Option Addr) (QC : Nat) (QU : Sl w.R w.W zG QD QC p0.Steps) (Ae0 : Option Addr) (ce0 : Nat) (le0 : List zD) (ie0 : Nat) (hi0 : ie0 < le0.length) (bq0 : Nat) (bq1 : Nat) (q2 : Bool) (bq2 : Nat) (q3 : zt) (Aq3_0 : Option Addr) (cq3_0 : Nat) (zE9 : Sl w.R w.W zK Aq3_0 cq3_0 q3.Tools) (Aq3_1 : Option Addr) (cq3_1 : Nat) (zE8 : Sl w.R w.W zG Aq3_1 cq3_1 q3.Steps) (bq3 : Nat) (hb3 : w.R bq3) (hc3 : zL w.W bq3 0 [(iv q3.Unit), (.slice Aq3_0 q3.Tools.length cq3_0), (.slice Aq3_1 q3.Steps.length cq3_1)]) (q4 : Int) (bq4 : Nat) (hb4 : w.R bq4) (hc4 : zL w.W bq4 0 [(iv q4)]) (hb0 : w.R bq0) (hc0 : zL w.W bq0 0 [(.func (.func 66) #[] #[(.pointer (some ⟨bq1, 0, none⟩))])]) (hb1 : w.R bq1) (hc1 : zL w.W bq1 0 [(.func (.func 44) #[] #[(.pointer (some ⟨bq2, 0, none⟩)), (.pointer (some ⟨bq3, 0, none⟩)), (.pointer (some ⟨bq4, 0, none⟩))])]) (r : (Int × Int × (List zI) × Bool)) (H : Qw p0 q2 q3 q4 = some r) (hE : HF w w.W (LEn [ow Ae0 ce0 46 (mix zG) (zAz le0 ie0 (raw zG [(iv p0.Kind), (sv p0.Name), (iv p0.At.X), (iv p0.At.Y), (.slice QA p0.Points.length QB), (iv p0.NX), (iv p0.NY), (.slice QD p0.Steps.length QC)] rfl rfl)), ow QA QB 43 zy p0.Points, bx bq2 #[(.bool q2)] 4])) : Calls Tryz.prog 68 [(.pointer (some ⟨adB Ae0, adO Ae0 + ie0 * 8, none⟩)), (.pointer (some ⟨bq0, 0, none⟩))].toArray w.W fun e W' => ∃ (w' : Bs) (u : Unit), w.Le w' ∧ e = .returned (.tuple #[]) ∧ (r.2.2.1.length = p0.Points.length) ∧ HF w' W' (LEn [ow Ae0 ce0 46 (mix zG) (zAz le0 ie0 (raw zG [(iv p0.Kind), (sv p0.Name), (iv r.1), (iv r.2.1), (.slice QA r.2.2.1.length QB), (iv p0.NX), (iv p0.NY), (.slice QD p0.Steps.length QC)] rfl rfl)), ow QA QB 43 zy r.2.2.1, bx bq2 #[(.bool r.2.2.2)] 4]) := by
 unfold Qw at H
 have zB4 := (hE.sl (k := 1) rfl).form
 have leB := Bs.Le.refl w
 refine Tr.enter (n := 37) Tryz.func68 rfl rfl rfl hE ?_
 refine Tr.seq (Tr.zHL 7 [(6, fun x => x = bq2)] [] (by kernel_rfl) (by kernel_rfl) fun sz100 hlosz100 hEsz100 => ?_)
 refine Dr.Ji 0 (by kernel_rfl) rfl (wn rfl) rfl (by kernel_rfl) (fun _ _ h1 => run_move (h1.ev rfl)) rfl ?_
 refine Dr.quiet 1 [(5, (.func (.func 66) #[] #[(.pointer (some ⟨bq1, 0, none⟩))]))] (by kernel_rfl) rfl rfl (by kernel_rfl) ?_ rfl rfl ?_
 ·refine Tq.va rfl (fun _ _ h1 h2 => zC ag_123 (h1.ev rfl) (rdR hb0 hc0 h2) rfl) ?_
  exact Tq.fin (.cons rfl .nil)
 refine Dr.Ji 2 (by kernel_rfl) rfl (wn rfl) rfl (by kernel_rfl) (fun _ _ h1 => run_move (h1.ev rfl)) rfl ?_
 refine Dr.Ji 3 (by kernel_rfl) rfl (wn rfl) rfl (by kernel_rfl) (fun _ _ h1 => zb (h1.ev rfl)) rfl ?_
 refine Dr.Ji 4 (by kernel_rfl) rfl (wn rfl) rfl (by kernel_rfl) (fun _ _ h1 => zB zB6 (h1.ev rfl)) rfl ?_
 refine Dr.quiet 5 [(9, (.agg #[(iv p0.At.X), (iv p0.At.Y)]))] (by kernel_rfl) rfl rfl (by kernel_rfl) ?_ rfl rfl ?_
 ·refine Tq.va rfl (fun _ _ h1 h2 => zR (cs := [(iv p0.At.X), (iv p0.At.Y)]) KF JB (h1.ev rfl) (zL.take (zL.drop (rdm (cs := raw zG [(iv p0.Kind), (sv p0.Name), (iv p0.At.X), (iv p0.At.Y), (.slice QA p0.Points.length QB), (iv p0.NX), (iv p0.NY), (.slice QD p0.Steps.length QC)] rfl rfl) h2 (κ := 0) rfl hi0) 2) 2) rfl) ?_
  exact Tq.fin (.cons rfl .nil)
 obtain ⟨y101, hy101, H⟩ := bnd H
 refine Dr.one 6 (by kernel_rfl) ?_
 refine St.zF3 6 [2] [bx bq2 #[(.bool q2)] 4] (U := Unit) (fun u => (.agg #[(iv y101.1.X), (iv y101.1.Y)])) (fun u => True) (fun u => [bx bq2 #[(.bool y101.2)] 4]) rfl (zM rfl zY) (fun _ => rfl) (fun b ⟨e, he, hS⟩ => by simp only [List.mem_cons, List.not_mem_nil, or_false] at he; rcases he with rfl; exact .inl ⟨_, List.mem_cons_self, rfl, hS⟩) rfl (wn rfl) rfl rfl Tryz.call66 (zF rfl zO) (fun W hW hp hE => zA4 p0.At bq1 q2 bq2 q3 Aq3_0 cq3_0 (zE9.ext (hW.QS hp)) Aq3_1 cq3_1 (zE8.ext (hW.QS hp)) bq3 ((hW.QS hp).r _ hb3) ((hW.QS hp).cells hb3 hc3) q4 bq4 ((hW.QS hp).r _ hb4) ((hW.QS hp).cells hb4 hc4) ((hW.QS hp).r _ hb1) ((hW.QS hp).cells hb1 hc1) y101 hy101 hE) ?_
 intro u hu hsy101
 show Dr _ _ _ _ _ _ _ _ _ (uf _ 10 (.agg #[(iv y101.1.X), (iv y101.1.Y)])) (up _ 2 (bx bq2 #[(.bool y101.2)] 4))
 refine Dr.tail (by kernel_rfl) ?_
 refine Tr.va rfl (fun _ _ h1 h2 => zb (h1.ev rfl)) ?_
 refine Tr.va rfl (fun _ _ h1 h2 => zB zB6 (h1.ev rfl)) ?_
 refine Tr.zJs 0 (raw zG [(iv p0.Kind), (sv p0.Name), (iv y101.1.X), (iv y101.1.Y), (.slice QA p0.Points.length QB), (iv p0.NX), (iv p0.NY), (.slice QD p0.Steps.length QC)] rfl rfl) (cs := [(iv y101.1.X), (iv y101.1.Y)]) (fo := 2) (wn rfl) rfl rfl rfl rfl rfl hi0 JB rfl rfl rfl ?_
 refine Tr.nil (Tr.zA (Tr.sr (Tr.mv rfl rfl (Tr.va rfl (fun _ _ h1 h2 => zb (h1.ev rfl)) ?_))))
 refine Tr.va rfl (fun _ _ h1 h2 => zB zB5 (h1.ev rfl)) ?_
 refine Tr.va rfl (fun _ _ h1 h2 => zC zGU (h1.ev rfl) (zL.drop (rdm (cs := raw zG [(iv p0.Kind), (sv p0.Name), (iv y101.1.X), (iv y101.1.Y), (.slice QA p0.Points.length QB), (iv p0.NX), (iv p0.NY), (.slice QD p0.Steps.length QC)] rfl rfl) h2 (κ := 0) rfl hi0) 4) rfl) ?_
 refine Tr.va rfl (fun _ _ h1 h2 => zq zDn (h1.ev rfl)) ?_
 refine Tr.mv rfl rfl (Tr.nil (Tr.zA (Tr.block (Tr.loop (σ := (List zI) × Nat × Bool × (List zI)) (fun m w s => m = s.1.length + 1 ∧ s.1 = List.drop s.2.1 p0.Points ∧ s.2.1 ≤ p0.Points.length ∧ zl q3 q4 y101 s.1 s.2.1 s.2.2.1 s.2.2.2 = some r ∧ s.2.2.2.length = p0.Points.length) (fun s => [(0, (.pointer (some ⟨adB Ae0, adO Ae0 + ie0 * 8, none⟩))), (1, (.pointer (some ⟨bq0, 0, none⟩))), (17, (iv (p0.Points.length : Int))), (18, (iv (s.2.1 : Int)))]) (fun s => [(0, ow Ae0 ce0 46 (mix zG) (zAz le0 ie0 (raw zG [(iv p0.Kind), (sv p0.Name), (iv y101.1.X), (iv y101.1.Y), (.slice QA s.2.2.2.length QB), (iv p0.NX), (iv p0.NY), (.slice QD p0.Steps.length QC)] rfl rfl))), (1, ow QA QB 43 zy s.2.2.2), (2, bx bq2 #[(.bool s.2.2.1)] 4)]) (p0.Points.length + 1) (p0.Points, 0, y101.2, p0.Points) ⟨rfl, rfl, Nat.zero_le _, H, rfl⟩ (.cons rfl (.cons rfl (.cons rfl (.cons rfl .nil)))) (.cons rfl (.cons rfl (.cons rfl .nil))) (fun _ _ h => absurd h.1 (by simp)) ?_))))
 intro w QW m s hs
 obtain ⟨QF, iL1, x124, zHa⟩ := s
 obtain ⟨KJ, QP, hiL1, H, hl125⟩ := hs
 replace QP : QF = List.drop iL1 p0.Points := QP
 replace H : zl q3 q4 y101 QF iL1 x124 zHa = some r := H
 replace KJ : m + 1 = QF.length + 1 := KJ
 replace hc0 := QW.ext.cells hb0 hc0
 replace hb0 := QW.r _ hb0
 replace hc1 := QW.ext.cells hb1 hc1
 replace hb1 := QW.r _ hb1
 replace hc3 := QW.ext.cells hb3 hc3
 replace hb3 := QW.r _ hb3
 replace zE9 := zE9.leR QW
 replace zE8 := zE8.leR QW
 replace hc4 := QW.ext.cells hb4 hc4
 replace hb4 := QW.r _ hb4
 replace leB := leB.trans QW
 replace hl125 : zHa.length = p0.Points.length := hl125
 have hfl125 : SlF QA zHa.length QB := (by rw [hl125]; exact zB4)
 obtain rfl : m = QF.length := by omega
 clear KJ
 show Tr _ _ (LF [(0, (.pointer (some ⟨adB Ae0, adO Ae0 + ie0 * 8, none⟩))), (1, (.pointer (some ⟨bq0, 0, none⟩))), (17, (iv (p0.Points.length : Int))), (18, (iv (iL1 : Int)))]) (LE [(0, ow Ae0 ce0 46 (mix zG) (zAz le0 ie0 (raw zG [(iv p0.Kind), (sv p0.Name), (iv y101.1.X), (iv y101.1.Y), (.slice QA zHa.length QB), (iv p0.NX), (iv p0.NY), (.slice QD p0.Steps.length QC)] rfl rfl))), (1, ow QA QB 43 zy zHa), (2, bx bq2 #[(.bool x124)] 4)]) _
 cases QF with
 | nil =>
  rw [zl.eq_1] at H
  refine Tr.sr (Tr.va rfl (fun _ _ h1 h2 => zz (h1.ev rfl) (h1.ev rfl)) ?_)
  refine Tr.nil (Tr.zA (Tr.seq (Tr.WJ rfl (Qy QP) ?_)))
  refine Tr.exit (Tr.zX (Tr.zX (Tr.zAC (Tr.offEnd ?_))))
  obtain rfl := Option.some.inj H
  exact Tr.out (m := []) [] zQ (fun W hW => ⟨w, (), leB, rfl, hl125, hW.pick (ks := [0, 1, 2]) (by decide) (zM rfl (zM rfl (zM rfl zY)))⟩)
 | cons xL1 QF =>
  rw [zl.eq_2] at H
  refine Tr.sr (Tr.va rfl (fun _ _ h1 h2 => zz (h1.ev rfl) (h1.ev rfl)) ?_)
  refine Tr.nil (Tr.zA (Tr.seq (Tr.WI rfl (Jg QP) ?_)))
  refine Tr.skip (Tr.zA (Tr.seq (Tr.block (Tr.sr (Tr.mv rfl rfl (Tr.asg rfl rfl (Tr.nil (Tr.zA (Tr.zHL 14 [(13, fun x => x = bq2)] [] (by kernel_rfl) (by kernel_rfl) fun sz126 hlosz126 hEsz126 => ?_)))))))))
  refine Dr.Ji 0 (by kernel_rfl) rfl (wn rfl) rfl (by kernel_rfl) (fun _ _ h1 => run_move (h1.ev rfl)) rfl ?_
  refine Dr.Ji 1 (by kernel_rfl) rfl (wn rfl) rfl (by kernel_rfl) (fun _ _ h1 => zb (h1.ev rfl)) rfl ?_
  refine Dr.Ji 2 (by kernel_rfl) rfl (wn rfl) rfl (by kernel_rfl) (fun _ _ h1 => zB zB5 (h1.ev rfl)) rfl ?_
  refine Dr.Vn 3 [(24, (.slice QA zHa.length QB))] [13] false (by kernel_rfl) rfl rfl (by kernel_rfl) (fun W W' h2 hsW hk => HF.zBN (le := [(0, ow Ae0 ce0 46 (mix zG) (zAz le0 ie0 (raw zG [(iv p0.Kind), (sv p0.Name), (iv y101.1.X), (iv y101.1.Y), (.slice QA zHa.length QB), (iv p0.NX), (iv p0.NY), (.slice QD p0.Steps.length QC)] rfl rfl)))]) (ks := [(2, fun x => x = bq2)]) (s0 := sz126) false h2 hk (fun h => absurd h (by decide)) (.cons rfl .nil) (fun b hb => hb.elim (fun ⟨p, hp, hf, hb⟩ => by simp only [List.mem_cons, List.not_mem_nil, or_false] at hp; rcases hp with rfl; exact .inl ⟨_, List.mem_cons_self, hb⟩) (fun hb => absurd hb.1 (by decide))) (List.forall_mem_cons.2 ⟨fun b hb => hb, (fun _ h => nomatch h)⟩) rfl) ?_ rfl rfl ?_
  ·refine Tq.va rfl (fun _ _ h1 h2 => zC zGU (h1.ev rfl) (zL.drop (rdm (cs := raw zG [(iv p0.Kind), (sv p0.Name), (iv y101.1.X), (iv y101.1.Y), (.slice QA zHa.length QB), (iv p0.NX), (iv p0.NY), (.slice QD p0.Steps.length QC)] rfl rfl) h2 (κ := 0) rfl hi0) 4) rfl) ?_
   exact Tq.fin (.cons rfl .nil)
  refine Dr.Ji 4 (by kernel_rfl) rfl (wn rfl) rfl (by kernel_rfl) (fun _ _ h1 => run_move (h1.ev rfl)) rfl ?_
  refine Dr.quiet 5 [(26, (.func (.func 66) #[] #[(.pointer (some ⟨bq1, 0, none⟩))]))] (by kernel_rfl) rfl rfl (by kernel_rfl) ?_ rfl rfl ?_
  ·refine Tq.va rfl (fun _ _ h1 h2 => zC ag_123 (h1.ev rfl) (rdR hb0 hc0 h2) rfl) ?_
   exact Tq.fin (.cons rfl .nil)
  refine Dr.Ji 6 (by kernel_rfl) rfl (wn rfl) rfl (by kernel_rfl) (fun _ _ h1 => run_move (h1.ev rfl)) rfl ?_
  refine Dr.Ji 7 (by kernel_rfl) rfl (wn rfl) rfl (by kernel_rfl) (fun _ _ h1 => zb (h1.ev rfl)) rfl ?_
  refine Dr.Ji 8 (by kernel_rfl) rfl (wn rfl) rfl (by kernel_rfl) (fun _ _ h1 => zB zB5 (h1.ev rfl)) rfl ?_
  refine Dr.Vn 9 [(30, (.slice QA zHa.length QB))] [13] false (by kernel_rfl) rfl rfl (by kernel_rfl) (fun W W' h2 hsW hk => HF.zBN (le := [(0, ow Ae0 ce0 46 (mix zG) (zAz le0 ie0 (raw zG [(iv p0.Kind), (sv p0.Name), (iv y101.1.X), (iv y101.1.Y), (.slice QA zHa.length QB), (iv p0.NX), (iv p0.NY), (.slice QD p0.Steps.length QC)] rfl rfl)))]) (ks := [(2, fun x => x = bq2)]) (s0 := sz126) false h2 hk (fun h => absurd h (by decide)) (.cons rfl .nil) (fun b hb => hb.elim (fun ⟨p, hp, hf, hb⟩ => by simp only [List.mem_cons, List.not_mem_nil, or_false] at hp; rcases hp with rfl; exact .inl ⟨_, List.mem_cons_self, hb⟩) (fun hb => absurd hb.1 (by decide))) (List.forall_mem_cons.2 ⟨fun b hb => hb, (fun _ h => nomatch h)⟩) rfl) ?_ rfl rfl ?_
  ·refine Tq.va rfl (fun _ _ h1 h2 => zC zGU (h1.ev rfl) (zL.drop (rdm (cs := raw zG [(iv p0.Kind), (sv p0.Name), (iv y101.1.X), (iv y101.1.Y), (.slice QA zHa.length QB), (iv p0.NX), (iv p0.NY), (.slice QD p0.Steps.length QC)] rfl rfl) h2 (κ := 0) rfl hi0) 4) rfl) ?_
   exact Tq.fin (.cons rfl .nil)
  refine Dr.Ji 10 (by kernel_rfl) rfl (wn rfl) rfl (by kernel_rfl) (fun _ _ h1 => run_move (h1.ev rfl)) rfl ?_
  obtain ⟨x127, hx127, H⟩ := bnd H
  obtain ⟨hx1270, hx1271, hx1272⟩ := zh hx127
  refine Dr.Ji 11 (by kernel_rfl) rfl (wn rfl) rfl (by kernel_rfl) (fun _ _ h1 => zH zHz (h1.ev rfl) hfl125 (h1.ev rfl) hx1270 hx1271) rfl ?_
  refine Dr.quiet 12 [(33, (.agg #[(iv x127.X), (iv x127.Y)]))] (by kernel_rfl) rfl rfl (by kernel_rfl) ?_ rfl rfl ?_
  ·refine Tq.va rfl (fun _ _ h1 h2 => zR (cs := [(iv x127.X), (iv x127.Y)]) KF JB (h1.ev rfl) (zL.take (rdo zAm (k := 1) h2 rfl hx1272) 2) rfl) ?_
   exact Tq.fin (.cons rfl .nil)
  obtain ⟨zHf, hy128, H⟩ := bnd H
  refine Dr.one 13 (by kernel_rfl) ?_
  refine St.zF3 13 [2] [bx bq2 #[(.bool x124)] 4] (U := Unit) (fun u => (.agg #[(iv zHf.1.X), (iv zHf.1.Y)])) (fun u => True) (fun u => [bx bq2 #[(.bool zHf.2)] 4]) rfl (zM rfl zY) (fun _ => rfl) (fun b ⟨e, he, hS⟩ => by simp only [List.mem_cons, List.not_mem_nil, or_false] at he; rcases he with rfl; exact .inl ⟨_, List.mem_cons_self, rfl, hS⟩) rfl (wn rfl) rfl rfl Tryz.call66 (zF rfl zO) (fun W hW hp hE => zA4 x127 bq1 x124 bq2 q3 Aq3_0 cq3_0 (zE9.ext (hW.QS hp)) Aq3_1 cq3_1 (zE8.ext (hW.QS hp)) bq3 ((hW.QS hp).r _ hb3) ((hW.QS hp).cells hb3 hc3) q4 bq4 ((hW.QS hp).r _ hb4) ((hW.QS hp).cells hb4 hc4) ((hW.QS hp).r _ hb1) ((hW.QS hp).cells hb1 hc1) zHf hy128 hE) ?_
  intro u hu hsy128
  show Dr _ _ _ _ _ _ _ _ _ (uf _ 34 (.agg #[(iv zHf.1.X), (iv zHf.1.Y)])) (up _ 2 (bx bq2 #[(.bool zHf.2)] 4))
  refine Dr.tail (by kernel_rfl) ?_
  obtain ⟨x130, hx130, H⟩ := bnd H
  obtain ⟨hx1300, hx1301, hx1302⟩ := zh hx130
  refine Tr.va rfl (fun _ _ h1 h2 => zH zHz (h1.ev rfl) hfl125 (h1.ev rfl) hx1300 hx1301) ?_
  obtain ⟨l131, hl131, H⟩ := bnd H
  have hnl131 := zGD hl131
  refine Tr.zGh 1 (t := zy) (l := zHa) (i := (iL1 : Int)) (fo := 0) (cs := [(iv zHf.1.X), (iv zHf.1.Y)]) zHf.1 (wn rfl) rfl rfl rfl rfl rfl hx1302 JB rfl (fun u _ => ⟨u, trivial, rfl⟩) rfl hl131 ?_
  have hfl131 : SlF QA l131.length QB := by rw [hnl131]; exact hfl125
  have hsl131 := hnl131.trans hl125
  refine Tr.sel (lf := [(0, (.pointer (some ⟨adB Ae0, adO Ae0 + ie0 * 8, none⟩))), (1, (.pointer (some ⟨bq0, 0, none⟩))), (3, (iv (iL1 : Int))), (17, (iv (p0.Points.length : Int))), (18, (iv (iL1 : Int))), (19, (.bool (decide ((iL1 : Int) < (p0.Points.length : Int))))), (20, (iv (iL1 : Int))), (21, (.pointer (some ⟨adB Ae0, adO Ae0 + ie0 * 8, none⟩))), (22, (.pointer (some ⟨adB Ae0, adO Ae0 + ie0 * 8, none⟩))), (23, (.pointer (some ⟨adB Ae0, adO Ae0 + ie0 * 8 + 4, none⟩))), (24, (.slice QA l131.length QB)), (25, (iv (iL1 : Int))), (26, (.func (.func 66) #[] #[(.pointer (some ⟨bq1, 0, none⟩))])), (27, (.pointer (some ⟨adB Ae0, adO Ae0 + ie0 * 8, none⟩))), (28, (.pointer (some ⟨adB Ae0, adO Ae0 + ie0 * 8, none⟩))), (29, (.pointer (some ⟨adB Ae0, adO Ae0 + ie0 * 8 + 4, none⟩))), (30, (.slice QA l131.length QB)), (31, (iv (iL1 : Int))), (33, (.agg #[(iv x127.X), (iv x127.Y)])), (34, (.agg #[(iv zHf.1.X), (iv zHf.1.Y)]))]) (le := [(0, ow Ae0 ce0 46 (mix zG) (zAz le0 ie0 (raw zG [(iv p0.Kind), (sv p0.Name), (iv y101.1.X), (iv y101.1.Y), (.slice QA l131.length QB), (iv p0.NX), (iv p0.NY), (.slice QD p0.Steps.length QC)] rfl rfl))), (1, ow QA QB 43 zy l131), (2, bx bq2 #[(.bool zHf.2)] 4)]) (.cons rfl (.cons rfl (.cons rfl (.cons rfl (.cons rfl (.cons rfl (.cons rfl (.cons rfl (.cons rfl (.cons rfl (.cons (VH rfl (by rw [hnl131])) (.cons rfl (.cons rfl (.cons rfl (.cons rfl (.cons rfl (.cons (VH rfl (by rw [hnl131])) (.cons rfl (.cons rfl (.cons rfl .nil)))))))))))))))))))) (.cons (emix rfl (by rw [hnl131])) (.cons rfl (.cons rfl .nil))) ?_
  refine Tr.nil (Tr.zW (Tr.zA ?_))
  refine Tr.region (Tr.va rfl (fun _ _ h1 h2 => zx (h1.ev rfl) (h1.ev rfl)) ?_)
  exact Tr.mv rfl rfl (Tr.nil (Tr.zZ QW (QF, (iL1 + 1), zHf.2, l131) ⟨rfl, Qg QP, zo QP, H, hsl131⟩ (.cons rfl (.cons rfl (.cons rfl (.cons (congrArg (fun z => some (Value.int .i64 z)) (Qf QP zB4)) .nil)))) (.cons rfl (.cons rfl (.cons rfl .nil)))))

theorem zAY (N : Nat) (rec : (List zD) → Bool → zt → Int → Option ((List zD) × Bool)) (hrec : ∀ {w : Bs} (p0 : (List zD)) (QA : Option Addr) (QB : Nat) (QE : Sl w.O w.W zG QA QB p0) (bq0 : Nat) (bq1 : Nat) (q2 : Bool) (bq2 : Nat) (q3 : zt) (Aq3_0 : Option Addr) (cq3_0 : Nat) (zE9 : Sl w.R w.W zK Aq3_0 cq3_0 q3.Tools) (Aq3_1 : Option Addr) (cq3_1 : Nat) (zE8 : Sl w.R w.W zG Aq3_1 cq3_1 q3.Steps) (bq3 : Nat) (hb3 : w.R bq3) (hc3 : zL w.W bq3 0 [(iv q3.Unit), (.slice Aq3_0 q3.Tools.length cq3_0), (.slice Aq3_1 q3.Steps.length cq3_1)]) (q4 : Int) (bq4 : Nat) (hb4 : w.R bq4) (hc4 : zL w.W bq4 0 [(iv q4)]) (hb0 : w.R bq0) (hc0 : zL w.W bq0 0 [(.func (.func 66) #[] #[(.pointer (some ⟨bq1, 0, none⟩))])]) (hb1 : w.R bq1) (hc1 : zL w.W bq1 0 [(.func (.func 44) #[] #[(.pointer (some ⟨bq2, 0, none⟩)), (.pointer (some ⟨bq3, 0, none⟩)), (.pointer (some ⟨bq4, 0, none⟩))])]) (r : ((List zD) × Bool)) (H : rec p0 q2 q3 q4 = some r) (hE : HF w w.W (LEn [bx bq2 #[(.bool q2)] 4, emp])), Calls Tryz.prog 33 [(.slice QA p0.length QB), (.func (.func 68) #[] #[(.pointer (some ⟨bq0, 0, none⟩))])].toArray w.W fun e W' => ∃ (w' : Bs) (u : (Option Addr × Nat)), w.Le w' ∧ e = .returned (.slice u.1 r.1.length u.2) ∧ (SlF u.1 r.1.length u.2) ∧ HF w' W' (LEn [bx bq2 #[(.bool r.2)] 4, ow u.1 u.2 46 zG r.1])) {w : Bs} (p0 : (List zD)) (QA : Option Addr) (QB : Nat) (QE : Sl w.O w.W zG QA QB p0) (bq0 : Nat) (bq1 : Nat) (q2 : Bool) (bq2 : Nat) (q3 : zt) (Aq3_0 : Option Addr) (cq3_0 : Nat) (zE9 : Sl w.R w.W zK Aq3_0 cq3_0 q3.Tools) (Aq3_1 : Option Addr) (cq3_1 : Nat) (zE8 : Sl w.R w.W zG Aq3_1 cq3_1 q3.Steps) (bq3 : Nat) (hb3 : w.R bq3) (hc3 : zL w.W bq3 0 [(iv q3.Unit), (.slice Aq3_0 q3.Tools.length cq3_0), (.slice Aq3_1 q3.Steps.length cq3_1)]) (q4 : Int) (bq4 : Nat) (hb4 : w.R bq4) (hc4 : zL w.W bq4 0 [(iv q4)]) (hb0 : w.R bq0) (hc0 : zL w.W bq0 0 [(.func (.func 66) #[] #[(.pointer (some ⟨bq1, 0, none⟩))])]) (hb1 : w.R bq1) (hc1 : zL w.W bq1 0 [(.func (.func 44) #[] #[(.pointer (some ⟨bq2, 0, none⟩)), (.pointer (some ⟨bq3, 0, none⟩)), (.pointer (some ⟨bq4, 0, none⟩))])]) (r : ((List zD) × Bool)) (H : zAG N rec p0 q2 q3 q4 = some r) (hE : HF w w.W (LEn [bx bq2 #[(.bool q2)] 4, emp])) : Calls Tryz.prog 33 [(.slice QA p0.length QB), (.func (.func 68) #[] #[(.pointer (some ⟨bq0, 0, none⟩))])].toArray w.W fun e W' => ∃ (w' : Bs) (u : (Option Addr × Nat)), w.Le w' ∧ e = .returned (.slice u.1 r.1.length u.2) ∧ (SlF u.1 r.1.length u.2) ∧ HF w' W' (LEn [bx bq2 #[(.bool r.2)] 4, ow u.1 u.2 46 zG r.1]) := by
 unfold zAG at H
 have leB := Bs.Le.refl w
 refine Tr.enter (n := 42) Tryz.func33 rfl rfl rfl hE ?_
 refine Tr.sr (Tr.asg rfl rfl (Tr.JS 1 46 zG ?_))
 show Tr _ _ (uf _ 4 (.slice none (([] : List zD)).length 0)) _ _
 refine Tr.nil (Tr.zA (Tr.sr (Tr.mv rfl rfl ?_)))
 obtain ⟨QT, zBp, H⟩ := bnd H
 refine Tr.VQ [2] [emp] (U := (Option Addr × Nat)) (fun u => (.slice u.1 QT.length u.2)) (fun O W u => SlF u.1 QT.length u.2) (fun u => [ow u.1 u.2 46 zG QT]) rfl (zM rfl zY) (fun _ => rfl) (wn rfl) rfl Tryz.call14 (zF rfl zO) (fun W hW hp hE => zFK p0 QA QB (QE.zAl (hW.QS hp)) QT zBp hE) ?_
 intro w u zAj hu
 obtain ⟨QY, QX⟩ := u
 have gy100_0 := hu
 replace hc0 := zAj.ext.cells hb0 hc0
 replace hb0 := zAj.r _ hb0
 replace hc1 := zAj.ext.cells hb1 hc1
 replace hb1 := zAj.r _ hb1
 replace hc3 := zAj.ext.cells hb3 hc3
 replace hb3 := zAj.r _ hb3
 replace zE9 := zE9.leR zAj
 replace zE8 := zE8.leR zAj
 replace hc4 := zAj.ext.cells hb4 hc4
 replace hb4 := zAj.r _ hb4
 replace leB := leB.trans zAj
 have zBq : SlF QY QT.length QX := gy100_0 --@phi
 show Tr _ _ (uf _ 8 (.slice QY QT.length QX)) (up _ 2 (ow QY QX 46 zG QT)) _
 refine Tr.asg rfl rfl (Tr.nil (Tr.zA (Tr.seq (Tr.sr (Tr.mv rfl rfl (Tr.va rfl (fun _ _ h1 h2 => zq zGC (h1.ev rfl)) ?_))))))
 refine Tr.mv rfl rfl (Tr.nil (Tr.zA (Tr.block (Tr.loop (σ := Bool × (List zD) × Int × (Option Addr) × Nat) (fun m w s => zk q3 q4 rec QT m s.1 s.2.1 s.2.2.1 = some r ∧ SlF s.2.2.2.1 s.2.1.length s.2.2.2.2) (fun s => [(1, (.func (.func 68) #[] #[(.pointer (some ⟨bq0, 0, none⟩))])), (5, (.slice s.2.2.2.1 s.2.1.length s.2.2.2.2)), (10, (iv (QT.length : Int))), (11, (iv s.2.2.1))]) (fun s => [(0, bx bq2 #[(.bool s.1)] 4), (2, ow s.2.2.2.1 s.2.2.2.2 46 zG s.2.1)]) N (q2, QT, 0, QY, QX) ⟨H, zBq⟩ (.cons rfl (.cons rfl (.cons rfl (.cons rfl .nil)))) (.cons rfl (.cons rfl .nil)) (fun _ _ h => zAi (h.1)) ?_))))
 intro w QW mL1 s hs
 obtain ⟨x157, zBh, x159, Vf, zA2⟩ := s
 obtain ⟨H, zKE⟩ := hs
 replace H : zk q3 q4 rec QT (mL1 + 1) x157 zBh x159 = some r := H
 replace hc0 := QW.ext.cells hb0 hc0
 replace hb0 := QW.r _ hb0
 replace hc1 := QW.ext.cells hb1 hc1
 replace hb1 := QW.r _ hb1
 replace hc3 := QW.ext.cells hb3 hc3
 replace hb3 := QW.r _ hb3
 replace zE9 := zE9.leR QW
 replace zE8 := zE8.leR QW
 replace hc4 := QW.ext.cells hb4 hc4
 replace hb4 := QW.r _ hb4
 replace leB := leB.trans QW
 replace zKE : SlF Vf zBh.length zA2 := zKE
 rw [zk.eq_2] at H
 show Tr _ _ (LF [(1, (.func (.func 68) #[] #[(.pointer (some ⟨bq0, 0, none⟩))])), (5, (.slice Vf zBh.length zA2)), (10, (iv (QT.length : Int))), (11, (iv x159))]) (LE [(0, bx bq2 #[(.bool x157)] 4), (2, ow Vf zA2 46 zG zBh)]) _
 refine Tr.sr (Tr.va rfl (fun _ _ h1 h2 => zz (h1.ev rfl) (h1.ev rfl)) ?_)
 refine Tr.nil (Tr.zA (Tr.seq (Tr.cond rfl H (fun H => ?_) (fun H => ?_))))
 ·refine Tr.skip (Tr.zA (Tr.seq (Tr.block (Tr.sr (Tr.mv rfl rfl (Tr.asg rfl rfl (Tr.nil (Tr.zA (Tr.sr (Tr.mv rfl rfl ?_))))))))))
  refine Tr.mv rfl rfl (Tr.mv rfl rfl (Tr.mv rfl rfl ?_))
  obtain ⟨x160, hx160, H⟩ := bnd H
  obtain ⟨hx1600, hx1601, hx1602⟩ := zh hx160
  refine Tr.va rfl (fun _ _ h1 h2 => zH zH0 (h1.ev rfl) zKE (h1.ev rfl) hx1600 hx1601) ?_
  refine Tr.va rfl (fun _ _ h1 h2 => zB zB5 (h1.ev rfl)) ?_
  refine Tr.valE (U := (zG).Ad) (fun u => (zG).ok w.O w.W u x160) (fun u => (.slice u.1.1 x160.Points.length u.1.2)) (wn rfl) rfl (ldN (κ := 2) (t := zG) (V := fun u => (.slice u.1.1 x160.Points.length u.1.2)) rfl hx1602 (fun _ _ u h1 hc => zC zGU (h1.ev rfl) (hc.drop 4) rfl)) ?_
  intro u161 hoku161
  obtain ⟨⟨zKl, zKU⟩, ⟨Au161_1, cu161_1⟩⟩ := u161
  obtain ⟨hoku161_0, hoku161_1⟩ := Vh.1 hoku161
  replace hoku161_0 : Sl w.O w.W zy zKl zKU x160.Points := hoku161_0
  show Tr _ _ (uf _ 20 (.slice zKl x160.Points.length zKU)) _ _
  obtain ⟨zHU, hy162, H⟩ := bnd H
  refine Tr.VP [7] [emp] (U := (Option Addr × Nat)) (fun u => (.slice u.1 zHU.length u.2)) (fun u => SlF u.1 zHU.length u.2) (fun u => [ow u.1 u.2 43 zy zHU]) rfl (zM rfl zY) (fun _ => rfl) (wn rfl) rfl Tryz.call57 (zF rfl zO) (fun W hW hp hE => zGV x160.Points zKl zKU (hoku161_0.rl.ext (hW.QS hp)) zHU hy162 hE) ?_
  intro u hu
  obtain ⟨Vz, Vv⟩ := u
  have gy162_0 := hu
  have hgy162_0 : SlF Vz zHU.length Vv := gy162_0 --@phi
  show Tr _ _ (uf _ 21 (.slice Vz zHU.length Vv)) (up _ 7 (ow Vz Vv 43 zy zHU)) _
  obtain ⟨Qn, hx164, H⟩ := bnd H
  obtain ⟨hx1640, hx1641, hx1642⟩ := zh hx164
  refine Tr.va rfl (fun _ _ h1 h2 => zH zH0 (h1.ev rfl) zKE (h1.ev rfl) hx1640 hx1641) ?_
  refine Tr.va rfl (fun _ _ h1 h2 => zB zB5 (h1.ev rfl)) ?_
  refine Tr.mixOpen 2 rfl hx1642 ?_
  intro u165 zKD
  obtain ⟨⟨zDj, zDc⟩, ⟨zHE, zG1⟩⟩ := u165
  obtain ⟨zB3, hoku165_1⟩ := Vh.1 zKD
  replace hoku165_1 : Sl w.O w.W zG zHE zG1 Qn.Steps := hoku165_1
  show Tr _ _ _ (up _ 2 (ow Vf zA2 46 (mix zG) (zAz zBh (x159).toNat (raw zG [(iv Qn.Kind), (sv Qn.Name), (iv Qn.At.X), (iv Qn.At.Y), (.slice zDj Qn.Points.length zDc), (iv Qn.NX), (iv Qn.NY), (.slice zHE Qn.Steps.length zG1)] rfl rfl)))) _
  refine Tr.zJs 2 (raw zG [(iv Qn.Kind), (sv Qn.Name), (iv Qn.At.X), (iv Qn.At.Y), (.slice Vz zHU.length Vv), (iv Qn.NX), (iv Qn.NY), (.slice zHE Qn.Steps.length zG1)] rfl rfl) (cs := [(.slice Vz zHU.length Vv)]) (fo := 4) (wn rfl) rfl rfl rfl rfl rfl (List.getElem?_eq_some_iff.1 hx1642).1 sz_44 rfl rfl rfl ?_
  refine Tr.nil (Tr.zA (Tr.sr (Tr.mv rfl rfl (Tr.mv rfl rfl (Tr.mv rfl rfl (Tr.mv rfl rfl ?_))))))
  obtain ⟨x166, hx166, H⟩ := bnd H
  obtain ⟨hx1660, hx1661, hx1662⟩ := zh hx166
  refine Tr.va rfl (fun _ _ h1 h2 => zH zH0 (h1.ev rfl) zKE (h1.ev rfl) hx1660 hx1661) ?_
  refine Tr.va rfl (fun _ _ h1 h2 => zB zC1 (h1.ev rfl)) ?_
  refine Tr.va rfl (fun _ _ h1 h2 => zC zDu (h1.ev rfl) (zL.drop (rdm (cs := raw zG [(iv Qn.Kind), (sv Qn.Name), (iv Qn.At.X), (iv Qn.At.Y), (.slice Vz zHU.length Vv), (iv Qn.NX), (iv Qn.NY), (.slice zHE Qn.Steps.length zG1)] rfl rfl) h2 (κ := 2) rfl (List.getElem?_eq_some_iff.1 hx1662).1) 7) rfl) ?_
  refine Tr.mv rfl rfl ?_
  obtain ⟨y167, hy167, H⟩ := bnd H
  refine Tr.VQ [0, 8] [bx bq2 #[(.bool x157)] 4, emp] (U := (Option Addr × Nat)) (fun u => (.slice u.1 y167.1.length u.2)) (fun O W u => SlF u.1 y167.1.length u.2) (fun u => [bx bq2 #[(.bool y167.2)] 4, ow u.1 u.2 46 zG y167.1]) rfl (zM rfl (zM rfl zY)) (fun _ => rfl) (wn rfl) rfl Tryz.call33 (zF rfl (zF rfl zO)) (fun W hW hp hE => hrec Qn.Steps zHE zG1 (hoku165_1.zAl (hW.QS hp)) bq0 bq1 x157 bq2 q3 Aq3_0 cq3_0 (zE9.ext (hW.QS hp)) Aq3_1 cq3_1 (zE8.ext (hW.QS hp)) bq3 ((hW.QS hp).r _ hb3) ((hW.QS hp).cells hb3 hc3) q4 bq4 ((hW.QS hp).r _ hb4) ((hW.QS hp).cells hb4 hc4) ((hW.QS hp).r _ hb0) ((hW.QS hp).cells hb0 hc0) ((hW.QS hp).r _ hb1) ((hW.QS hp).cells hb1 hc1) y167 hy167 hE) ?_
  intro w u zHp hu
  obtain ⟨zBd, zBb⟩ := u
  have gy167_0 := hu
  replace hc0 := zHp.ext.cells hb0 hc0
  replace hb0 := zHp.r _ hb0
  replace hc1 := zHp.ext.cells hb1 hc1
  replace hb1 := zHp.r _ hb1
  replace hc3 := zHp.ext.cells hb3 hc3
  replace hb3 := zHp.r _ hb3
  replace zE9 := zE9.leR zHp
  replace zE8 := zE8.leR zHp
  replace hc4 := zHp.ext.cells hb4 hc4
  replace hb4 := zHp.r _ hb4
  replace QW := QW.trans zHp
  have hgy167_0 : SlF zBd y167.1.length zBb := gy167_0 --@phi
  show Tr _ _ (uf _ 32 (.slice zBd y167.1.length zBb)) (up (up _ 8 (ow zBd zBb 46 zG y167.1)) 0 (bx bq2 #[(.bool y167.2)] 4)) _
  obtain ⟨x169, hx169, H⟩ := bnd H
  obtain ⟨hx1690, hx1691, hx1692⟩ := zh hx169
  refine Tr.va rfl (fun _ _ h1 h2 => zH zH0 (h1.ev rfl) zKE (h1.ev rfl) hx1690 hx1691) ?_
  refine Tr.va rfl (fun _ _ h1 h2 => zB zC1 (h1.ev rfl)) ?_
  refine Tr.zJs 2 (raw zG [(iv Qn.Kind), (sv Qn.Name), (iv Qn.At.X), (iv Qn.At.Y), (.slice Vz zHU.length Vv), (iv Qn.NX), (iv Qn.NY), (.slice zBd y167.1.length zBb)] rfl rfl) (cs := [(.slice zBd y167.1.length zBb)]) (fo := 7) (wn rfl) rfl rfl rfl rfl rfl (List.getElem?_eq_some_iff.1 hx1692).1 sz_23 rfl rfl rfl ?_
  refine Tr.nil (Tr.zA (Tr.region (Tr.mv rfl rfl (Tr.mv rfl rfl (Tr.mv rfl rfl ?_)))))
  obtain ⟨zEt, hx170, H⟩ := bnd H
  obtain ⟨hx1700, hx1701, hx1702⟩ := zh hx170
  refine Tr.va rfl (fun _ _ h1 h2 => zH zH0 (h1.ev rfl) zKE (h1.ev rfl) hx1700 hx1701) ?_
  obtain ⟨VE, hy171, H⟩ := bnd H
  refine Tr.callGC [2, 7, 0] [ow Vf zA2 46 (mix zG) (zAz zBh (x159).toNat (raw zG [(iv Qn.Kind), (sv Qn.Name), (iv Qn.At.X), (iv Qn.At.Y), (.slice Vz zHU.length Vv), (iv Qn.NX), (iv Qn.NY), (.slice zBd y167.1.length zBb)] rfl rfl)), ow Vz Vv 43 zy zHU, bx bq2 #[(.bool y167.2)] 4] (U := Unit) (fun u => (.tuple #[])) (fun O W u => VE.2.2.1.length = zHU.length) (fun u => [ow Vf zA2 46 (mix zG) (zAz zBh (x159).toNat (raw zG [(iv Qn.Kind), (sv Qn.Name), (iv VE.1), (iv VE.2.1), (.slice Vz VE.2.2.1.length Vv), (iv Qn.NX), (iv Qn.NY), (.slice zBd y167.1.length zBb)] rfl rfl)), ow Vz Vv 43 zy VE.2.2.1, bx bq2 #[(.bool VE.2.2.2)] 4]) rfl (zM rfl (zM rfl (zM rfl zY))) (fun _ => rfl) (wn rfl) rfl rfl Tryz.call68 (zF rfl zO) (fun W hW hp hE => zBX (zD.mk Qn.Kind Qn.Name Qn.At zHU Qn.NX Qn.NY y167.1) Vz Vv zBd zBb (hW.slS (k := 8) rfl hp rfl) Vf zA2 zBh ((x159).toNat) (List.getElem?_eq_some_iff.1 hx1702).1 bq0 bq1 y167.2 bq2 q3 Aq3_0 cq3_0 (zE9.ext (hW.QS hp)) Aq3_1 cq3_1 (zE8.ext (hW.QS hp)) bq3 ((hW.QS hp).r _ hb3) ((hW.QS hp).cells hb3 hc3) q4 bq4 ((hW.QS hp).r _ hb4) ((hW.QS hp).cells hb4 hc4) ((hW.QS hp).r _ hb0) ((hW.QS hp).cells hb0 hc0) ((hW.QS hp).r _ hb1) ((hW.QS hp).cells hb1 hc1) VE hy171 hE) ?_
  intro w u le172 hu
  have gky171_1 := hu
  replace QW := QW.trans le172
  have hgky171_1 : VE.2.2.1.length = zHU.length := gky171_1 --@phi
  have hfky171_1 : SlF Vz VE.2.2.1.length Vv := by rw [hgky171_1]; exact hgy162_0
  show Tr _ _ (uf _ 39 (.tuple #[])) (up (up (up _ 0 (bx bq2 #[(.bool VE.2.2.2)] 4)) 7 (ow Vz Vv 43 zy VE.2.2.1)) 2 (ow Vf zA2 46 (mix zG) (zAz zBh (x159).toNat (raw zG [(iv Qn.Kind), (sv Qn.Name), (iv VE.1), (iv VE.2.1), (.slice Vz VE.2.2.1.length Vv), (iv Qn.NX), (iv Qn.NY), (.slice zBd y167.1.length zBb)] rfl rfl)))) _
  refine Tr.sel (lf := [(1, (.func (.func 68) #[] #[(.pointer (some ⟨bq0, 0, none⟩))])), (5, (.slice Vf zBh.length zA2)), (6, (iv x159)), (10, (iv (QT.length : Int))), (11, (iv x159)), (12, (.bool (decide (x159 < (QT.length : Int))))), (13, (iv x159)), (14, (.slice Vf zBh.length zA2)), (15, (iv x159)), (16, (.slice Vf zBh.length zA2)), (17, (iv x159)), (20, (.slice zKl x160.Points.length zKU)), (21, (.slice Vz VE.2.2.1.length Vv)), (24, (.slice Vf zBh.length zA2)), (25, (iv x159)), (26, (.slice Vf zBh.length zA2)), (27, (iv x159)), (28, (.pointer (some ⟨adB Vf, adO Vf + (x159).toNat * 8, none⟩))), (29, (.pointer (some ⟨adB Vf, adO Vf + (x159).toNat * 8 + 7, none⟩))), (30, (.slice zHE Qn.Steps.length zG1)), (31, (.func (.func 68) #[] #[(.pointer (some ⟨bq0, 0, none⟩))])), (32, (.slice zBd y167.1.length zBb)), (33, (.pointer (some ⟨adB Vf, adO Vf + (x159).toNat * 8, none⟩))), (34, (.pointer (some ⟨adB Vf, adO Vf + (x159).toNat * 8 + 7, none⟩))), (35, (.func (.func 68) #[] #[(.pointer (some ⟨bq0, 0, none⟩))])), (36, (.slice Vf zBh.length zA2)), (37, (iv x159)), (38, (.pointer (some ⟨adB Vf, adO Vf + (x159).toNat * 8, none⟩))), (39, (.tuple #[]))]) (le := [(0, bx bq2 #[(.bool VE.2.2.2)] 4), (2, ow Vf zA2 46 (mix zG) (zAz zBh (x159).toNat (raw zG [(iv Qn.Kind), (sv Qn.Name), (iv VE.1), (iv VE.2.1), (.slice Vz VE.2.2.1.length Vv), (iv Qn.NX), (iv Qn.NY), (.slice zBd y167.1.length zBb)] rfl rfl))), (7, ow Vz Vv 43 zy VE.2.2.1), (8, ow zBd zBb 46 zG y167.1)]) (.cons rfl (.cons rfl (.cons rfl (.cons rfl (.cons rfl (.cons rfl (.cons rfl (.cons rfl (.cons rfl (.cons rfl (.cons rfl (.cons rfl (.cons (VH rfl (by rw [hgky171_1])) (.cons rfl (.cons rfl (.cons rfl (.cons rfl (.cons rfl (.cons rfl (.cons rfl (.cons rfl (.cons rfl (.cons rfl (.cons rfl (.cons rfl (.cons rfl (.cons rfl (.cons rfl (.cons rfl .nil))))))))))))))))))))))))))))) (.cons rfl (.cons (emix rfl (by rw [hgky171_1])) (.cons rfl (.cons rfl .nil)))) ?_
  refine Tr.nil (Tr.zW (Tr.zA ?_))
  refine Tr.region (Tr.va rfl (fun _ _ h1 h2 => zx (h1.ev rfl) (h1.ev rfl)) ?_)
  refine Tr.mv rfl rfl (Tr.nil (Tr.freeze 7 rfl fun w le174 hz173 => ?_))
  replace QW := QW.trans le174
  refine Tr.freeze 8 rfl fun w le176 hz175 => ?_
  replace hz173 := hz173.le le176
  replace QW := QW.trans le176
  refine Tr.mixClose 2 rfl (((Vz, Vv), (zBd, zBb))) (zD.mk Qn.Kind Qn.Name (zI.mk VE.1 VE.2.1) VE.2.2.1 Qn.NX Qn.NY y167.1) (Vh.2 ⟨hz173, hz175⟩) rfl ?_
  have hs177 : ((zBh).set (x159).toNat (zD.mk Qn.Kind Qn.Name (zI.mk VE.1 VE.2.1) VE.2.2.1 Qn.NX Qn.NY y167.1)).length = zBh.length := List.length_set
  have hfhs177 : SlF Vf ((zBh).set (x159).toNat (zD.mk Qn.Kind Qn.Name (zI.mk VE.1 VE.2.1) VE.2.2.1 Qn.NX Qn.NY y167.1)).length zA2 := by rw [hs177]; exact zKE
  refine Tr.sel (lf := [(1, (.func (.func 68) #[] #[(.pointer (some ⟨bq0, 0, none⟩))])), (5, (.slice Vf (((zBh).set (x159).toNat (zD.mk Qn.Kind Qn.Name (zI.mk VE.1 VE.2.1) VE.2.2.1 Qn.NX Qn.NY y167.1))).length zA2)), (6, (iv x159)), (10, (iv (QT.length : Int))), (11, (iv (w64 (x159 + 1)))), (12, (.bool (decide (x159 < (QT.length : Int))))), (13, (iv x159)), (14, (.slice Vf (((zBh).set (x159).toNat (zD.mk Qn.Kind Qn.Name (zI.mk VE.1 VE.2.1) VE.2.2.1 Qn.NX Qn.NY y167.1))).length zA2)), (15, (iv x159)), (16, (.slice Vf (((zBh).set (x159).toNat (zD.mk Qn.Kind Qn.Name (zI.mk VE.1 VE.2.1) VE.2.2.1 Qn.NX Qn.NY y167.1))).length zA2)), (17, (iv x159)), (20, (.slice zKl x160.Points.length zKU)), (21, (.slice Vz VE.2.2.1.length Vv)), (24, (.slice Vf (((zBh).set (x159).toNat (zD.mk Qn.Kind Qn.Name (zI.mk VE.1 VE.2.1) VE.2.2.1 Qn.NX Qn.NY y167.1))).length zA2)), (25, (iv x159)), (26, (.slice Vf (((zBh).set (x159).toNat (zD.mk Qn.Kind Qn.Name (zI.mk VE.1 VE.2.1) VE.2.2.1 Qn.NX Qn.NY y167.1))).length zA2)), (27, (iv x159)), (30, (.slice zHE Qn.Steps.length zG1)), (31, (.func (.func 68) #[] #[(.pointer (some ⟨bq0, 0, none⟩))])), (32, (.slice zBd y167.1.length zBb)), (35, (.func (.func 68) #[] #[(.pointer (some ⟨bq0, 0, none⟩))])), (36, (.slice Vf (((zBh).set (x159).toNat (zD.mk Qn.Kind Qn.Name (zI.mk VE.1 VE.2.1) VE.2.2.1 Qn.NX Qn.NY y167.1))).length zA2)), (37, (iv x159)), (39, (.tuple #[])), (40, (iv (w64 (x159 + 1))))]) (le := [(0, bx bq2 #[(.bool VE.2.2.2)] 4), (2, ow Vf zA2 46 zG ((zBh).set (x159).toNat (zD.mk Qn.Kind Qn.Name (zI.mk VE.1 VE.2.1) VE.2.2.1 Qn.NX Qn.NY y167.1)))]) (.cons rfl (.cons (VH rfl (by rw [hs177])) (.cons rfl (.cons rfl (.cons rfl (.cons rfl (.cons rfl (.cons (VH rfl (by rw [hs177])) (.cons rfl (.cons (VH rfl (by rw [hs177])) (.cons rfl (.cons rfl (.cons rfl (.cons (VH rfl (by rw [hs177])) (.cons rfl (.cons (VH rfl (by rw [hs177])) (.cons rfl (.cons rfl (.cons rfl (.cons rfl (.cons rfl (.cons (VH rfl (by rw [hs177])) (.cons rfl (.cons rfl (.cons rfl .nil))))))))))))))))))))))))) (.cons rfl (.cons rfl .nil)) ?_
  exact Tr.zZ QW (VE.2.2.2, ((zBh).set (x159).toNat (zD.mk Qn.Kind Qn.Name (zI.mk VE.1 VE.2.1) VE.2.2.1 Qn.NX Qn.NY y167.1)), (w64 (x159 + 1)), Vf, zA2) ⟨H, hfhs177⟩ (.cons rfl (.cons rfl (.cons rfl (.cons rfl .nil)))) (.cons rfl (.cons rfl .nil))
 ·refine Tr.exit (Tr.zX (Tr.zX (Tr.zAC (Tr.zA (Tr.sr (Tr.mv rfl rfl (Tr.asg rfl rfl (Tr.nil (Tr.zA (Tr.ret ?_))))))))))
  obtain rfl := Option.some.inj H
  exact Tr.out (m := [(.slice Vf zBh.length zA2)]) [] (zP rfl zQ) (fun W hW => ⟨w, (Vf, zA2), leB, rfl, zKE, hW.pick (ks := [0, 2]) (by decide) (zM rfl (zM rfl zY))⟩)
theorem Kw : ∀ (N : Nat) {w : Bs} (p0 : (List zD)) (QA : Option Addr) (QB : Nat) (QE : Sl w.O w.W zG QA QB p0) (bq0 : Nat) (bq1 : Nat) (q2 : Bool) (bq2 : Nat) (q3 : zt) (Aq3_0 : Option Addr) (cq3_0 : Nat) (zE9 : Sl w.R w.W zK Aq3_0 cq3_0 q3.Tools) (Aq3_1 : Option Addr) (cq3_1 : Nat) (zE8 : Sl w.R w.W zG Aq3_1 cq3_1 q3.Steps) (bq3 : Nat) (hb3 : w.R bq3) (hc3 : zL w.W bq3 0 [(iv q3.Unit), (.slice Aq3_0 q3.Tools.length cq3_0), (.slice Aq3_1 q3.Steps.length cq3_1)]) (q4 : Int) (bq4 : Nat) (hb4 : w.R bq4) (hc4 : zL w.W bq4 0 [(iv q4)]) (hb0 : w.R bq0) (hc0 : zL w.W bq0 0 [(.func (.func 66) #[] #[(.pointer (some ⟨bq1, 0, none⟩))])]) (hb1 : w.R bq1) (hc1 : zL w.W bq1 0 [(.func (.func 44) #[] #[(.pointer (some ⟨bq2, 0, none⟩)), (.pointer (some ⟨bq3, 0, none⟩)), (.pointer (some ⟨bq4, 0, none⟩))])]) (r : ((List zD) × Bool)) (H : zAL N p0 q2 q3 q4 = some r) (hE : HF w w.W (LEn [bx bq2 #[(.bool q2)] 4, emp])), Calls Tryz.prog 33 [(.slice QA p0.length QB), (.func (.func 68) #[] #[(.pointer (some ⟨bq0, 0, none⟩))])].toArray w.W fun e W' => ∃ (w' : Bs) (u : (Option Addr × Nat)), w.Le w' ∧ e = .returned (.slice u.1 r.1.length u.2) ∧ (SlF u.1 r.1.length u.2) ∧ HF w' W' (LEn [bx bq2 #[(.bool r.2)] 4, ow u.1 u.2 46 zG r.1])
 | 0 => by intros; rename_i H _; cases H
 | N + 1 => zAY N (zAL N) (Kw N)

theorem zEe (N : Nat) {w : Bs} (p0 : zt) (QA : Option Addr) (QB : Nat) (QE : Sl w.O w.W zK QA QB p0.Tools) (QD : Option Addr) (QC : Nat) (QU : Sl w.O w.W zG QD QC p0.Steps) (q0 : Bool) (bq0 : Nat) (q1 : zt) (Aq1_0 : Option Addr) (cq1_0 : Nat) (hq1_0 : Sl w.R w.W zK Aq1_0 cq1_0 q1.Tools) (Aq1_1 : Option Addr) (cq1_1 : Nat) (hq1_1 : Sl w.R w.W zG Aq1_1 cq1_1 q1.Steps) (bq1 : Nat) (hb1 : w.R bq1) (hc1 : zL w.W bq1 0 [(iv q1.Unit), (.slice Aq1_0 q1.Tools.length cq1_0), (.slice Aq1_1 q1.Steps.length cq1_1)]) (q2 : Int) (bq2 : Nat) (hb2 : w.R bq2) (hc2 : zL w.W bq2 0 [(iv q2)]) (r : (zt × Bool)) (H : Vj N p0 q0 q1 q2 = some r) (hE : HF w w.W (LEn [bx bq0 #[(.bool q0)] 4, emp, emp])) : Calls Tryz.prog 38 [(.agg #[(iv p0.Unit), (.slice QA p0.Tools.length QB), (.slice QD p0.Steps.length QC)]), (.func (.func 44) #[] #[(.pointer (some ⟨bq0, 0, none⟩)), (.pointer (some ⟨bq1, 0, none⟩)), (.pointer (some ⟨bq2, 0, none⟩))])].toArray w.W fun e W' => ∃ (w' : Bs) (u : (Option Addr × Nat) × (Option Addr × Nat)), w.Le w' ∧ e = .returned (.agg #[(iv r.1.Unit), (.slice u.1.1 r.1.Tools.length u.1.2), (.slice u.2.1 r.1.Steps.length u.2.2)]) ∧ (SlF u.1.1 r.1.Tools.length u.1.2 ∧ SlF u.2.1 r.1.Steps.length u.2.2) ∧ HF w' W' (LEn [bx bq0 #[(.bool r.2)] 4, ow u.1.1 u.1.2 64 zK r.1.Tools, ow u.2.1 u.2.2 46 zG r.1.Steps]) := by
 unfold Vj at H
 have leB := Bs.Le.refl w
 refine Tr.enter (n := 22) Tryz.func38 rfl rfl rfl hE ?_
 refine Tr.sr (Tr.box 1 (cs := [(iv p0.Unit), (.slice QA p0.Tools.length QB), (.slice QD p0.Steps.length QC)]) (wn rfl) rfl rfl rfl fun QM => ?_)
 refine Tr.box 2 (cs := [(.func (.func 44) #[] #[(.pointer (some ⟨bq0, 0, none⟩)), (.pointer (some ⟨bq1, 0, none⟩)), (.pointer (some ⟨bq2, 0, none⟩))])]) (wn rfl) rfl rfl rfl fun Qt => ?_
 refine Tr.alloc 3 (wn rfl) rfl ze_25 fun zAo => ?_
 refine Tr.nil (Tr.zA (Tr.sr (Tr.zE5 (vs := [(.pointer (some ⟨Qt, 0, none⟩))]) (wn rfl) rfl (zF rfl zO) ?_)))
 refine Tr.alloc 4 (wn rfl) rfl ze_123 fun zCH => ?_
 refine Tr.store 4 (cs := [(.func (.func 66) #[] #[(.pointer (some ⟨Qt, 0, none⟩))])]) [(.func (.func 66) #[] #[(.pointer (some ⟨Qt, 0, none⟩))])] (wn rfl) rfl rfl rfl rfl sz_123 rfl rfl rfl ?_
 refine Tr.nil (Tr.zA (Tr.sr (Tr.va rfl (fun _ _ h1 h2 => zB zBZ (h1.ev rfl)) ?_)))
 refine Tr.va rfl (fun _ _ h1 h2 => zC zFn (h1.ev rfl) (rdb h2 (vs := [(iv p0.Unit), (.slice QA p0.Tools.length QB), (.slice QD p0.Steps.length QC)]) (k := 1) rfl 1) rfl) ?_
 refine Tr.zE5 (vs := [(.pointer (some ⟨Qt, 0, none⟩))]) (wn rfl) rfl (zF rfl zO) ?_
 obtain ⟨y104, hy104, H⟩ := bnd H
 refine Tr.VQ [0, 5] [bx bq0 #[(.bool q0)] 4, emp] (U := (Option Addr × Nat)) (fun u => (.slice u.1 y104.1.length u.2)) (fun O W u => SlF u.1 y104.1.length u.2) (fun u => [bx bq0 #[(.bool y104.2)] 4, ow u.1 u.2 64 zK y104.1]) rfl (zM rfl (zM rfl zY)) (fun _ => rfl) (wn rfl) rfl Tryz.call63 (zF rfl (zF rfl zO)) (fun W hW hp hE => zBi N p0.Tools QA QB (QE.zAl (hW.QS hp)) Qt q0 bq0 q1 Aq1_0 cq1_0 (hq1_0.ext (hW.QS hp)) Aq1_1 cq1_1 (hq1_1.ext (hW.QS hp)) bq1 ((hW.QS hp).r _ hb1) ((hW.QS hp).cells hb1 hc1) q2 bq2 ((hW.QS hp).r _ hb2) ((hW.QS hp).cells hb2 hc2) (hW.boxS (k := 2) rfl hp rfl) (hW.boxC (k := 2) rfl) y104 hy104 hE) ?_
 intro w u zHI hu
 obtain ⟨Jr, Jn⟩ := u
 have gy104_0 := hu
 replace QU := QU.le zHI
 replace hc1 := zHI.ext.cells hb1 hc1
 replace hb1 := zHI.r _ hb1
 replace hq1_0 := hq1_0.leR zHI
 replace hq1_1 := hq1_1.leR zHI
 replace hc2 := zHI.ext.cells hb2 hc2
 replace hb2 := zHI.r _ hb2
 replace leB := leB.trans zHI
 have zKG : SlF Jr y104.1.length Jn := gy104_0 --@phi
 show Tr _ _ (uf _ 12 (.slice Jr y104.1.length Jn)) (up (up _ 5 (ow Jr Jn 64 zK y104.1)) 0 (bx bq0 #[(.bool y104.2)] 4)) _
 refine Tr.asg rfl rfl (Tr.nil (Tr.zA (Tr.sr (Tr.va rfl (fun _ _ h1 h2 => zB zGx (h1.ev rfl)) ?_))))
 refine Tr.va rfl (fun _ _ h1 h2 => zC zDu (h1.ev rfl) (rdb h2 (vs := [(iv p0.Unit), (.slice QA p0.Tools.length QB), (.slice QD p0.Steps.length QC)]) (k := 1) rfl 2) rfl) ?_
 refine Tr.zE5 (vs := [(.pointer (some ⟨zCH, 0, none⟩))]) (wn rfl) rfl (zF rfl zO) ?_
 obtain ⟨VU, zHu, H⟩ := bnd H
 refine Tr.VQ [0, 6] [bx bq0 #[(.bool y104.2)] 4, emp] (U := (Option Addr × Nat)) (fun u => (.slice u.1 VU.1.length u.2)) (fun O W u => SlF u.1 VU.1.length u.2) (fun u => [bx bq0 #[(.bool VU.2)] 4, ow u.1 u.2 46 zG VU.1]) rfl (zM rfl (zM rfl zY)) (fun _ => rfl) (wn rfl) rfl Tryz.call33 (zF rfl (zF rfl zO)) (fun W hW hp hE => Kw N p0.Steps QD QC (QU.zAl (hW.QS hp)) zCH Qt y104.2 bq0 q1 Aq1_0 cq1_0 (hq1_0.ext (hW.QS hp)) Aq1_1 cq1_1 (hq1_1.ext (hW.QS hp)) bq1 ((hW.QS hp).r _ hb1) ((hW.QS hp).cells hb1 hc1) q2 bq2 ((hW.QS hp).r _ hb2) ((hW.QS hp).cells hb2 hc2) (hW.boxS (k := 4) rfl hp rfl) (hW.boxC (k := 4) rfl) (hW.boxS (k := 2) rfl hp rfl) (hW.boxC (k := 2) rfl) VU zHu hE) ?_
 intro w u le107 hu
 obtain ⟨zAb, zAS⟩ := u
 have gy106_0 := hu
 replace leB := leB.trans le107
 have hgy106_0 : SlF zAb VU.1.length zAS := gy106_0 --@phi
 show Tr _ _ (uf _ 16 (.slice zAb VU.1.length zAS)) (up (up _ 6 (ow zAb zAS 46 zG VU.1)) 0 (bx bq0 #[(.bool VU.2)] 4)) _
 refine Tr.asg rfl rfl (Tr.nil (Tr.zA (Tr.sr (Tr.va rfl (fun _ _ h1 h2 => zB Vg (h1.ev rfl)) ?_))))
 refine Tr.va rfl (fun _ _ h1 h2 => zC QO (h1.ev rfl) (rdb h2 (vs := [(iv p0.Unit), (.slice QA p0.Tools.length QB), (.slice QD p0.Steps.length QC)]) (k := 1) rfl 0) rfl) ?_
 refine Tr.mv rfl rfl (Tr.mv rfl rfl (Tr.build (vs := [(0, (iv p0.Unit)), (1, (.slice Jr y104.1.length Jn)), (2, (.slice zAb VU.1.length zAS))]) (cs := [(iv p0.Unit), (.slice Jr y104.1.length Jn), (.slice zAb VU.1.length zAS)]) (wn rfl) rfl (zi rfl (zi rfl (zi rfl Qb))) (by kernel_rfl) ?_))
 refine Tr.store 3 (cs := [(iv p0.Unit), (.slice Jr y104.1.length Jn), (.slice zAb VU.1.length zAS)]) [(iv p0.Unit), (.slice Jr y104.1.length Jn), (.slice zAb VU.1.length zAS)] (wn rfl) rfl rfl rfl rfl KR rfl rfl rfl ?_
 refine Tr.nil (Tr.zA (Tr.ret ?_))
 obtain rfl := Option.some.inj H
 exact Tr.out (m := [(.agg #[(iv p0.Unit), (.slice Jr y104.1.length Jn), (.slice zAb VU.1.length zAS)])]) [3] (Vm rfl rfl WK KR zQ) (fun W hW => ⟨w, ((Jr, Jn), (zAb, zAS)), leB, rfl, ⟨zKG, hgy106_0⟩, hW.pick (ks := [0, 5, 6]) (by decide) (zM rfl (zM rfl (zM rfl zY)))⟩)

theorem F_plot_scaled_ok (N : Nat) {w : Bs} (p0 : zt) (QA : Option Addr) (QB : Nat) (QE : Sl w.O w.W zK QA QB p0.Tools) (QD : Option Addr) (QC : Nat) (QU : Sl w.O w.W zG QD QC p0.Steps) (p1 : Int) (r : (zt × Bool)) (H : zCV N p0 p1 = some r) (hE : HF w w.W (LEn [emp, emp])) : Calls Tryz.prog 23 [(.agg #[(iv p0.Unit), (.slice QA p0.Tools.length QB), (.slice QD p0.Steps.length QC)]), (iv p1)].toArray w.W fun e W' => ∃ (w' : Bs) (u : (Option Addr × Nat) × (Option Addr × Nat)), w.Le w' ∧ e = .returned (.tuple #[(.agg #[(iv r.1.Unit), (.slice u.1.1 r.1.Tools.length u.1.2), (.slice u.2.1 r.1.Steps.length u.2.2)]), (.bool r.2)]) ∧ (SlF u.1.1 r.1.Tools.length u.1.2 ∧ SlF u.2.1 r.1.Steps.length u.2.2) ∧ HF w' W' (LEn [ow u.1.1 u.1.2 64 zK r.1.Tools, ow u.2.1 u.2.2 46 zG r.1.Steps]) := by
 unfold zCV at H
 have leB := Bs.Le.refl w
 refine Tr.enter (n := 15) Tryz.func23 rfl rfl rfl hE ?_
 refine Tr.sr (Tr.box 1 (cs := [(iv p0.Unit), (.slice QA p0.Tools.length QB), (.slice QD p0.Steps.length QC)]) (wn rfl) rfl rfl rfl fun QM => ?_)
 refine Tr.box 2 (cs := [(iv p1)]) (wn rfl) rfl rfl rfl fun Qt => ?_
 refine Tr.alloc 3 (wn rfl) rfl ze_25 fun zAo => ?_
 refine Tr.asg rfl rfl (Tr.nil (Tr.zA (Tr.sr (Tr.alloc 4 (wn rfl) rfl ze_4 fun zCH => ?_))))
 refine Tr.store 4 (cs := [(.bool true)]) [(.bool true)] (wn rfl) rfl rfl rfl rfl sz_4 rfl rfl rfl ?_
 refine Tr.nil (Tr.zA (Tr.sr (Tr.va rfl (fun _ _ h1 h2 => zR (cs := [(iv p0.Unit), (.slice QA p0.Tools.length QB), (.slice QD p0.Steps.length QC)]) WK KR (h1.ev rfl) (zL.take (rdb h2 (vs := [(iv p0.Unit), (.slice QA p0.Tools.length QB), (.slice QD p0.Steps.length QC)]) (k := 1) rfl 0) 3) rfl) ?_)))
 refine Tr.zE5 (vs := [(.pointer (some ⟨zCH, 0, none⟩)), (.pointer (some ⟨QM, 0, none⟩)), (.pointer (some ⟨Qt, 0, none⟩))]) (wn rfl) rfl (zF rfl (zF rfl (zF rfl zO))) ?_
 obtain ⟨y104, hy104, H⟩ := bnd H
 refine Tr.VQ [4, 5, 6] [bx zCH #[(.bool true)] 4, emp, emp] (U := (Option Addr × Nat) × (Option Addr × Nat)) (fun u => (.agg #[(iv y104.1.Unit), (.slice u.1.1 y104.1.Tools.length u.1.2), (.slice u.2.1 y104.1.Steps.length u.2.2)])) (fun O W u => SlF u.1.1 y104.1.Tools.length u.1.2 ∧ SlF u.2.1 y104.1.Steps.length u.2.2) (fun u => [bx zCH #[(.bool y104.2)] 4, ow u.1.1 u.1.2 64 zK y104.1.Tools, ow u.2.1 u.2.2 46 zG y104.1.Steps]) rfl (zM rfl (zM rfl (zM rfl zY))) (fun _ => rfl) (wn rfl) rfl Tryz.call38 (zF rfl (zF rfl zO)) (fun W hW hp hE => zEe N p0 QA QB (QE.zAl (hW.QS hp)) QD QC (QU.zAl (hW.QS hp)) true zCH p0 QA QB (QE.rl.ext (hW.QS hp)) QD QC (QU.rl.ext (hW.QS hp)) QM (hW.boxS (k := 1) rfl hp rfl) (hW.boxC (k := 1) rfl) p1 Qt (hW.boxS (k := 2) rfl hp rfl) (hW.boxC (k := 2) rfl) y104 hy104 hE) ?_
 intro w u zHI hu
 obtain ⟨⟨Jr, Jn⟩, ⟨VT, VS⟩⟩ := u
 obtain ⟨gy104_0, gy104_1⟩ := hu
 replace leB := leB.trans zHI
 have zKG : SlF Jr y104.1.Tools.length Jn := gy104_0 --@phi
 have hgy104_1 : SlF VT y104.1.Steps.length VS := gy104_1 --@phi
 show Tr _ _ (uf _ 10 (.agg #[(iv y104.1.Unit), (.slice Jr y104.1.Tools.length Jn), (.slice VT y104.1.Steps.length VS)])) (up (up (up _ 6 (ow VT VS 46 zG y104.1.Steps)) 5 (ow Jr Jn 64 zK y104.1.Tools)) 4 (bx zCH #[(.bool y104.2)] 4)) _
 refine Tr.alloc 7 (wn rfl) rfl ze_25 fun b106 => ?_
 refine Tr.store 7 (cs := [(iv y104.1.Unit), (.slice Jr y104.1.Tools.length Jn), (.slice VT y104.1.Steps.length VS)]) [(iv y104.1.Unit), (.slice Jr y104.1.Tools.length Jn), (.slice VT y104.1.Steps.length VS)] (wn rfl) rfl rfl rfl rfl KR rfl rfl rfl ?_
 refine Tr.nil (Tr.zA (Tr.sr (Tr.va rfl (fun _ _ h1 h2 => zC QO (h1.ev rfl) (rdb h2 (vs := [(iv p1)]) (k := 2) rfl 0) rfl) ?_)))
 refine Tr.va rfl (fun _ _ h1 h2 => zB Vg (h1.ev rfl)) ?_
 refine Tr.store 7 (cs := [(iv p1)]) [(iv p1), (.slice Jr y104.1.Tools.length Jn), (.slice VT y104.1.Steps.length VS)] (wn rfl) rfl rfl rfl rfl zIz rfl rfl rfl ?_
 refine Tr.nil (Tr.zA (Tr.seq (Tr.zHL 3 [(2, fun x => x = zAo)] [] (by kernel_rfl) (by kernel_rfl) fun sz107 hlosz107 hEsz107 => ?_)))
 refine Dr.quiet 0 [(13, (.agg #[(iv p1), (.slice Jr y104.1.Tools.length Jn), (.slice VT y104.1.Steps.length VS)]))] (by kernel_rfl) rfl rfl (by kernel_rfl) ?_ rfl rfl ?_
 ·refine Tq.va rfl (fun _ _ h1 h2 => zR (cs := [(iv p1), (.slice Jr y104.1.Tools.length Jn), (.slice VT y104.1.Steps.length VS)]) WK KR (h1.ev rfl) (zL.take (rdb h2 (vs := [(iv p1), (.slice Jr y104.1.Tools.length Jn), (.slice VT y104.1.Steps.length VS)]) (k := 7) rfl 0) 3) rfl) ?_
  exact Tq.fin (.cons rfl .nil)
 refine Dr.Vn 1 [(14, (.bool y104.2))] [2] false (by kernel_rfl) rfl rfl (by kernel_rfl) (fun W W' h2 hsW hk => HF.zBN (le := [(4, bx zCH #[(.bool y104.2)] 4)]) (ks := [(3, fun x => x = zAo)]) (s0 := sz107) false h2 hk (fun h => absurd h (by decide)) (.cons rfl .nil) (fun b hb => hb.elim (fun ⟨p, hp, hf, hb⟩ => by simp only [List.mem_cons, List.not_mem_nil, or_false] at hp; rcases hp with rfl; exact .inl ⟨_, List.mem_cons_self, hb⟩) (fun hb => absurd hb.1 (by decide))) (List.forall_mem_cons.2 ⟨fun b hb => hb, (fun _ h => nomatch h)⟩) rfl) ?_ rfl rfl ?_
 ·refine Tq.va rfl (fun _ _ h1 h2 => zC ag_4 (h1.ev rfl) (rdb h2 (vs := [(.bool y104.2)]) (k := 4) rfl 0) rfl) ?_
  exact Tq.fin (.cons rfl .nil)
 refine Dr.one 2 (by kernel_rfl) ?_
 refine St.store 2 3 (cs := [(iv p1), (.slice Jr y104.1.Tools.length Jn), (.slice VT y104.1.Steps.length VS)]) [(iv p1), (.slice Jr y104.1.Tools.length Jn), (.slice VT y104.1.Steps.length VS)] rfl (wn rfl) (.inl ⟨_, List.mem_cons_self, rfl, rfl⟩) rfl rfl rfl rfl KR rfl rfl rfl ?_
 refine Dr.tail (by kernel_rfl) ?_
 refine Tr.asg rfl rfl (Tr.nil (Tr.zA (Tr.ret ?_)))
 obtain rfl := Option.some.inj H
 exact Tr.out (m := [(.agg #[(iv p1), (.slice Jr y104.1.Tools.length Jn), (.slice VT y104.1.Steps.length VS)]), (.bool y104.2)]) [3] (Vm rfl rfl WK KR (zP rfl zQ)) (fun W hW => ⟨w, ((Jr, Jn), (VT, VS)), leB, rfl, ⟨zKG, hgy104_1⟩, hW.pick (ks := [5, 6]) (by decide) (zM rfl (zM rfl zY))⟩)

theorem F_plot_told_ok (N : Nat) {w : Bs} (p0 : zt) (QA : Option Addr) (QB : Nat) (QE : Sl w.O w.W zK QA QB p0.Tools) (QD : Option Addr) (QC : Nat) (QU : Sl w.O w.W zG QD QC p0.Steps) (r : (zt × Int)) (H : zFo N p0 = some r) (hE : HF w w.W (LEn [])) : Calls Tryz.prog 24 [(.agg #[(iv p0.Unit), (.slice QA p0.Tools.length QB), (.slice QD p0.Steps.length QC)])].toArray w.W fun e W' => ∃ (w' : Bs) (u : (Option Addr × Nat) × (Option Addr × Nat)), w.Le w' ∧ e = .returned (.tuple #[(.agg #[(iv r.1.Unit), (.slice u.1.1 r.1.Tools.length u.1.2), (.slice u.2.1 r.1.Steps.length u.2.2)]), (iv r.2)]) ∧ (Sl w'.O w'.W zK u.1.1 u.1.2 r.1.Tools ∧ Sl w'.O w'.W zG u.2.1 u.2.2 r.1.Steps) ∧ HF w' W' (LEn []) := by
 unfold zFo at H
 have leB := Bs.Le.refl w
 refine Tr.enter (n := 12) Tryz.func24 rfl rfl rfl hE ?_
 refine Tr.sr (Tr.box 1 (cs := [(iv p0.Unit), (.slice QA p0.Tools.length QB), (.slice QD p0.Steps.length QC)]) (wn rfl) rfl rfl rfl fun QM => ?_)
 refine Tr.alloc 2 (wn rfl) rfl ze_25 fun Qt => ?_
 refine Tr.asg rfl rfl (Tr.nil (Tr.zA (Tr.seq (Tr.sr (Tr.va rfl (fun _ _ h1 h2 => zR (cs := [(iv p0.Unit), (.slice QA p0.Tools.length QB), (.slice QD p0.Steps.length QC)]) WK KR (h1.ev rfl) (zL.take (rdb h2 (vs := [(iv p0.Unit), (.slice QA p0.Tools.length QB), (.slice QD p0.Steps.length QC)]) (k := 1) rfl 0) 3) rfl) ?_)))))
 obtain ⟨y102, hy102, H⟩ := bnd H
 refine Tr.Qp (r := (iv y102)) (wn rfl) rfl Tryz.call21 (zF rfl zO) (fun W hW => zAf N p0 QA QB (QE.rl.ext hW.QZ) QD QC (QU.rl.ext hW.QZ) y102 hy102 (HF.start _)) ?_
 refine Tr.asg rfl rfl (Tr.nil (Tr.zA (Tr.sr (Tr.mv rfl rfl (Tr.va rfl (fun _ _ h1 h2 => Jv (h1.ev rfl) (h1.ev rfl)) ?_)))))
 refine Tr.nil (Tr.zA (Tr.cond rfl H (fun H => ?_) (fun H => ?_)))
 ·refine Tr.sr (Tr.build (vs := []) (cs := [(iv 0), (.slice none 0 0), (.slice none 0 0)]) (wn rfl) rfl Qb (by kernel_rfl) ?_)
  refine Tr.mv rfl rfl (Tr.store 2 (cs := [(iv 0), (.slice none 0 0), (.slice none 0 0)]) [(iv 0), (.slice none 0 0), (.slice none 0 0)] (wn rfl) rfl rfl rfl rfl KR rfl rfl rfl ?_)
  refine Tr.asg rfl rfl (Tr.nil (Tr.zA (Tr.ret (Tr.zU ?_))))
  obtain rfl := Option.some.inj H
  exact Tr.out (m := [(.agg #[(iv 0), (.slice none 0 0), (.slice none 0 0)]), (iv y102)]) [2] (Vm rfl rfl WK KR (zP rfl zQ)) (fun W hW => ⟨w, ((none, 0), (none, 0)), leB, rfl, ⟨(Sl.nil _ _ _), (Sl.nil _ _ _)⟩, hW.pick (ks := []) (by decide) zY⟩)
 ·refine Tr.skip (Tr.zA (Tr.sr (Tr.va rfl (fun _ _ h1 h2 => zR (cs := [(iv p0.Unit), (.slice QA p0.Tools.length QB), (.slice QD p0.Steps.length QC)]) WK KR (h1.ev rfl) (zL.take (rdb h2 (vs := [(iv p0.Unit), (.slice QA p0.Tools.length QB), (.slice QD p0.Steps.length QC)]) (k := 1) rfl 0) 3) rfl) ?_)))
  refine Tr.store 2 (cs := [(iv p0.Unit), (.slice QA p0.Tools.length QB), (.slice QD p0.Steps.length QC)]) [(iv p0.Unit), (.slice QA p0.Tools.length QB), (.slice QD p0.Steps.length QC)] (wn rfl) rfl rfl rfl rfl KR rfl rfl rfl ?_
  refine Tr.asg rfl rfl (Tr.nil (Tr.zA (Tr.ret ?_)))
  obtain rfl := Option.some.inj H
  exact Tr.out (m := [(.agg #[(iv p0.Unit), (.slice QA p0.Tools.length QB), (.slice QD p0.Steps.length QC)]), (iv 0)]) [2] (Vm rfl rfl WK KR (zP rfl zQ)) (fun W hW => ⟨w, ((QA, QB), (QD, QC)), leB, rfl, ⟨QE, QU⟩, hW.pick (ks := []) (by decide) zY⟩)

theorem zGc (N : Nat) {w : Bs} (p0 : zt) (QA : Option Addr) (QB : Nat) (QE : Sl w.O w.W zK QA QB p0.Tools) (QD : Option Addr) (QC : Nat) (QU : Sl w.O w.W zG QD QC p0.Steps) (p1 : Int) (r : (zt × Bool × Int)) (H : zAc N p0 p1 = some r) (hE : HF w w.W (LEn [])) : Calls Tryz.prog 7 [(.agg #[(iv p0.Unit), (.slice QA p0.Tools.length QB), (.slice QD p0.Steps.length QC)]), (iv p1)].toArray w.W fun e W' => ∃ (w' : Bs) (u : (Option Addr × Nat) × (Option Addr × Nat)), w.Le w' ∧ e = .returned (.tuple #[(.agg #[(iv r.1.Unit), (.slice u.1.1 r.1.Tools.length u.1.2), (.slice u.2.1 r.1.Steps.length u.2.2)]), (.bool r.2.1), (iv r.2.2)]) ∧ (Sl w'.O w'.W zK u.1.1 u.1.2 r.1.Tools ∧ Sl w'.O w'.W zG u.2.1 u.2.2 r.1.Steps) ∧ HF w' W' (LEn []) := by
 unfold zAc at H
 have leB := Bs.Le.refl w
 refine Tr.enter (n := 39) Tryz.func7 rfl rfl rfl hE ?_
 refine Tr.sr (Tr.box 1 (cs := [(iv p0.Unit), (.slice QA p0.Tools.length QB), (.slice QD p0.Steps.length QC)]) (wn rfl) rfl rfl rfl fun QM => ?_)
 refine Tr.alloc 2 (wn rfl) rfl ze_25 fun Qt => ?_
 refine Tr.asg rfl rfl (Tr.asg rfl rfl (Tr.nil (Tr.zA (Tr.seq (Tr.sr (Tr.va rfl (fun _ _ h1 h2 => zR (cs := [(iv p0.Unit), (.slice QA p0.Tools.length QB), (.slice QD p0.Steps.length QC)]) WK KR (h1.ev rfl) (zL.take (rdb h2 (vs := [(iv p0.Unit), (.slice QA p0.Tools.length QB), (.slice QD p0.Steps.length QC)]) (k := 1) rfl 0) 3) rfl) ?_))))))
 obtain ⟨y102, hy102, H⟩ := bnd H
 refine Tr.Qp (r := (iv y102)) (wn rfl) rfl Tryz.call21 (zF rfl zO) (fun W hW => zAf N p0 QA QB (QE.rl.ext hW.QZ) QD QC (QU.rl.ext hW.QZ) y102 hy102 (HF.start _)) ?_
 refine Tr.asg rfl rfl (Tr.nil (Tr.zA (Tr.sr (Tr.mv rfl rfl (Tr.va rfl (fun _ _ h1 h2 => Jv (h1.ev rfl) (h1.ev rfl)) ?_)))))
 refine Tr.nil (Tr.zA (Tr.cond rfl H (fun H => ?_) (fun H => ?_)))
 ·refine Tr.sr (Tr.build (vs := []) (cs := [(iv 0), (.slice none 0 0), (.slice none 0 0)]) (wn rfl) rfl Qb (by kernel_rfl) ?_)
  refine Tr.mv rfl rfl (Tr.store 2 (cs := [(iv 0), (.slice none 0 0), (.slice none 0 0)]) [(iv 0), (.slice none 0 0), (.slice none 0 0)] (wn rfl) rfl rfl rfl rfl KR rfl rfl rfl ?_)
  refine Tr.asg rfl rfl (Tr.asg rfl rfl (Tr.nil (Tr.zA (Tr.ret (Tr.zU ?_)))))
  obtain rfl := Option.some.inj H
  exact Tr.out (m := [(.agg #[(iv 0), (.slice none 0 0), (.slice none 0 0)]), (.bool false), (iv y102)]) [2] (Vm rfl rfl WK KR (zP rfl (zP rfl zQ))) (fun W hW => ⟨w, ((none, 0), (none, 0)), leB, rfl, ⟨(Sl.nil _ _ _), (Sl.nil _ _ _)⟩, hW.pick (ks := []) (by decide) zY⟩)
 ·refine Tr.skip (Tr.zA (Tr.seq (Tr.sr (Tr.mv rfl rfl ?_))))
  obtain ⟨QJ, zCy, H⟩ := bnd H
  refine Tr.Qp (r := (.bool QJ)) (wn rfl) rfl Tryz.call22 (zF rfl (zF rfl (zF rfl zO))) (fun W hW => Vb p1 1 1000 QJ zCy (HF.start _)) ?_
  refine Tr.va rfl (fun _ _ h1 h2 => JO (h1.ev rfl)) ?_
  refine Tr.nil (Tr.zA (Tr.cond rfl H (fun H => ?_) (fun H => ?_)))
  ·refine Tr.sr (Tr.build (vs := []) (cs := [(iv 0), (.slice none 0 0), (.slice none 0 0)]) (wn rfl) rfl Qb (by kernel_rfl) ?_)
   refine Tr.store 2 (cs := [(iv 0), (.slice none 0 0), (.slice none 0 0)]) [(iv 0), (.slice none 0 0), (.slice none 0 0)] (wn rfl) rfl rfl rfl rfl KR rfl rfl rfl ?_
   refine Tr.asg rfl rfl (Tr.asg rfl rfl (Tr.nil (Tr.zA (Tr.ret (Tr.zU ?_)))))
   obtain rfl := Option.some.inj H
   exact Tr.out (m := [(.agg #[(iv 0), (.slice none 0 0), (.slice none 0 0)]), (.bool false), (iv 1)]) [2] (Vm rfl rfl WK KR (zP rfl (zP rfl zQ))) (fun W hW => ⟨w, ((none, 0), (none, 0)), leB, rfl, ⟨(Sl.nil _ _ _), (Sl.nil _ _ _)⟩, hW.pick (ks := []) (by decide) zY⟩)
  ·refine Tr.skip (Tr.zA (Tr.sr (Tr.va rfl (fun _ _ h1 h2 => zR (cs := [(iv p0.Unit), (.slice QA p0.Tools.length QB), (.slice QD p0.Steps.length QC)]) WK KR (h1.ev rfl) (zL.take (rdb h2 (vs := [(iv p0.Unit), (.slice QA p0.Tools.length QB), (.slice QD p0.Steps.length QC)]) (k := 1) rfl 0) 3) rfl) ?_)))
   refine Tr.mv rfl rfl ?_
   obtain ⟨y104, hy104, H⟩ := bnd H
   refine Tr.VQ [3, 4] [emp, emp] (U := (Option Addr × Nat) × (Option Addr × Nat)) (fun u => (.tuple #[(.agg #[(iv y104.1.Unit), (.slice u.1.1 y104.1.Tools.length u.1.2), (.slice u.2.1 y104.1.Steps.length u.2.2)]), (.bool y104.2)])) (fun O W u => SlF u.1.1 y104.1.Tools.length u.1.2 ∧ SlF u.2.1 y104.1.Steps.length u.2.2) (fun u => [ow u.1.1 u.1.2 64 zK y104.1.Tools, ow u.2.1 u.2.2 46 zG y104.1.Steps]) rfl (zM rfl (zM rfl zY)) (fun _ => rfl) (wn rfl) rfl Tryz.call23 (zF rfl (zF rfl zO)) (fun W hW hp hE => F_plot_scaled_ok N p0 QA QB (QE.zAl (hW.QS hp)) QD QC (QU.zAl (hW.QS hp)) p1 y104 hy104 hE) ?_
   intro w u zHI hu
   obtain ⟨⟨Jr, Jn⟩, ⟨VT, VS⟩⟩ := u
   obtain ⟨gy104_0, gy104_1⟩ := hu
   replace leB := leB.trans zHI
   have zKG : SlF Jr y104.1.Tools.length Jn := gy104_0 --@phi
   have hgy104_1 : SlF VT y104.1.Steps.length VS := gy104_1 --@phi
   show Tr _ _ (uf _ 24 (.tuple #[(.agg #[(iv y104.1.Unit), (.slice Jr y104.1.Tools.length Jn), (.slice VT y104.1.Steps.length VS)]), (.bool y104.2)])) (up (up _ 4 (ow VT VS 46 zG y104.1.Steps)) 3 (ow Jr Jn 64 zK y104.1.Tools)) _
   refine Tr.mv rfl rfl (Tr.va rfl (fun _ _ h1 h2 => Qq (h1.ev rfl) rfl) ?_)
   refine Tr.va rfl (fun _ _ h1 h2 => Qq (h1.ev rfl) rfl) ?_
   refine Tr.alloc 5 (wn rfl) rfl ze_25 fun b106 => ?_
   refine Tr.store 5 (cs := [(iv y104.1.Unit), (.slice Jr y104.1.Tools.length Jn), (.slice VT y104.1.Steps.length VS)]) [(iv y104.1.Unit), (.slice Jr y104.1.Tools.length Jn), (.slice VT y104.1.Steps.length VS)] (wn rfl) rfl rfl rfl rfl KR rfl rfl rfl ?_
   refine Tr.asg rfl rfl (Tr.nil (Tr.zA (Tr.seq (Tr.sr (Tr.mv rfl rfl (Tr.va rfl (fun _ _ h1 h2 => JO (h1.ev rfl)) ?_))))))
   refine Tr.nil (Tr.zA (Tr.cond rfl H (fun H => ?_) (fun H => ?_)))
   ·refine Tr.sr (Tr.build (vs := []) (cs := [(iv 0), (.slice none 0 0), (.slice none 0 0)]) (wn rfl) rfl Qb (by kernel_rfl) ?_)
    refine Tr.store 2 (cs := [(iv 0), (.slice none 0 0), (.slice none 0 0)]) [(iv 0), (.slice none 0 0), (.slice none 0 0)] (wn rfl) rfl rfl rfl rfl KR rfl rfl rfl ?_
    refine Tr.asg rfl rfl (Tr.asg rfl rfl (Tr.nil (Tr.zA (Tr.ret (Tr.zU ?_)))))
    obtain rfl := Option.some.inj H
    exact Tr.out (m := [(.agg #[(iv 0), (.slice none 0 0), (.slice none 0 0)]), (.bool false), (iv 0)]) [2] (Vm rfl rfl WK KR (zP rfl (zP rfl zQ))) (fun W hW => ⟨w, ((none, 0), (none, 0)), leB, rfl, ⟨(Sl.nil _ _ _), (Sl.nil _ _ _)⟩, hW.pick (ks := []) (by decide) zY⟩)
   ·refine Tr.skip (Tr.zA (Tr.sr (Tr.va rfl (fun _ _ h1 h2 => zR (cs := [(iv y104.1.Unit), (.slice Jr y104.1.Tools.length Jn), (.slice VT y104.1.Steps.length VS)]) WK KR (h1.ev rfl) (zL.take (rdb h2 (vs := [(iv y104.1.Unit), (.slice Jr y104.1.Tools.length Jn), (.slice VT y104.1.Steps.length VS)]) (k := 5) rfl 0) 3) rfl) ?_)))
    refine Tr.freeze 3 rfl fun w zGJ hz107 => ?_
    replace leB := leB.trans zGJ
    refine Tr.freeze 4 rfl fun w le110 hz109 => ?_
    replace hz107 := hz107.le le110
    replace leB := leB.trans le110
    obtain ⟨VF, hy111, H⟩ := bnd H
    refine Tr.VQ [] [] (U := (Option Addr × Nat) × (Option Addr × Nat)) (fun u => (.tuple #[(.agg #[(iv VF.1.Unit), (.slice u.1.1 VF.1.Tools.length u.1.2), (.slice u.2.1 VF.1.Steps.length u.2.2)]), (iv VF.2)])) (fun O W u => Sl O W zK u.1.1 u.1.2 VF.1.Tools ∧ Sl O W zG u.2.1 u.2.2 VF.1.Steps) (fun u => []) rfl zY (fun _ => rfl) (wn rfl) rfl Tryz.call24 (zF rfl zO) (fun W hW hp hE => F_plot_told_ok N y104.1 Jr Jn (hz107.zAl (hW.QS hp)) VT VS (hz109.zAl (hW.QS hp)) VF hy111 hE) ?_
    intro w u le112 hu
    obtain ⟨⟨zBI, zBA⟩, ⟨zDh, zDa⟩⟩ := u
    obtain ⟨gy111_0, gy111_1⟩ := hu
    replace hz107 := hz107.le le112
    replace hz109 := hz109.le le112
    replace leB := leB.trans le112
    have hgy111_0 : Sl w.O w.W zK zBI zBA VF.1.Tools := gy111_0 --@phi
    have hgy111_1 : Sl w.O w.W zG zDh zDa VF.1.Steps := gy111_1 --@phi
    show Tr _ _ (uf _ 32 (.tuple #[(.agg #[(iv VF.1.Unit), (.slice zBI VF.1.Tools.length zBA), (.slice zDh VF.1.Steps.length zDa)]), (iv VF.2)])) (_) _
    refine Tr.mv rfl rfl (Tr.va rfl (fun _ _ h1 h2 => Qq (h1.ev rfl) rfl) ?_)
    refine Tr.va rfl (fun _ _ h1 h2 => Qq (h1.ev rfl) rfl) ?_
    refine Tr.store 5 (cs := [(iv VF.1.Unit), (.slice zBI VF.1.Tools.length zBA), (.slice zDh VF.1.Steps.length zDa)]) [(iv VF.1.Unit), (.slice zBI VF.1.Tools.length zBA), (.slice zDh VF.1.Steps.length zDa)] (wn rfl) rfl rfl rfl rfl KR rfl rfl rfl ?_
    refine Tr.asg rfl rfl (Tr.nil (Tr.zA (Tr.sr (Tr.va rfl (fun _ _ h1 h2 => zR (cs := [(iv VF.1.Unit), (.slice zBI VF.1.Tools.length zBA), (.slice zDh VF.1.Steps.length zDa)]) WK KR (h1.ev rfl) (zL.take (rdb h2 (vs := [(iv VF.1.Unit), (.slice zBI VF.1.Tools.length zBA), (.slice zDh VF.1.Steps.length zDa)]) (k := 5) rfl 0) 3) rfl) ?_))))
    refine Tr.mv rfl rfl (Tr.va rfl (fun _ _ h1 h2 => Qk (h1.ev rfl) (h1.ev rfl)) ?_)
    refine Tr.mv rfl rfl (Tr.store 2 (cs := [(iv VF.1.Unit), (.slice zBI VF.1.Tools.length zBA), (.slice zDh VF.1.Steps.length zDa)]) [(iv VF.1.Unit), (.slice zBI VF.1.Tools.length zBA), (.slice zDh VF.1.Steps.length zDa)] (wn rfl) rfl rfl rfl rfl KR rfl rfl rfl ?_)
    refine Tr.asg rfl rfl (Tr.asg rfl rfl (Tr.nil (Tr.zA (Tr.ret ?_))))
    obtain rfl := Option.some.inj H
    exact Tr.out (m := [(.agg #[(iv VF.1.Unit), (.slice zBI VF.1.Tools.length zBA), (.slice zDh VF.1.Steps.length zDa)]), (.bool (VF.2 == 0)), (iv VF.2)]) [2] (Vm rfl rfl WK KR (zP rfl (zP rfl zQ))) (fun W hW => ⟨w, ((zBI, zBA), (zDh, zDa)), leB, rfl, ⟨hgy111_0, hgy111_1⟩, hW.pick (ks := []) (by decide) zY⟩)

theorem zC8 {w : Bs} (p0 : Int) (r : ByteArray) (H : zKA p0 = some r) (hE : HF w w.W E0) : Calls Tryz.prog 46 [(iv p0)].toArray w.W fun e W' => e = .returned (sv r) ∧ HF w W' E0 :=
 itoaS_rule (ρ := Tryz.itoa46_ren) Tryz.itoa46 H hE

end Go.Proofs.YtoageaoknnnfbaaGreatDoor
namespace Go.Proofs
open Go.Shelf
def Tryz.bld45_ren : Go.Shelf.Ren := ⟨fun | 166 => 45 | 240 => 75 | 276 => 101 | n => n, fun | 5 => 5 | 37 => 93 | 70 => 92 | 72 => 95 | 75 => 97 | 80 => 104 | 164 => 157 | n => n, fun n => n⟩
theorem Tryz.bld45 : Go.Proofs.Lays.n166 Tryz.prog Tryz.bld45_ren := {
 mixed := by kernel_rfl
 f166 := Tryz.func45.trans (congrArg some (by kernel_rfl))
 f240 := Tryz.func75.trans (congrArg some (by kernel_rfl))
 f276 := Tryz.func101.trans (congrArg some (by kernel_rfl))
 t0 := Tryz.underlying0
 a0 := Tryz.isAgg0
 z0 := Tryz.sizeOf0
 v0 := Tryz.zeroValue0
 t3 := Tryz.underlying3
 a3 := Tryz.isAgg3
 z3 := Tryz.sizeOf3
 v3 := Tryz.zeroValue3
 t4 := Tryz.underlying4
 a4 := Tryz.isAgg4
 z4 := Tryz.sizeOf4
 v4 := Tryz.zeroValue4
 t9 := Tryz.underlying9
 a9 := Tryz.isAgg9
 z9 := Tryz.sizeOf9
 v9 := Tryz.zeroValue9
 t20 := Tryz.underlying20
 a20 := Tryz.isAgg20
 z20 := Tryz.sizeOf20
 v20 := Tryz.zeroValue20
 t37 := Tryz.underlying93
 a37 := Tryz.isAgg93
 z37 := Tryz.sizeOf93
 v37 := Tryz.zeroValue93
 t70 := Tryz.underlying92
 a70 := Tryz.isAgg92
 z70 := Tryz.sizeOf92
 v70 := Tryz.zeroValue92
 t72 := Tryz.underlying95
 a72 := Tryz.isAgg95
 z72 := Tryz.sizeOf95
 v72 := Tryz.zeroValue95
 t75 := Tryz.underlying97
 a75 := Tryz.isAgg97
 z75 := Tryz.sizeOf97
 v75 := Tryz.zeroValue97
 t164 := Tryz.underlying157
 a164 := Tryz.isAgg157
 z164 := Tryz.sizeOf157
 v164 := Tryz.zeroValue157
}
end Go.Proofs
namespace Go.Proofs.YtoageaoknnnfbaaGreatDoor
open Go.RowKit
theorem bX45 : Builder.Extra Tryz.prog Tryz.bld45_ren where
 sizeBuilder := by kernel_rfl
 liesBuilder := by kernel_rfl
 t5 := Tryz.underlying5
 a5 := Tryz.isAgg5
 z5 := Tryz.sizeOf5
 v5 := Tryz.zeroValue5
 infoByte := by kernel_rfl
 cellsByte := by kernel_rfl
 sizeByte := by kernel_rfl
 neB5 := by decide
theorem zg {w : Bs} (p0 : ByteArray) (QA : Option Addr) (QB : Nat) (bp0 : Nat) (p1 : ByteArray) (r : ByteArray) (H : sbW p0 p1 = some r) (hE : HF w w.W (LEn [sb 95 5 bp0 QA QB p0])) : Calls Tryz.prog 45 [(.pointer (some ⟨bp0, 0, none⟩)), .string p1].toArray w.W fun e W' => ∃ u : (Option Addr × Nat), e = .returned (.tuple #[.int .i64 p1.size, .nilIface]) ∧ (True) ∧ HF w W' (LEn [sb 95 5 bp0 u.1 u.2 r]) :=
 sb_write (ρ := Tryz.bld45_ren) Tryz.bld45 bX45 H hE

theorem We {w : Bs} (p0 : (List zI)) (QA : Option Addr) (QB : Nat) (QE : Sl w.R w.W zy QA QB p0) (r : ByteArray) (H : WV p0 = some r) (hE : HF w w.W E0) : Calls Tryz.prog 47 [(.slice QA p0.length QB)].toArray w.W fun e W' => e = .returned (sv r) ∧ HF w W' E0 := by
 unfold WV at H
 have leB := Bs.Le.refl w
 refine Tr.enter (n := 25) Tryz.func47 rfl rfl rfl hE ?_
 refine Tr.sr (Tr.asg rfl rfl (Tr.nil (Tr.zA (Tr.sr (Tr.asg rfl rfl (Tr.nil (Tr.zA (Tr.seq (Tr.sr (Tr.mv rfl rfl ?_))))))))))
 refine Tr.va rfl (fun _ _ h1 h2 => zq zDn (h1.ev rfl)) ?_
 refine Tr.mv rfl rfl (Tr.nil (Tr.zA (Tr.block (Tr.loop (σ := (List zI) × Nat × ByteArray) (fun m w s => m = s.1.length + 1 ∧ s.1 = List.drop s.2.1 p0 ∧ s.2.1 ≤ p0.length ∧ Wh s.1 s.2.1 s.2.2 = some r) (fun s => [(3, (sv s.2.2)), (6, (.slice QA p0.length QB)), (7, (iv (p0.length : Int))), (8, (iv (s.2.1 : Int)))]) (fun s => []) (p0.length + 1) (p0, 0, ByteArray.empty) ⟨rfl, rfl, Nat.zero_le _, H⟩ (.cons rfl (.cons rfl (.cons rfl (.cons rfl .nil)))) .nil (fun _ _ h => absurd h.1 (by simp)) ?_))))
 intro w QW m s hs
 obtain ⟨QF, iL1, zEP⟩ := s
 obtain ⟨KJ, QP, hiL1, H⟩ := hs
 replace QP : QF = List.drop iL1 p0 := QP
 replace H : Wh QF iL1 zEP = some r := H
 replace KJ : m + 1 = QF.length + 1 := KJ
 replace QE := QE.leR QW
 replace leB := leB.trans QW
 obtain rfl : m = QF.length := by omega
 clear KJ
 show Tr _ _ (LF [(3, (sv zEP)), (6, (.slice QA p0.length QB)), (7, (iv (p0.length : Int))), (8, (iv (iL1 : Int)))]) (LE []) _
 cases QF with
 | nil =>
  rw [Wh.eq_1] at H
  refine Tr.sr (Tr.va rfl (fun _ _ h1 h2 => zz (h1.ev rfl) (h1.ev rfl)) ?_)
  refine Tr.nil (Tr.zA (Tr.seq (Tr.WJ rfl (Qy QP) ?_)))
  refine Tr.exit (Tr.zX (Tr.zX (Tr.zAC (Tr.zA (Tr.sr (Tr.mv rfl rfl (Tr.asg rfl rfl (Tr.nil (Tr.zA (Tr.ret ?_))))))))))
  obtain rfl := Option.some.inj H
  exact Tr.out (m := [(sv zEP)]) [] (zP rfl zQ) (fun W hW => ⟨rfl, hW.low leB⟩)
 | cons xL1 QF =>
  rw [Wh.eq_2] at H
  refine Tr.sr (Tr.va rfl (fun _ _ h1 h2 => zz (h1.ev rfl) (h1.ev rfl)) ?_)
  refine Tr.nil (Tr.zA (Tr.seq (Tr.WI rfl (Jg QP) ?_)))
  refine Tr.skip (Tr.zA (Tr.seq (Tr.block (Tr.sr (Tr.va rfl (fun _ _ h1 h2 => zH zHz (h1.ev rfl) QE.form (h1.ev rfl) (Int.natCast_nonneg _) (zo QP)) ?_)))))
  refine Tr.va rfl (fun _ _ h1 h2 => zR (cs := [(iv xL1.X), (iv xL1.Y)]) KF JB (h1.ev rfl) (zL.take (rdF zAm QE (Js QP) h2) 2) rfl) ?_
  refine Tr.alloc 3 (wn rfl) rfl zHe fun b123 => ?_
  refine Tr.store 3 (cs := [(iv xL1.X), (iv xL1.Y)]) [(iv xL1.X), (iv xL1.Y)] (wn rfl) rfl rfl rfl rfl JB rfl rfl rfl ?_
  refine Tr.nil (Tr.zA (Tr.draw (by kernel_rfl) (by kernel_rfl) ?_))
  refine Tq.mv rfl rfl (Tq.va rfl (fun _ _ h1 h2 => zB VL (h1.ev rfl)) ?_)
  refine Tq.va rfl (fun _ _ h1 h2 => zC QO (h1.ev rfl) (rdb h2 (vs := [(iv xL1.X), (iv xL1.Y)]) (k := 3) rfl 0) rfl) ?_
  obtain ⟨y124, hy124, H⟩ := bnd H
  refine Tq.Qp (r := (sv y124)) (wn rfl) rfl Tryz.call46 (zF rfl zO) (fun W hW => zC8 xL1.X y124 hy124 (HF.start _)) ?_
  obtain ⟨t125, ht125, H⟩ := bnd H
  refine Tq.va rfl (fun _ _ h1 h2 => VJ (h1.ev rfl) (h1.ev rfl) ht125) ?_
  obtain ⟨t126, ht126, H⟩ := bnd H
  refine Tq.va rfl (fun _ _ h1 h2 => VJ (h1.ev rfl) (h1.ev rfl) ht126) ?_
  refine Tq.va rfl (fun _ _ h1 h2 => zB Kt (h1.ev rfl)) ?_
  refine Tq.va rfl (fun _ _ h1 h2 => zC QO (h1.ev rfl) (rdb h2 (vs := [(iv xL1.X), (iv xL1.Y)]) (k := 3) rfl 1) rfl) ?_
  obtain ⟨zHV, hy127, H⟩ := bnd H
  refine Tq.Qp (r := (sv zHV)) (wn rfl) rfl Tryz.call46 (zF rfl zO) (fun W hW => zC8 xL1.Y zHV hy127 (HF.start _)) ?_
  obtain ⟨t128, ht128, H⟩ := bnd H
  refine Tq.va rfl (fun _ _ h1 h2 => VJ (h1.ev rfl) (h1.ev rfl) ht128) ?_
  obtain ⟨t129, ht129, H⟩ := bnd H
  refine Tq.va rfl (fun _ _ h1 h2 => VJ (h1.ev rfl) (h1.ev rfl) ht129) ?_
  refine Tq.asg rfl rfl (Tq.nil (Tr.zW (Tr.zA ?_)))
  refine Tr.region (Tr.va rfl (fun _ _ h1 h2 => zx (h1.ev rfl) (h1.ev rfl)) ?_)
  exact Tr.mv rfl rfl (Tr.nil (Tr.zZ QW (QF, (iL1 + 1), t129) ⟨rfl, Qg QP, zo QP, H⟩ (.cons rfl (.cons rfl (.cons rfl (.cons (congrArg (fun z => some (Value.int .i64 z)) (Qf QP QE.form)) .nil)))) .nil))

theorem zHA (N : Nat) (rec : ByteArray → (List zD) → Option ByteArray) (hrec : ∀ {w : Bs} (p0 : ByteArray) (QA : Option Addr) (QB : Nat) (bp0 : Nat) (p1 : (List zD)) (QG : Option Addr) (QH : Nat) (QV : Sl w.R w.W zG QG QH p1) (r : ByteArray) (H : rec p0 p1 = some r) (hE : HF w w.W (LEn [sb 95 5 bp0 QA QB p0])), Calls Tryz.prog 48 [(.pointer (some ⟨bp0, 0, none⟩)), (.slice QG p1.length QH)].toArray w.W fun e W' => ∃ u : (Option Addr × Nat), e = .returned (.tuple #[]) ∧ (True) ∧ HF w W' (LEn [sb 95 5 bp0 u.1 u.2 r])) {w : Bs} (p0 : ByteArray) (QA : Option Addr) (QB : Nat) (bp0 : Nat) (p1 : (List zD)) (QG : Option Addr) (QH : Nat) (QV : Sl w.R w.W zG QG QH p1) (r : ByteArray) (H : zCJ N rec p0 p1 = some r) (hE : HF w w.W (LEn [sb 95 5 bp0 QA QB p0])) : Calls Tryz.prog 48 [(.pointer (some ⟨bp0, 0, none⟩)), (.slice QG p1.length QH)].toArray w.W fun e W' => ∃ u : (Option Addr × Nat), e = .returned (.tuple #[]) ∧ (True) ∧ HF w W' (LEn [sb 95 5 bp0 u.1 u.2 r]) := by
 unfold zCJ at H
 have leB := Bs.Le.refl w
 refine Tr.enter (n := 91) Tryz.func48 rfl rfl rfl hE ?_
 refine Tr.sr (Tr.mv rfl rfl (Tr.va rfl (fun _ _ h1 h2 => zq zGC (h1.ev rfl)) ?_))
 refine Tr.mv rfl rfl (Tr.nil (Tr.zA (Tr.block (Tr.loop (σ := (List zD) × Nat × ByteArray × (Option Addr) × Nat) (fun m w s => m = s.1.length + 1 ∧ s.1 = List.drop s.2.1 p1 ∧ s.2.1 ≤ p1.length ∧ zAE rec s.1 s.2.1 s.2.2.1 = some r) (fun s => [(0, (.pointer (some ⟨bp0, 0, none⟩))), (6, (.slice QG p1.length QH)), (7, (iv (p1.length : Int))), (8, (iv (s.2.1 : Int)))]) (fun s => [(0, sb 95 5 bp0 s.2.2.2.1 s.2.2.2.2 s.2.2.1)]) (p1.length + 1) (p1, 0, p0, QA, QB) ⟨rfl, rfl, Nat.zero_le _, H⟩ (.cons rfl (.cons rfl (.cons rfl (.cons rfl .nil)))) (.cons rfl .nil) (fun _ _ h => absurd h.1 (by simp)) ?_))))
 intro w QW m s hs
 obtain ⟨QF, iL1, m194, Am194, cm194⟩ := s
 obtain ⟨KJ, QP, hiL1, H⟩ := hs
 replace QP : QF = List.drop iL1 p1 := QP
 replace H : zAE rec QF iL1 m194 = some r := H
 replace KJ : m + 1 = QF.length + 1 := KJ
 replace QV := QV.leR QW
 replace leB := leB.trans QW
 obtain rfl : m = QF.length := by omega
 clear KJ
 show Tr _ _ (LF [(0, (.pointer (some ⟨bp0, 0, none⟩))), (6, (.slice QG p1.length QH)), (7, (iv (p1.length : Int))), (8, (iv (iL1 : Int)))]) (LE [(0, sb 95 5 bp0 Am194 cm194 m194)]) _
 cases QF with
 | nil =>
  rw [zAE.eq_1] at H
  refine Tr.sr (Tr.va rfl (fun _ _ h1 h2 => zz (h1.ev rfl) (h1.ev rfl)) ?_)
  refine Tr.nil (Tr.zA (Tr.seq (Tr.WJ rfl (Qy QP) ?_)))
  refine Tr.exit (Tr.zX (Tr.zX (Tr.zAC (Tr.offEnd ?_))))
  obtain rfl := Option.some.inj H
  exact Tr.out (m := []) [] zQ (fun W hW => ⟨(Am194, cm194), rfl, trivial, HF.zHZ leB (hW.pick (ks := [0]) (by decide) (zM rfl zY)) ⟨sb_any, trivial⟩⟩)
 | cons xL1 QF =>
  rw [zAE.eq_2] at H
  refine Tr.sr (Tr.va rfl (fun _ _ h1 h2 => zz (h1.ev rfl) (h1.ev rfl)) ?_)
  refine Tr.nil (Tr.zA (Tr.seq (Tr.WI rfl (Jg QP) ?_)))
  refine Tr.skip (Tr.zA (Tr.seq (Tr.block (Tr.sr ?_))))
  obtain ⟨u195, hRu195, hoku195, hcu195⟩ := (QV).el (Js QP)
  obtain ⟨⟨zBL, zBD⟩, ⟨zBK, zBC⟩⟩ := u195
  obtain ⟨hoku195_0, hoku195_1⟩ := Vh.1 hoku195
  replace hoku195_0 : Sl w.R w.W zy zBL zBD xL1.Points := hoku195_0
  replace hoku195_1 : Sl w.R w.W zG zBK zBC xL1.Steps := hoku195_1
  refine Tr.va rfl (fun _ _ h1 h2 => zH zH0 (h1.ev rfl) QV.form (h1.ev rfl) (Int.natCast_nonneg _) (zo QP)) ?_
  refine Tr.va rfl (fun _ _ h1 h2 => zR (cs := [(iv xL1.Kind), (sv xL1.Name), (iv xL1.At.X), (iv xL1.At.Y), (.slice zBL xL1.Points.length zBD), (iv xL1.NX), (iv xL1.NY), (.slice zBK xL1.Steps.length zBC)]) zKY zEH (h1.ev rfl) (zL.take (rdR hRu195 hcu195 h2) 8) rfl) ?_
  refine Tr.alloc 11 (wn rfl) rfl ze_46 fun b196 => ?_
  refine Tr.store 11 (cs := [(iv xL1.Kind), (sv xL1.Name), (iv xL1.At.X), (iv xL1.At.Y), (.slice zBL xL1.Points.length zBD), (iv xL1.NX), (iv xL1.NY), (.slice zBK xL1.Steps.length zBC)]) [(iv xL1.Kind), (sv xL1.Name), (iv xL1.At.X), (iv xL1.At.Y), (.slice zBL xL1.Points.length zBD), (iv xL1.NX), (iv xL1.NY), (.slice zBK xL1.Steps.length zBC)] (wn rfl) rfl rfl rfl rfl zEH rfl rfl rfl ?_
  refine Tr.nil (Tr.zA (Tr.sr (Tr.va rfl (fun _ _ h1 h2 => zB zGw (h1.ev rfl)) ?_)))
  refine Tr.va rfl (fun _ _ h1 h2 => zC QO (h1.ev rfl) (rdb h2 (vs := [(iv xL1.Kind), (sv xL1.Name), (iv xL1.At.X), (iv xL1.At.Y), (.slice zBL xL1.Points.length zBD), (iv xL1.NX), (iv xL1.NY), (.slice zBK xL1.Steps.length zBC)]) (k := 11) rfl 0) rfl) ?_
  refine Tr.nil (Tr.zA (Tr.block (Tr.sr (Tr.va rfl (fun _ _ h1 h2 => Qk (h1.ev rfl) (h1.ev rfl)) ?_))))
  refine Tr.asg rfl rfl (Tr.nil (Tr.zA (Tr.cond rfl H (fun H => ?_) (fun H => ?_))))
  ·refine Tr.region (Tr.mv rfl rfl ?_)
   obtain ⟨y197, hy197, H⟩ := bnd H
   refine Tr.VP [0] [sb 95 5 bp0 Am194 cm194 m194] (U := (Option Addr × Nat)) (fun u => (.tuple #[(iv (((⟨#[100, 97, 114, 107, 10]⟩) : ByteArray).size : Int)), .nilIface])) (fun u => True) (fun u => [sb 95 5 bp0 u.1 u.2 y197]) rfl (zM rfl zY) (fun _ => rfl) (wn rfl) rfl Tryz.call45 (zF rfl (zF rfl zO)) (fun W hW hp hE => zg m194 Am194 cm194 bp0 (⟨#[100, 97, 114, 107, 10]⟩) y197 hy197 hE) ?_
   intro u hu
   obtain ⟨Ay197_0, cy197_0⟩ := u
   have gy197_0 := hu
   have hgy197_0 : True := gy197_0 --@phi
   show Tr _ _ (uf _ 17 (.tuple #[(iv (((⟨#[100, 97, 114, 107, 10]⟩) : ByteArray).size : Int)), .nilIface])) (up _ 0 (sb 95 5 bp0 Ay197_0 cy197_0 y197)) _
   refine Tr.nil (Tr.zW (Tr.zW (Tr.zA ?_)))
   refine Tr.region (Tr.va rfl (fun _ _ h1 h2 => zx (h1.ev rfl) (h1.ev rfl)) ?_)
   exact Tr.mv rfl rfl (Tr.nil (Tr.zZ QW (QF, (iL1 + 1), y197, Ay197_0, cy197_0) ⟨rfl, Qg QP, zo QP, H⟩ (.cons rfl (.cons rfl (.cons rfl (.cons (congrArg (fun z => some (Value.int .i64 z)) (Qf QP QV.form)) .nil)))) (.cons rfl .nil)))
  ·refine Tr.sr (Tr.va rfl (fun _ _ h1 h2 => Qk (h1.ev rfl) (h1.ev rfl)) ?_)
   refine Tr.asg rfl rfl (Tr.nil (Tr.zA (Tr.cond rfl H (fun H => ?_) (fun H => ?_))))
   ·refine Tr.region (Tr.mv rfl rfl ?_)
    obtain ⟨y199, hy199, H⟩ := bnd H
    refine Tr.VP [0] [sb 95 5 bp0 Am194 cm194 m194] (U := (Option Addr × Nat)) (fun u => (.tuple #[(iv (((⟨#[99, 108, 101, 97, 114, 10]⟩) : ByteArray).size : Int)), .nilIface])) (fun u => True) (fun u => [sb 95 5 bp0 u.1 u.2 y199]) rfl (zM rfl zY) (fun _ => rfl) (wn rfl) rfl Tryz.call45 (zF rfl (zF rfl zO)) (fun W hW hp hE => zg m194 Am194 cm194 bp0 (⟨#[99, 108, 101, 97, 114, 10]⟩) y199 hy199 hE) ?_
    intro u hu
    obtain ⟨Ay199_0, cy199_0⟩ := u
    have gy199_0 := hu
    have hgy199_0 : True := gy199_0 --@phi
    show Tr _ _ (uf _ 21 (.tuple #[(iv (((⟨#[99, 108, 101, 97, 114, 10]⟩) : ByteArray).size : Int)), .nilIface])) (up _ 0 (sb 95 5 bp0 Ay199_0 cy199_0 y199)) _
    refine Tr.nil (Tr.zW (Tr.zW (Tr.zA ?_)))
    refine Tr.region (Tr.va rfl (fun _ _ h1 h2 => zx (h1.ev rfl) (h1.ev rfl)) ?_)
    exact Tr.mv rfl rfl (Tr.nil (Tr.zZ QW (QF, (iL1 + 1), y199, Ay199_0, cy199_0) ⟨rfl, Qg QP, zo QP, H⟩ (.cons rfl (.cons rfl (.cons rfl (.cons (congrArg (fun z => some (Value.int .i64 z)) (Qf QP QV.form)) .nil)))) (.cons rfl .nil)))
   ·refine Tr.sr (Tr.va rfl (fun _ _ h1 h2 => Qk (h1.ev rfl) (h1.ev rfl)) ?_)
    refine Tr.asg rfl rfl (Tr.nil (Tr.zA (Tr.cond rfl H (fun H => ?_) (fun H => ?_))))
    ·refine Tr.region (Tr.mv rfl rfl (Tr.va rfl (fun _ _ h1 h2 => zB zIg (h1.ev rfl)) ?_))
     refine Tr.va rfl (fun _ _ h1 h2 => zC zKX (h1.ev rfl) (rdb h2 (vs := [(iv xL1.Kind), (sv xL1.Name), (iv xL1.At.X), (iv xL1.At.Y), (.slice zBL xL1.Points.length zBD), (iv xL1.NX), (iv xL1.NY), (.slice zBK xL1.Steps.length zBC)]) (k := 11) rfl 1) rfl) ?_
     obtain ⟨t201, ht201, H⟩ := bnd H
     refine Tr.va rfl (fun _ _ h1 h2 => VJ (h1.ev rfl) (h1.ev rfl) ht201) ?_
     obtain ⟨t202, ht202, H⟩ := bnd H
     refine Tr.va rfl (fun _ _ h1 h2 => VJ (h1.ev rfl) (h1.ev rfl) ht202) ?_
     obtain ⟨y203, hy203, H⟩ := bnd H
     refine Tr.VP [0] [sb 95 5 bp0 Am194 cm194 m194] (U := (Option Addr × Nat)) (fun u => (.tuple #[(iv ((t202 : ByteArray).size : Int)), .nilIface])) (fun u => True) (fun u => [sb 95 5 bp0 u.1 u.2 y203]) rfl (zM rfl zY) (fun _ => rfl) (wn rfl) rfl Tryz.call45 (zF rfl (zF rfl zO)) (fun W hW hp hE => zg m194 Am194 cm194 bp0 t202 y203 hy203 hE) ?_
     intro u hu
     obtain ⟨Ay203_0, cy203_0⟩ := u
     have gy203_0 := hu
     have hgy203_0 : True := gy203_0 --@phi
     show Tr _ _ (uf _ 29 (.tuple #[(iv ((t202 : ByteArray).size : Int)), .nilIface])) (up _ 0 (sb 95 5 bp0 Ay203_0 cy203_0 y203)) _
     refine Tr.nil (Tr.zW (Tr.zW (Tr.zA ?_)))
     refine Tr.region (Tr.va rfl (fun _ _ h1 h2 => zx (h1.ev rfl) (h1.ev rfl)) ?_)
     exact Tr.mv rfl rfl (Tr.nil (Tr.zZ QW (QF, (iL1 + 1), y203, Ay203_0, cy203_0) ⟨rfl, Qg QP, zo QP, H⟩ (.cons rfl (.cons rfl (.cons rfl (.cons (congrArg (fun z => some (Value.int .i64 z)) (Qf QP QV.form)) .nil)))) (.cons rfl .nil)))
    ·refine Tr.sr (Tr.va rfl (fun _ _ h1 h2 => Qk (h1.ev rfl) (h1.ev rfl)) ?_)
     refine Tr.asg rfl rfl (Tr.nil (Tr.zA (Tr.cond rfl H (fun H => ?_) (fun H => ?_))))
     ·refine Tr.region (Tr.mv rfl rfl (Tr.va rfl (fun _ _ h1 h2 => zB zB6 (h1.ev rfl)) ?_))
      refine Tr.va rfl (fun _ _ h1 h2 => zR (cs := [(iv xL1.At.X), (iv xL1.At.Y)]) KF JB (h1.ev rfl) (zL.take (rdb h2 (vs := [(iv xL1.Kind), (sv xL1.Name), (iv xL1.At.X), (iv xL1.At.Y), (.slice zBL xL1.Points.length zBD), (iv xL1.NX), (iv xL1.NY), (.slice zBK xL1.Steps.length zBC)]) (k := 11) rfl 2) 2) rfl) ?_
      refine Tr.buildSlice 12 (e := 43) (vs := [(0, (.agg #[(iv xL1.At.X), (iv xL1.At.Y)]))]) (cs := [(iv xL1.At.X), (iv xL1.At.Y)]) (wn rfl) rfl (zi rfl Qb) (by kernel_rfl) fun b205 => ?_
      refine Tr.own 12 zy [xL1.At] (css := [[(iv xL1.At.X), (iv xL1.At.Y)]]) rfl (.cons ⟨(), trivial, rfl⟩ .nil) rfl (by decide) (zCx rfl) ?_
      obtain ⟨y206, hy206, H⟩ := bnd H
      refine Tr.Qp (r := (sv y206)) (wn rfl) rfl Tryz.call47 (zF rfl zO) (fun W hW => We [xL1.At] (some ⟨b205, 0, none⟩) 1 (hW.zEA (k := 12) rfl) y206 hy206 (HF.start _)) ?_
      obtain ⟨t207, ht207, H⟩ := bnd H
      refine Tr.va rfl (fun _ _ h1 h2 => VJ (h1.ev rfl) (h1.ev rfl) ht207) ?_
      obtain ⟨t208, ht208, H⟩ := bnd H
      refine Tr.va rfl (fun _ _ h1 h2 => VJ (h1.ev rfl) (h1.ev rfl) ht208) ?_
      obtain ⟨zKp, hy209, H⟩ := bnd H
      refine Tr.VP [0] [sb 95 5 bp0 Am194 cm194 m194] (U := (Option Addr × Nat)) (fun u => (.tuple #[(iv ((t208 : ByteArray).size : Int)), .nilIface])) (fun u => True) (fun u => [sb 95 5 bp0 u.1 u.2 zKp]) rfl (zM rfl zY) (fun _ => rfl) (wn rfl) rfl Tryz.call45 (zF rfl (zF rfl zO)) (fun W hW hp hE => zg m194 Am194 cm194 bp0 t208 zKp hy209 hE) ?_
      intro u hu
      obtain ⟨zKh, zKP⟩ := u
      have gy209_0 := hu
      have hgy209_0 : True := gy209_0 --@phi
      show Tr _ _ (uf _ 39 (.tuple #[(iv ((t208 : ByteArray).size : Int)), .nilIface])) (up _ 0 (sb 95 5 bp0 zKh zKP zKp)) _
      refine Tr.nil (Tr.zW (Tr.zW (Tr.zA ?_)))
      refine Tr.region (Tr.va rfl (fun _ _ h1 h2 => zx (h1.ev rfl) (h1.ev rfl)) ?_)
      exact Tr.mv rfl rfl (Tr.nil (Tr.zZ QW (QF, (iL1 + 1), zKp, zKh, zKP) ⟨rfl, Qg QP, zo QP, H⟩ (.cons rfl (.cons rfl (.cons rfl (.cons (congrArg (fun z => some (Value.int .i64 z)) (Qf QP QV.form)) .nil)))) (.cons rfl .nil)))
     ·refine Tr.sr (Tr.va rfl (fun _ _ h1 h2 => Qk (h1.ev rfl) (h1.ev rfl)) ?_)
      refine Tr.asg rfl rfl (Tr.nil (Tr.zA (Tr.cond rfl H (fun H => ?_) (fun H => ?_))))
      ·refine Tr.region (Tr.mv rfl rfl (Tr.va rfl (fun _ _ h1 h2 => zB zB6 (h1.ev rfl)) ?_))
       refine Tr.va rfl (fun _ _ h1 h2 => zR (cs := [(iv xL1.At.X), (iv xL1.At.Y)]) KF JB (h1.ev rfl) (zL.take (rdb h2 (vs := [(iv xL1.Kind), (sv xL1.Name), (iv xL1.At.X), (iv xL1.At.Y), (.slice zBL xL1.Points.length zBD), (iv xL1.NX), (iv xL1.NY), (.slice zBK xL1.Steps.length zBC)]) (k := 11) rfl 2) 2) rfl) ?_
       refine Tr.buildSlice 13 (e := 43) (vs := [(0, (.agg #[(iv xL1.At.X), (iv xL1.At.Y)]))]) (cs := [(iv xL1.At.X), (iv xL1.At.Y)]) (wn rfl) rfl (zi rfl Qb) (by kernel_rfl) fun b211 => ?_
       refine Tr.own 13 zy [xL1.At] (css := [[(iv xL1.At.X), (iv xL1.At.Y)]]) rfl (.cons ⟨(), trivial, rfl⟩ .nil) rfl (by decide) (zCx rfl) ?_
       obtain ⟨zCo, hy212, H⟩ := bnd H
       refine Tr.Qp (r := (sv zCo)) (wn rfl) rfl Tryz.call47 (zF rfl zO) (fun W hW => We [xL1.At] (some ⟨b211, 0, none⟩) 1 (hW.zEA (k := 13) rfl) zCo hy212 (HF.start _)) ?_
       obtain ⟨t213, ht213, H⟩ := bnd H
       refine Tr.va rfl (fun _ _ h1 h2 => VJ (h1.ev rfl) (h1.ev rfl) ht213) ?_
       obtain ⟨t214, ht214, H⟩ := bnd H
       refine Tr.va rfl (fun _ _ h1 h2 => VJ (h1.ev rfl) (h1.ev rfl) ht214) ?_
       obtain ⟨y215, hy215, H⟩ := bnd H
       refine Tr.VP [0] [sb 95 5 bp0 Am194 cm194 m194] (U := (Option Addr × Nat)) (fun u => (.tuple #[(iv ((t214 : ByteArray).size : Int)), .nilIface])) (fun u => True) (fun u => [sb 95 5 bp0 u.1 u.2 y215]) rfl (zM rfl zY) (fun _ => rfl) (wn rfl) rfl Tryz.call45 (zF rfl (zF rfl zO)) (fun W hW hp hE => zg m194 Am194 cm194 bp0 t214 y215 hy215 hE) ?_
       intro u hu
       obtain ⟨Ay215_0, cy215_0⟩ := u
       have gy215_0 := hu
       have hgy215_0 : True := gy215_0 --@phi
       show Tr _ _ (uf _ 49 (.tuple #[(iv ((t214 : ByteArray).size : Int)), .nilIface])) (up _ 0 (sb 95 5 bp0 Ay215_0 cy215_0 y215)) _
       refine Tr.nil (Tr.zW (Tr.zW (Tr.zA ?_)))
       refine Tr.region (Tr.va rfl (fun _ _ h1 h2 => zx (h1.ev rfl) (h1.ev rfl)) ?_)
       exact Tr.mv rfl rfl (Tr.nil (Tr.zZ QW (QF, (iL1 + 1), y215, Ay215_0, cy215_0) ⟨rfl, Qg QP, zo QP, H⟩ (.cons rfl (.cons rfl (.cons rfl (.cons (congrArg (fun z => some (Value.int .i64 z)) (Qf QP QV.form)) .nil)))) (.cons rfl .nil)))
      ·refine Tr.sr (Tr.va rfl (fun _ _ h1 h2 => Qk (h1.ev rfl) (h1.ev rfl)) ?_)
       refine Tr.asg rfl rfl (Tr.nil (Tr.zA (Tr.cond rfl H (fun H => ?_) (fun H => ?_))))
       ·refine Tr.region (Tr.mv rfl rfl (Tr.va rfl (fun _ _ h1 h2 => zB zB6 (h1.ev rfl)) ?_))
        refine Tr.va rfl (fun _ _ h1 h2 => zR (cs := [(iv xL1.At.X), (iv xL1.At.Y)]) KF JB (h1.ev rfl) (zL.take (rdb h2 (vs := [(iv xL1.Kind), (sv xL1.Name), (iv xL1.At.X), (iv xL1.At.Y), (.slice zBL xL1.Points.length zBD), (iv xL1.NX), (iv xL1.NY), (.slice zBK xL1.Steps.length zBC)]) (k := 11) rfl 2) 2) rfl) ?_
        refine Tr.buildSlice 14 (e := 43) (vs := [(0, (.agg #[(iv xL1.At.X), (iv xL1.At.Y)]))]) (cs := [(iv xL1.At.X), (iv xL1.At.Y)]) (wn rfl) rfl (zi rfl Qb) (by kernel_rfl) fun b217 => ?_
        refine Tr.own 14 zy [xL1.At] (css := [[(iv xL1.At.X), (iv xL1.At.Y)]]) rfl (.cons ⟨(), trivial, rfl⟩ .nil) rfl (by decide) (zCx rfl) ?_
        obtain ⟨y218, hy218, H⟩ := bnd H
        refine Tr.Qp (r := (sv y218)) (wn rfl) rfl Tryz.call47 (zF rfl zO) (fun W hW => We [xL1.At] (some ⟨b217, 0, none⟩) 1 (hW.zEA (k := 14) rfl) y218 hy218 (HF.start _)) ?_
        obtain ⟨t219, ht219, H⟩ := bnd H
        refine Tr.va rfl (fun _ _ h1 h2 => VJ (h1.ev rfl) (h1.ev rfl) ht219) ?_
        obtain ⟨t220, ht220, H⟩ := bnd H
        refine Tr.va rfl (fun _ _ h1 h2 => VJ (h1.ev rfl) (h1.ev rfl) ht220) ?_
        obtain ⟨y221, hy221, H⟩ := bnd H
        refine Tr.VP [0] [sb 95 5 bp0 Am194 cm194 m194] (U := (Option Addr × Nat)) (fun u => (.tuple #[(iv ((t220 : ByteArray).size : Int)), .nilIface])) (fun u => True) (fun u => [sb 95 5 bp0 u.1 u.2 y221]) rfl (zM rfl zY) (fun _ => rfl) (wn rfl) rfl Tryz.call45 (zF rfl (zF rfl zO)) (fun W hW hp hE => zg m194 Am194 cm194 bp0 t220 y221 hy221 hE) ?_
        intro u hu
        obtain ⟨Ay221_0, cy221_0⟩ := u
        have gy221_0 := hu
        have hgy221_0 : True := gy221_0 --@phi
        show Tr _ _ (uf _ 59 (.tuple #[(iv ((t220 : ByteArray).size : Int)), .nilIface])) (up _ 0 (sb 95 5 bp0 Ay221_0 cy221_0 y221)) _
        refine Tr.nil (Tr.zW (Tr.zW (Tr.zA ?_)))
        refine Tr.region (Tr.va rfl (fun _ _ h1 h2 => zx (h1.ev rfl) (h1.ev rfl)) ?_)
        exact Tr.mv rfl rfl (Tr.nil (Tr.zZ QW (QF, (iL1 + 1), y221, Ay221_0, cy221_0) ⟨rfl, Qg QP, zo QP, H⟩ (.cons rfl (.cons rfl (.cons rfl (.cons (congrArg (fun z => some (Value.int .i64 z)) (Qf QP QV.form)) .nil)))) (.cons rfl .nil)))
       ·refine Tr.sr (Tr.va rfl (fun _ _ h1 h2 => Qk (h1.ev rfl) (h1.ev rfl)) ?_)
        refine Tr.asg rfl rfl (Tr.nil (Tr.zA (Tr.cond rfl H (fun H => ?_) (fun H => ?_))))
        ·refine Tr.region (Tr.mv rfl rfl (Tr.va rfl (fun _ _ h1 h2 => zB zB5 (h1.ev rfl)) ?_))
         refine Tr.va rfl (fun _ _ h1 h2 => zC zGU (h1.ev rfl) (rdb h2 (vs := [(iv xL1.Kind), (sv xL1.Name), (iv xL1.At.X), (iv xL1.At.Y), (.slice zBL xL1.Points.length zBD), (iv xL1.NX), (iv xL1.NY), (.slice zBK xL1.Steps.length zBC)]) (k := 11) rfl 4) rfl) ?_
         obtain ⟨y223, hy223, H⟩ := bnd H
         refine Tr.Qp (r := (sv y223)) (wn rfl) rfl Tryz.call47 (zF rfl zO) (fun W hW => We xL1.Points zBL zBD (hoku195_0.ext hW.QZ) y223 hy223 (HF.start _)) ?_
         obtain ⟨t224, ht224, H⟩ := bnd H
         refine Tr.va rfl (fun _ _ h1 h2 => VJ (h1.ev rfl) (h1.ev rfl) ht224) ?_
         obtain ⟨t225, ht225, H⟩ := bnd H
         refine Tr.va rfl (fun _ _ h1 h2 => VJ (h1.ev rfl) (h1.ev rfl) ht225) ?_
         obtain ⟨y226, hy226, H⟩ := bnd H
         refine Tr.VP [0] [sb 95 5 bp0 Am194 cm194 m194] (U := (Option Addr × Nat)) (fun u => (.tuple #[(iv ((t225 : ByteArray).size : Int)), .nilIface])) (fun u => True) (fun u => [sb 95 5 bp0 u.1 u.2 y226]) rfl (zM rfl zY) (fun _ => rfl) (wn rfl) rfl Tryz.call45 (zF rfl (zF rfl zO)) (fun W hW hp hE => zg m194 Am194 cm194 bp0 t225 y226 hy226 hE) ?_
         intro u hu
         obtain ⟨Ay226_0, cy226_0⟩ := u
         have gy226_0 := hu
         have hgy226_0 : True := gy226_0 --@phi
         show Tr _ _ (uf _ 68 (.tuple #[(iv ((t225 : ByteArray).size : Int)), .nilIface])) (up _ 0 (sb 95 5 bp0 Ay226_0 cy226_0 y226)) _
         refine Tr.nil (Tr.zW (Tr.zW (Tr.zA ?_)))
         refine Tr.region (Tr.va rfl (fun _ _ h1 h2 => zx (h1.ev rfl) (h1.ev rfl)) ?_)
         exact Tr.mv rfl rfl (Tr.nil (Tr.zZ QW (QF, (iL1 + 1), y226, Ay226_0, cy226_0) ⟨rfl, Qg QP, zo QP, H⟩ (.cons rfl (.cons rfl (.cons rfl (.cons (congrArg (fun z => some (Value.int .i64 z)) (Qf QP QV.form)) .nil)))) (.cons rfl .nil)))
        ·refine Tr.sr (Tr.va rfl (fun _ _ h1 h2 => Qk (h1.ev rfl) (h1.ev rfl)) ?_)
         refine Tr.asg rfl rfl (Tr.nil (Tr.zA (Tr.cond rfl H (fun H => ?_) (fun H => ?_))))
         ·refine Tr.sr (Tr.mv rfl rfl (Tr.va rfl (fun _ _ h1 h2 => zB zGv (h1.ev rfl)) ?_))
          refine Tr.va rfl (fun _ _ h1 h2 => zC QO (h1.ev rfl) (rdb h2 (vs := [(iv xL1.Kind), (sv xL1.Name), (iv xL1.At.X), (iv xL1.At.Y), (.slice zBL xL1.Points.length zBD), (iv xL1.NX), (iv xL1.NY), (.slice zBK xL1.Steps.length zBC)]) (k := 11) rfl 5) rfl) ?_
          refine Tr.va rfl (fun _ _ h1 h2 => zB zGu (h1.ev rfl)) ?_
          refine Tr.va rfl (fun _ _ h1 h2 => zC QO (h1.ev rfl) (rdb h2 (vs := [(iv xL1.Kind), (sv xL1.Name), (iv xL1.At.X), (iv xL1.At.Y), (.slice zBL xL1.Points.length zBD), (iv xL1.NX), (iv xL1.NY), (.slice zBK xL1.Steps.length zBC)]) (k := 11) rfl 6) rfl) ?_
          refine Tr.build (vs := [(0, (iv xL1.NX)), (1, (iv xL1.NY))]) (cs := [(iv xL1.NX), (iv xL1.NY)]) (wn rfl) rfl (zi rfl (zi rfl Qb)) (by kernel_rfl) ?_
          refine Tr.va rfl (fun _ _ h1 h2 => zB zB6 (h1.ev rfl)) ?_
          refine Tr.va rfl (fun _ _ h1 h2 => zR (cs := [(iv xL1.At.X), (iv xL1.At.Y)]) KF JB (h1.ev rfl) (zL.take (rdb h2 (vs := [(iv xL1.Kind), (sv xL1.Name), (iv xL1.At.X), (iv xL1.At.Y), (.slice zBL xL1.Points.length zBD), (iv xL1.NX), (iv xL1.NY), (.slice zBK xL1.Steps.length zBC)]) (k := 11) rfl 2) 2) rfl) ?_
          refine Tr.buildSlice 15 (e := 43) (vs := [(0, (.agg #[(iv xL1.NX), (iv xL1.NY)])), (1, (.agg #[(iv xL1.At.X), (iv xL1.At.Y)]))]) (cs := [(iv xL1.NX), (iv xL1.NY), (iv xL1.At.X), (iv xL1.At.Y)]) (wn rfl) rfl (zi rfl (zi rfl Qb)) (by kernel_rfl) fun b228 => ?_
          refine Tr.own 15 zy [(zI.mk xL1.NX xL1.NY), xL1.At] (css := [[(iv xL1.NX), (iv xL1.NY)], [(iv xL1.At.X), (iv xL1.At.Y)]]) rfl (.cons ⟨(), trivial, rfl⟩ (.cons ⟨(), trivial, rfl⟩ .nil)) rfl (by decide) (zCx rfl) ?_
          obtain ⟨y229, hy229, H⟩ := bnd H
          refine Tr.Qp (r := (sv y229)) (wn rfl) rfl Tryz.call47 (zF rfl zO) (fun W hW => We [(zI.mk xL1.NX xL1.NY), xL1.At] (some ⟨b228, 0, none⟩) 2 (hW.zEA (k := 15) rfl) y229 hy229 (HF.start _)) ?_
          obtain ⟨t230, ht230, H⟩ := bnd H
          refine Tr.va rfl (fun _ _ h1 h2 => VJ (h1.ev rfl) (h1.ev rfl) ht230) ?_
          obtain ⟨t231, ht231, H⟩ := bnd H
          refine Tr.va rfl (fun _ _ h1 h2 => VJ (h1.ev rfl) (h1.ev rfl) ht231) ?_
          obtain ⟨y232, hy232, H⟩ := bnd H
          refine Tr.VP [0] [sb 95 5 bp0 Am194 cm194 m194] (U := (Option Addr × Nat)) (fun u => (.tuple #[(iv ((t231 : ByteArray).size : Int)), .nilIface])) (fun u => True) (fun u => [sb 95 5 bp0 u.1 u.2 y232]) rfl (zM rfl zY) (fun _ => rfl) (wn rfl) rfl Tryz.call45 (zF rfl (zF rfl zO)) (fun W hW hp hE => zg m194 Am194 cm194 bp0 t231 y232 hy232 hE) ?_
          intro u hu
          obtain ⟨Ay232_0, cy232_0⟩ := u
          have gy232_0 := hu
          have hgy232_0 : True := gy232_0 --@phi
          show Tr _ _ (uf _ 83 (.tuple #[(iv ((t231 : ByteArray).size : Int)), .nilIface])) (up _ 0 (sb 95 5 bp0 Ay232_0 cy232_0 y232)) _
          refine Tr.nil (Tr.zA (Tr.sr (Tr.mv rfl rfl (Tr.va rfl (fun _ _ h1 h2 => zB zC1 (h1.ev rfl)) ?_))))
          refine Tr.va rfl (fun _ _ h1 h2 => zC zDu (h1.ev rfl) (rdb h2 (vs := [(iv xL1.Kind), (sv xL1.Name), (iv xL1.At.X), (iv xL1.At.Y), (.slice zBL xL1.Points.length zBD), (iv xL1.NX), (iv xL1.NY), (.slice zBK xL1.Steps.length zBC)]) (k := 11) rfl 7) rfl) ?_
          obtain ⟨y234, hy234, H⟩ := bnd H
          refine Tr.VP [0] [sb 95 5 bp0 Ay232_0 cy232_0 y232] (U := (Option Addr × Nat)) (fun u => (.tuple #[])) (fun u => True) (fun u => [sb 95 5 bp0 u.1 u.2 y234]) rfl (zM rfl zY) (fun _ => rfl) (wn rfl) rfl Tryz.call48 (zF rfl (zF rfl zO)) (fun W hW hp hE => hrec y232 Ay232_0 cy232_0 bp0 xL1.Steps zBK zBC (hoku195_1.ext (hW.QS hp)) y234 hy234 hE) ?_
          intro u hu
          obtain ⟨Ay234_0, cy234_0⟩ := u
          have gy234_0 := hu
          have hgy234_0 : True := gy234_0 --@phi
          show Tr _ _ (uf _ 87 (.tuple #[])) (up _ 0 (sb 95 5 bp0 Ay234_0 cy234_0 y234)) _
          refine Tr.nil (Tr.zA (Tr.region (Tr.mv rfl rfl ?_)))
          obtain ⟨y236, hy236, H⟩ := bnd H
          refine Tr.VP [0] [sb 95 5 bp0 Ay234_0 cy234_0 y234] (U := (Option Addr × Nat)) (fun u => (.tuple #[(iv (((⟨#[100, 111, 110, 101, 10]⟩) : ByteArray).size : Int)), .nilIface])) (fun u => True) (fun u => [sb 95 5 bp0 u.1 u.2 y236]) rfl (zM rfl zY) (fun _ => rfl) (wn rfl) rfl Tryz.call45 (zF rfl (zF rfl zO)) (fun W hW hp hE => zg y234 Ay234_0 cy234_0 bp0 (⟨#[100, 111, 110, 101, 10]⟩) y236 hy236 hE) ?_
          intro u hu
          obtain ⟨Ay236_0, cy236_0⟩ := u
          have gy236_0 := hu
          have hgy236_0 : True := gy236_0 --@phi
          show Tr _ _ (uf _ 89 (.tuple #[(iv (((⟨#[100, 111, 110, 101, 10]⟩) : ByteArray).size : Int)), .nilIface])) (up _ 0 (sb 95 5 bp0 Ay236_0 cy236_0 y236)) _
          refine Tr.nil (Tr.zW (Tr.zW (Tr.zA ?_)))
          refine Tr.region (Tr.va rfl (fun _ _ h1 h2 => zx (h1.ev rfl) (h1.ev rfl)) ?_)
          exact Tr.mv rfl rfl (Tr.nil (Tr.zZ QW (QF, (iL1 + 1), y236, Ay236_0, cy236_0) ⟨rfl, Qg QP, zo QP, H⟩ (.cons rfl (.cons rfl (.cons rfl (.cons (congrArg (fun z => some (Value.int .i64 z)) (Qf QP QV.form)) .nil)))) (.cons rfl .nil)))
         ·refine Tr.skip (Tr.zW (Tr.zW (Tr.zA ?_)))
          refine Tr.region (Tr.va rfl (fun _ _ h1 h2 => zx (h1.ev rfl) (h1.ev rfl)) ?_)
          exact Tr.mv rfl rfl (Tr.nil (Tr.zZ QW (QF, (iL1 + 1), m194, Am194, cm194) ⟨rfl, Qg QP, zo QP, H⟩ (.cons rfl (.cons rfl (.cons rfl (.cons (congrArg (fun z => some (Value.int .i64 z)) (Qf QP QV.form)) .nil)))) (.cons rfl .nil)))
theorem zDx : ∀ (N : Nat) {w : Bs} (p0 : ByteArray) (QA : Option Addr) (QB : Nat) (bp0 : Nat) (p1 : (List zD)) (QG : Option Addr) (QH : Nat) (QV : Sl w.R w.W zG QG QH p1) (r : ByteArray) (H : zBc N p0 p1 = some r) (hE : HF w w.W (LEn [sb 95 5 bp0 QA QB p0])), Calls Tryz.prog 48 [(.pointer (some ⟨bp0, 0, none⟩)), (.slice QG p1.length QH)].toArray w.W fun e W' => ∃ u : (Option Addr × Nat), e = .returned (.tuple #[]) ∧ (True) ∧ HF w W' (LEn [sb 95 5 bp0 u.1 u.2 r])
 | 0 => by intros; rename_i H _; cases H
 | N + 1 => zHA N (zBc N) (zDx N)

theorem zF4 {w : Bs} (p0 : ByteArray) (QA : Option Addr) (QB : Nat) (bp0 : Nat) (r : (Int × ByteArray)) (H : sbL p0 = some r) (hE : HF w w.W (LEn [sb 95 5 bp0 QA QB p0])) : Calls Tryz.prog 49 [(.pointer (some ⟨bp0, 0, none⟩))].toArray w.W fun e W' => ∃ u : (Option Addr × Nat), e = .returned (iv r.1) ∧ (True) ∧ HF w W' (LEn [sb 95 5 bp0 u.1 u.2 r.2]) :=
 sb_len (ρ := Tryz.bld49_ren) Tryz.bld49 H hE

end Go.Proofs.YtoageaoknnnfbaaGreatDoor
namespace Go.Proofs
open Go.Shelf
def Tryz.bld50_ren : Go.Shelf.Ren := ⟨fun | 169 => 50 | n => n, fun | 5 => 5 | 37 => 93 | 70 => 92 | 72 => 95 | 127 => 132 | n => n, fun n => n⟩
theorem Tryz.bld50 : Go.Proofs.Lays.n169 Tryz.prog Tryz.bld50_ren := {
 mixed := by kernel_rfl
 f169 := Tryz.func50.trans (congrArg some (by kernel_rfl))
 t0 := Tryz.underlying0
 a0 := Tryz.isAgg0
 z0 := Tryz.sizeOf0
 v0 := Tryz.zeroValue0
 t3 := Tryz.underlying3
 a3 := Tryz.isAgg3
 z3 := Tryz.sizeOf3
 v3 := Tryz.zeroValue3
 t9 := Tryz.underlying9
 a9 := Tryz.isAgg9
 z9 := Tryz.sizeOf9
 v9 := Tryz.zeroValue9
 t37 := Tryz.underlying93
 a37 := Tryz.isAgg93
 z37 := Tryz.sizeOf93
 v37 := Tryz.zeroValue93
 t70 := Tryz.underlying92
 a70 := Tryz.isAgg92
 z70 := Tryz.sizeOf92
 v70 := Tryz.zeroValue92
 t72 := Tryz.underlying95
 a72 := Tryz.isAgg95
 z72 := Tryz.sizeOf95
 v72 := Tryz.zeroValue95
 t127 := Tryz.underlying132
 a127 := Tryz.isAgg132
 z127 := Tryz.sizeOf132
 v127 := Tryz.zeroValue132
}
end Go.Proofs
namespace Go.Proofs.YtoageaoknnnfbaaGreatDoor
open Go.RowKit
theorem bX50 : Builder.Extra Tryz.prog Tryz.bld50_ren where
 sizeBuilder := by kernel_rfl
 liesBuilder := by kernel_rfl
 t5 := Tryz.underlying5
 a5 := Tryz.isAgg5
 z5 := Tryz.sizeOf5
 v5 := Tryz.zeroValue5
 infoByte := by kernel_rfl
 cellsByte := by kernel_rfl
 sizeByte := by kernel_rfl
 neB5 := by decide
theorem zEb {w : Bs} (p0 : ByteArray) (QA : Option Addr) (QB : Nat) (bp0 : Nat) (r : (ByteArray × ByteArray)) (H : sbS p0 = some r) (hE : HF w w.W (LEn [sb 95 5 bp0 QA QB p0])) : Calls Tryz.prog 50 [(.pointer (some ⟨bp0, 0, none⟩))].toArray w.W fun e W' => ∃ u : (Option Addr × Nat), e = .returned (sv r.1) ∧ (True) ∧ HF w W' (LEn [sb 95 5 bp0 u.1 u.2 r.2]) :=
 sb_string (ρ := Tryz.bld50_ren) Tryz.bld50 bX50 H hE

theorem F_plot_Text_ok (N : Nat) {w : Bs} (p0 : zt) (QA : Option Addr) (QB : Nat) (QE : Sl w.R w.W zK QA QB p0.Tools) (QD : Option Addr) (QC : Nat) (QU : Sl w.R w.W zG QD QC p0.Steps) (r : (ByteArray × Int)) (H : zD1 N p0 = some r) (hE : HF w w.W E0) : Calls Tryz.prog 25 [(.agg #[(iv p0.Unit), (.slice QA p0.Tools.length QB), (.slice QD p0.Steps.length QC)])].toArray w.W fun e W' => e = .returned (.tuple #[(sv r.1), (iv r.2)]) ∧ HF w W' E0 := by
 unfold zD1 at H
 have leB := Bs.Le.refl w
 refine Tr.enter (n := 61) Tryz.func25 rfl rfl rfl hE ?_
 refine Tr.sr (Tr.box 1 (cs := [(iv p0.Unit), (.slice QA p0.Tools.length QB), (.slice QD p0.Steps.length QC)]) (wn rfl) rfl rfl rfl fun QM => ?_)
 refine Tr.asg rfl rfl (Tr.asg rfl rfl (Tr.nil (Tr.zA (Tr.seq (Tr.sr (Tr.va rfl (fun _ _ h1 h2 => zR (cs := [(iv p0.Unit), (.slice QA p0.Tools.length QB), (.slice QD p0.Steps.length QC)]) WK KR (h1.ev rfl) (zL.take (rdb h2 (vs := [(iv p0.Unit), (.slice QA p0.Tools.length QB), (.slice QD p0.Steps.length QC)]) (k := 1) rfl 0) 3) rfl) ?_))))))
 obtain ⟨y101, hy101, H⟩ := bnd H
 refine Tr.Qp (r := (iv y101)) (wn rfl) rfl Tryz.call21 (zF rfl zO) (fun W hW => zAf N p0 QA QB (QE.ext hW.QZ) QD QC (QU.ext hW.QZ) y101 hy101 (HF.start _)) ?_
 refine Tr.asg rfl rfl (Tr.nil (Tr.zA (Tr.sr (Tr.mv rfl rfl (Tr.va rfl (fun _ _ h1 h2 => Jv (h1.ev rfl) (h1.ev rfl)) ?_)))))
 refine Tr.nil (Tr.zA (Tr.cond rfl H (fun H => ?_) (fun H => ?_)))
 ·refine Tr.sr (Tr.mv rfl rfl (Tr.asg rfl rfl (Tr.asg rfl rfl (Tr.nil (Tr.zA (Tr.ret (Tr.zU ?_)))))))
  obtain rfl := Option.some.inj H
  exact Tr.out (m := [(sv ByteArray.empty), (iv y101)]) [] (zP rfl (zP rfl zQ)) (fun W hW => ⟨rfl, hW.low leB⟩)
 ·refine Tr.skip (Tr.zA (Tr.sr (Tr.sbNew (e := 5) 2 (wn rfl) rfl zb_95 fun zAo => ?_)))
  refine Tr.nil (Tr.zA (Tr.sr (Tr.va rfl (fun _ _ h1 h2 => zB Vg (h1.ev rfl)) ?_)))
  refine Tr.va rfl (fun _ _ h1 h2 => zC QO (h1.ev rfl) (rdb h2 (vs := [(iv p0.Unit), (.slice QA p0.Tools.length QB), (.slice QD p0.Steps.length QC)]) (k := 1) rfl 0) rfl) ?_
  obtain ⟨QJ, zCy, H⟩ := bnd H
  refine Tr.Qp (r := (sv QJ)) (wn rfl) rfl Tryz.call46 (zF rfl zO) (fun W hW => zC8 p0.Unit QJ zCy (HF.start _)) ?_
  obtain ⟨t104, ht104, H⟩ := bnd H
  refine Tr.va rfl (fun _ _ h1 h2 => VJ (h1.ev rfl) (h1.ev rfl) ht104) ?_
  obtain ⟨t105, ht105, H⟩ := bnd H
  refine Tr.va rfl (fun _ _ h1 h2 => VJ (h1.ev rfl) (h1.ev rfl) ht105) ?_
  obtain ⟨VU, zHu, H⟩ := bnd H
  refine Tr.VP [2] [sb 95 5 zAo none 0 ByteArray.empty] (U := (Option Addr × Nat)) (fun u => (.tuple #[(iv ((t105 : ByteArray).size : Int)), .nilIface])) (fun u => True) (fun u => [sb 95 5 zAo u.1 u.2 VU]) rfl (zM rfl zY) (fun _ => rfl) (wn rfl) rfl Tryz.call45 (zF rfl (zF rfl zO)) (fun W hW hp hE => zg ByteArray.empty none 0 zAo t105 VU zHu hE) ?_
  intro u hu
  obtain ⟨zAb, zAS⟩ := u
  have gy106_0 := hu
  have hgy106_0 : True := gy106_0 --@phi
  show Tr _ _ (uf _ 20 (.tuple #[(iv ((t105 : ByteArray).size : Int)), .nilIface])) (up _ 2 (sb 95 5 zAo zAb zAS VU)) _
  refine Tr.nil (Tr.zA (Tr.seq (Tr.sr (Tr.va rfl (fun _ _ h1 h2 => zB zBZ (h1.ev rfl)) ?_))))
  refine Tr.va rfl (fun _ _ h1 h2 => zC zFn (h1.ev rfl) (rdb h2 (vs := [(iv p0.Unit), (.slice QA p0.Tools.length QB), (.slice QD p0.Steps.length QC)]) (k := 1) rfl 1) rfl) ?_
  refine Tr.va rfl (fun _ _ h1 h2 => zq zHi (h1.ev rfl)) ?_
  refine Tr.mv rfl rfl (Tr.nil (Tr.zA (Tr.block (Tr.loop (σ := (List zS) × Nat × ByteArray × (Option Addr) × Nat) (fun m w s => m = s.1.length + 1 ∧ s.1 = List.drop s.2.1 p0.Tools ∧ s.2.1 ≤ p0.Tools.length ∧ Vr N p0 s.1 s.2.1 s.2.2.1 = some r) (fun s => [(1, (.pointer (some ⟨QM, 0, none⟩))), (5, (.pointer (some ⟨zAo, 0, none⟩))), (22, (.slice QA p0.Tools.length QB)), (23, (iv (p0.Tools.length : Int))), (24, (iv (s.2.1 : Int)))]) (fun s => [(1, bx QM #[(iv p0.Unit), (.slice QA p0.Tools.length QB), (.slice QD p0.Steps.length QC)] 25), (2, sb 95 5 zAo s.2.2.2.1 s.2.2.2.2 s.2.2.1)]) (p0.Tools.length + 1) (p0.Tools, 0, VU, zAb, zAS) ⟨rfl, rfl, Nat.zero_le _, H⟩ (.cons rfl (.cons rfl (.cons rfl (.cons rfl (.cons rfl .nil))))) (.cons rfl (.cons rfl .nil)) (fun _ _ h => absurd h.1 (by simp)) ?_))))
  intro w VK m s hs
  obtain ⟨Qh, iL3, m178, Am178, cm178⟩ := s
  obtain ⟨zGr, WR, hiL3, H⟩ := hs
  replace WR : Qh = List.drop iL3 p0.Tools := WR
  replace H : Vr N p0 Qh iL3 m178 = some r := H
  replace zGr : m + 1 = Qh.length + 1 := zGr
  replace QE := QE.leR VK
  replace QU := QU.leR VK
  replace leB := leB.trans VK
  obtain rfl : m = Qh.length := by omega
  clear zGr
  show Tr _ _ (LF [(1, (.pointer (some ⟨QM, 0, none⟩))), (5, (.pointer (some ⟨zAo, 0, none⟩))), (22, (.slice QA p0.Tools.length QB)), (23, (iv (p0.Tools.length : Int))), (24, (iv (iL3 : Int)))]) (LE [(1, bx QM #[(iv p0.Unit), (.slice QA p0.Tools.length QB), (.slice QD p0.Steps.length QC)] 25), (2, sb 95 5 zAo Am178 cm178 m178)]) _
  cases Qh with
  | nil =>
   rw [Vr.eq_1] at H
   refine Tr.sr (Tr.va rfl (fun _ _ h1 h2 => zz (h1.ev rfl) (h1.ev rfl)) ?_)
   refine Tr.nil (Tr.zA (Tr.seq (Tr.WJ rfl (Qy WR) ?_)))
   refine Tr.exit (Tr.zX (Tr.zX (Tr.zAC (Tr.zA (Tr.sr (Tr.va rfl (fun _ _ h1 h2 => zB zGx (h1.ev rfl)) ?_))))))
   refine Tr.va rfl (fun _ _ h1 h2 => zC zDu (h1.ev rfl) (rdb h2 (vs := [(iv p0.Unit), (.slice QA p0.Tools.length QB), (.slice QD p0.Steps.length QC)]) (k := 1) rfl 2) rfl) ?_
   obtain ⟨y179, hy179, H⟩ := bnd H
   refine Tr.VP [2] [sb 95 5 zAo Am178 cm178 m178] (U := (Option Addr × Nat)) (fun u => (.tuple #[])) (fun u => True) (fun u => [sb 95 5 zAo u.1 u.2 y179]) rfl (zM rfl zY) (fun _ => rfl) (wn rfl) rfl Tryz.call48 (zF rfl (zF rfl zO)) (fun W hW hp hE => zDx N m178 Am178 cm178 zAo p0.Steps QD QC (QU.ext (hW.QS hp)) y179 hy179 hE) ?_
   intro u hu
   obtain ⟨Ay179_0, cy179_0⟩ := u
   have gy179_0 := hu
   have hgy179_0 : True := gy179_0 --@phi
   show Tr _ _ (uf _ 57 (.tuple #[])) (up _ 2 (sb 95 5 zAo Ay179_0 cy179_0 y179)) _
   refine Tr.nil (Tr.zA (Tr.seq (Tr.sr ?_)))
   obtain ⟨y181, hy181, H⟩ := bnd H
   refine Tr.VP [2] [sb 95 5 zAo Ay179_0 cy179_0 y179] (U := (Option Addr × Nat)) (fun u => (iv y181.1)) (fun u => True) (fun u => [sb 95 5 zAo u.1 u.2 y181.2]) rfl (zM rfl zY) (fun _ => rfl) (wn rfl) rfl Tryz.call49 (zF rfl zO) (fun W hW hp hE => zF4 y179 Ay179_0 cy179_0 zAo y181 hy181 hE) ?_
   intro u hu
   obtain ⟨Ay181_0, cy181_0⟩ := u
   have gy181_0 := hu
   have hgy181_0 : True := gy181_0 --@phi
   show Tr _ _ (uf _ 58 (iv y181.1)) (up _ 2 (sb 95 5 zAo Ay181_0 cy181_0 y181.2)) _
   refine Tr.va rfl (fun _ _ h1 h2 => VI (h1.ev rfl) (h1.ev rfl)) ?_
   refine Tr.nil (Tr.zA (Tr.cond rfl H (fun H => ?_) (fun H => ?_)))
   ·refine Tr.sr (Tr.asg rfl rfl (Tr.asg rfl rfl (Tr.nil (Tr.zA (Tr.ret (Tr.zU ?_))))))
    obtain rfl := Option.some.inj H
    exact Tr.out (m := [(sv ByteArray.empty), (iv 2)]) [] (zP rfl (zP rfl zQ)) (fun W hW => ⟨rfl, hW.low leB⟩)
   ·refine Tr.skip (Tr.zA (Tr.sr ?_))
    obtain ⟨zEr, hy183, H⟩ := bnd H
    refine Tr.VP [2] [sb 95 5 zAo Ay181_0 cy181_0 y181.2] (U := (Option Addr × Nat)) (fun u => (sv zEr.1)) (fun u => True) (fun u => [sb 95 5 zAo u.1 u.2 zEr.2]) rfl (zM rfl zY) (fun _ => rfl) (wn rfl) rfl Tryz.call50 (zF rfl zO) (fun W hW hp hE => zEb y181.2 Ay181_0 cy181_0 zAo zEr hy183 hE) ?_
    intro u hu
    obtain ⟨zDg, zDZ⟩ := u
    have gy183_0 := hu
    have hgy183_0 : True := gy183_0 --@phi
    show Tr _ _ (uf _ 60 (sv zEr.1)) (up _ 2 (sb 95 5 zAo zDg zDZ zEr.2)) _
    refine Tr.asg rfl rfl (Tr.asg rfl rfl (Tr.nil (Tr.zA (Tr.ret ?_))))
    obtain rfl := Option.some.inj H
    exact Tr.out (m := [(sv zEr.1), (iv 0)]) [] (zP rfl (zP rfl zQ)) (fun W hW => ⟨rfl, hW.low leB⟩)
  | cons xL3 Qh =>
   rw [Vr.eq_2] at H
   refine Tr.sr (Tr.va rfl (fun _ _ h1 h2 => zz (h1.ev rfl) (h1.ev rfl)) ?_)
   refine Tr.nil (Tr.zA (Tr.seq (Tr.WI rfl (Jg WR) ?_)))
   refine Tr.skip (Tr.zA (Tr.seq (Tr.block (Tr.sr ?_))))
   obtain ⟨u185, hRu185, hoku185, hcu185⟩ := (QE).el (Js WR)
   obtain ⟨zFu, zFk⟩ := u185
   have zDR := hoku185
   replace zDR : Sl w.R w.W zN zFu zFk xL3.Rects := zDR
   refine Tr.va rfl (fun _ _ h1 h2 => zH zGQ (h1.ev rfl) QE.form (h1.ev rfl) (Int.natCast_nonneg _) (zo WR)) ?_
   refine Tr.va rfl (fun _ _ h1 h2 => zR (cs := [(sv xL3.Name), (.slice zFu xL3.Rects.length zFk)]) ag_64 zJq (h1.ev rfl) (zL.take (rdR hRu185 hcu185 h2) 2) rfl) ?_
   refine Tr.alloc 17 (wn rfl) rfl ze_64 fun b186 => ?_
   refine Tr.store 17 (cs := [(sv xL3.Name), (.slice zFu xL3.Rects.length zFk)]) [(sv xL3.Name), (.slice zFu xL3.Rects.length zFk)] (wn rfl) rfl rfl rfl rfl zJq rfl rfl rfl ?_
   refine Tr.nil (Tr.zA (Tr.sr (Tr.va rfl (fun _ _ h1 h2 => zB zGt (h1.ev rfl)) ?_)))
   refine Tr.va rfl (fun _ _ h1 h2 => zC zKX (h1.ev rfl) (rdb h2 (vs := [(sv xL3.Name), (.slice zFu xL3.Rects.length zFk)]) (k := 17) rfl 0) rfl) ?_
   obtain ⟨t187, ht187, H⟩ := bnd H
   refine Tr.va rfl (fun _ _ h1 h2 => VJ (h1.ev rfl) (h1.ev rfl) ht187) ?_
   obtain ⟨y188, hy188, H⟩ := bnd H
   refine Tr.VP [2] [sb 95 5 zAo Am178 cm178 m178] (U := (Option Addr × Nat)) (fun u => (.tuple #[(iv ((t187 : ByteArray).size : Int)), .nilIface])) (fun u => True) (fun u => [sb 95 5 zAo u.1 u.2 y188]) rfl (zM rfl zY) (fun _ => rfl) (wn rfl) rfl Tryz.call45 (zF rfl (zF rfl zO)) (fun W hW hp hE => zg m178 Am178 cm178 zAo t187 y188 hy188 hE) ?_
   intro u hu
   obtain ⟨Ay188_0, cy188_0⟩ := u
   have gy188_0 := hu
   have hgy188_0 : True := gy188_0 --@phi
   show Tr _ _ (uf _ 31 (.tuple #[(iv ((t187 : ByteArray).size : Int)), .nilIface])) (up _ 2 (sb 95 5 zAo Ay188_0 cy188_0 y188)) _
   refine Tr.nil (Tr.zA (Tr.seq (Tr.sr (Tr.va rfl (fun _ _ h1 h2 => zB zC0 (h1.ev rfl)) ?_))))
   refine Tr.va rfl (fun _ _ h1 h2 => zC zJG (h1.ev rfl) (rdb h2 (vs := [(sv xL3.Name), (.slice zFu xL3.Rects.length zFk)]) (k := 17) rfl 1) rfl) ?_
   refine Tr.va rfl (fun _ _ h1 h2 => zq zA0 (h1.ev rfl)) ?_
   refine Tr.mv rfl rfl (Tr.nil (Tr.zA (Tr.block (Tr.loop (σ := (List zT) × Nat × ByteArray × (Option Addr) × Nat) (fun m w s => m = s.1.length + 1 ∧ s.1 = List.drop s.2.1 xL3.Rects ∧ s.2.1 ≤ xL3.Rects.length ∧ zAw (Vr N p0 Qh (iL3 + 1)) s.1 s.2.1 s.2.2.1 = some r) (fun s => [(1, (.pointer (some ⟨QM, 0, none⟩))), (5, (.pointer (some ⟨zAo, 0, none⟩))), (22, (.slice QA p0.Tools.length QB)), (23, (iv (p0.Tools.length : Int))), (24, (iv (iL3 : Int))), (33, (.slice zFu xL3.Rects.length zFk)), (34, (iv (xL3.Rects.length : Int))), (35, (iv (s.2.1 : Int)))]) (fun s => [(1, bx QM #[(iv p0.Unit), (.slice QA p0.Tools.length QB), (.slice QD p0.Steps.length QC)] 25), (2, sb 95 5 zAo s.2.2.2.1 s.2.2.2.2 s.2.2.1)]) (xL3.Rects.length + 1) (xL3.Rects, 0, y188, Ay188_0, cy188_0) ⟨rfl, rfl, Nat.zero_le _, H⟩ (.cons rfl (.cons rfl (.cons rfl (.cons rfl (.cons rfl (.cons rfl (.cons rfl (.cons rfl .nil)))))))) (.cons rfl (.cons rfl .nil)) (fun _ _ h => absurd h.1 (by simp)) ?_))))
   intro w zB1 m s hs
   obtain ⟨Ky, iL4, m208, Am208, cm208⟩ := s
   obtain ⟨hmL4, zDT, hiL4, H⟩ := hs
   replace zDT : Ky = List.drop iL4 xL3.Rects := zDT
   replace H : zAw (Vr N p0 Qh (iL3 + 1)) Ky iL4 m208 = some r := H
   replace hmL4 : m + 1 = Ky.length + 1 := hmL4
   replace QE := QE.leR zB1
   replace zDR := zDR.leR zB1
   replace VK := VK.trans zB1
   obtain rfl : m = Ky.length := by omega
   clear hmL4
   show Tr _ _ (LF [(1, (.pointer (some ⟨QM, 0, none⟩))), (5, (.pointer (some ⟨zAo, 0, none⟩))), (22, (.slice QA p0.Tools.length QB)), (23, (iv (p0.Tools.length : Int))), (24, (iv (iL3 : Int))), (33, (.slice zFu xL3.Rects.length zFk)), (34, (iv (xL3.Rects.length : Int))), (35, (iv (iL4 : Int)))]) (LE [(1, bx QM #[(iv p0.Unit), (.slice QA p0.Tools.length QB), (.slice QD p0.Steps.length QC)] 25), (2, sb 95 5 zAo Am208 cm208 m208)]) _
   cases Ky with
   | nil =>
    rw [zAw.eq_1] at H
    refine Tr.sr (Tr.va rfl (fun _ _ h1 h2 => zz (h1.ev rfl) (h1.ev rfl)) ?_)
    refine Tr.nil (Tr.zA (Tr.seq (Tr.WJ rfl (Qy zDT) ?_)))
    refine Tr.exit (Tr.zX (Tr.zX (Tr.zAC (Tr.zA (Tr.region ?_)))))
    obtain ⟨zKp, hy209, H⟩ := bnd H
    refine Tr.VP [2] [sb 95 5 zAo Am208 cm208 m208] (U := (Option Addr × Nat)) (fun u => (.tuple #[(iv (((⟨#[10]⟩) : ByteArray).size : Int)), .nilIface])) (fun u => True) (fun u => [sb 95 5 zAo u.1 u.2 zKp]) rfl (zM rfl zY) (fun _ => rfl) (wn rfl) rfl Tryz.call45 (zF rfl (zF rfl zO)) (fun W hW hp hE => zg m208 Am208 cm208 zAo (⟨#[10]⟩) zKp hy209 hE) ?_
    intro u hu
    obtain ⟨zKh, zKP⟩ := u
    have gy209_0 := hu
    have hgy209_0 : True := gy209_0 --@phi
    show Tr _ _ (uf _ 53 (.tuple #[(iv (((⟨#[10]⟩) : ByteArray).size : Int)), .nilIface])) (up _ 2 (sb 95 5 zAo zKh zKP zKp)) _
    refine Tr.nil (Tr.zW (Tr.zA ?_))
    refine Tr.region (Tr.va rfl (fun _ _ h1 h2 => zx (h1.ev rfl) (h1.ev rfl)) ?_)
    exact Tr.mv rfl rfl (Tr.nil (Tr.zZ VK (Qh, (iL3 + 1), zKp, zKh, zKP) ⟨rfl, Qg WR, zo WR, H⟩ (.cons rfl (.cons rfl (.cons rfl (.cons rfl (.cons (congrArg (fun z => some (Value.int .i64 z)) (Qf WR QE.form)) .nil))))) (.cons rfl (.cons rfl .nil))))
   | cons xL4 Ky =>
    rw [zAw.eq_2] at H
    refine Tr.sr (Tr.va rfl (fun _ _ h1 h2 => zz (h1.ev rfl) (h1.ev rfl)) ?_)
    refine Tr.nil (Tr.zA (Tr.seq (Tr.WI rfl (Jg zDT) ?_)))
    refine Tr.skip (Tr.zA (Tr.seq (Tr.block (Tr.sr (Tr.va rfl (fun _ _ h1 h2 => zH zCR (h1.ev rfl) zDR.form (h1.ev rfl) (Int.natCast_nonneg _) (zo zDT)) ?_)))))
    refine Tr.va rfl (fun _ _ h1 h2 => zR (cs := [(iv xL4.X0), (iv xL4.Y0), (iv xL4.X1), (iv xL4.Y1)]) zCD Kv (h1.ev rfl) (zL.take (rdF VM zDR (Js zDT) h2) 4) rfl) ?_
    refine Tr.alloc 22 (wn rfl) rfl zF7 fun b211 => ?_
    refine Tr.store 22 (cs := [(iv xL4.X0), (iv xL4.Y0), (iv xL4.X1), (iv xL4.Y1)]) [(iv xL4.X0), (iv xL4.Y0), (iv xL4.X1), (iv xL4.Y1)] (wn rfl) rfl rfl rfl rfl Kv rfl rfl rfl ?_
    refine Tr.nil (Tr.zA (Tr.region (Tr.va rfl (fun _ _ h1 h2 => zB Wz (h1.ev rfl)) ?_)))
    refine Tr.va rfl (fun _ _ h1 h2 => zC QO (h1.ev rfl) (rdb h2 (vs := [(iv xL4.X0), (iv xL4.Y0), (iv xL4.X1), (iv xL4.Y1)]) (k := 22) rfl 0) rfl) ?_
    refine Tr.va rfl (fun _ _ h1 h2 => zB zCa (h1.ev rfl)) ?_
    refine Tr.va rfl (fun _ _ h1 h2 => zC QO (h1.ev rfl) (rdb h2 (vs := [(iv xL4.X0), (iv xL4.Y0), (iv xL4.X1), (iv xL4.Y1)]) (k := 22) rfl 1) rfl) ?_
    refine Tr.build (vs := [(0, (iv xL4.X0)), (1, (iv xL4.Y0))]) (cs := [(iv xL4.X0), (iv xL4.Y0)]) (wn rfl) rfl (zi rfl (zi rfl Qb)) (by kernel_rfl) ?_
    refine Tr.va rfl (fun _ _ h1 h2 => zB zC2 (h1.ev rfl)) ?_
    refine Tr.va rfl (fun _ _ h1 h2 => zC QO (h1.ev rfl) (rdb h2 (vs := [(iv xL4.X0), (iv xL4.Y0), (iv xL4.X1), (iv xL4.Y1)]) (k := 22) rfl 2) rfl) ?_
    refine Tr.va rfl (fun _ _ h1 h2 => zB zDX (h1.ev rfl)) ?_
    refine Tr.va rfl (fun _ _ h1 h2 => zC QO (h1.ev rfl) (rdb h2 (vs := [(iv xL4.X0), (iv xL4.Y0), (iv xL4.X1), (iv xL4.Y1)]) (k := 22) rfl 3) rfl) ?_
    refine Tr.build (vs := [(0, (iv xL4.X1)), (1, (iv xL4.Y1))]) (cs := [(iv xL4.X1), (iv xL4.Y1)]) (wn rfl) rfl (zi rfl (zi rfl Qb)) (by kernel_rfl) ?_
    refine Tr.buildSlice 23 (e := 43) (vs := [(0, (.agg #[(iv xL4.X0), (iv xL4.Y0)])), (1, (.agg #[(iv xL4.X1), (iv xL4.Y1)]))]) (cs := [(iv xL4.X0), (iv xL4.Y0), (iv xL4.X1), (iv xL4.Y1)]) (wn rfl) rfl (zi rfl (zi rfl Qb)) (by kernel_rfl) fun b212 => ?_
    refine Tr.own 23 zy [(zI.mk xL4.X0 xL4.Y0), (zI.mk xL4.X1 xL4.Y1)] (css := [[(iv xL4.X0), (iv xL4.Y0)], [(iv xL4.X1), (iv xL4.Y1)]]) rfl (.cons ⟨(), trivial, rfl⟩ (.cons ⟨(), trivial, rfl⟩ .nil)) rfl (by decide) (zCx rfl) ?_
    obtain ⟨y213, hy213, H⟩ := bnd H
    refine Tr.Qp (r := (sv y213)) (wn rfl) rfl Tryz.call47 (zF rfl zO) (fun W hW => We [(zI.mk xL4.X0 xL4.Y0), (zI.mk xL4.X1 xL4.Y1)] (some ⟨b212, 0, none⟩) 2 (hW.zEA (k := 23) rfl) y213 hy213 (HF.start _)) ?_
    obtain ⟨y214, hy214, H⟩ := bnd H
    refine Tr.VP [2] [sb 95 5 zAo Am208 cm208 m208] (U := (Option Addr × Nat)) (fun u => (.tuple #[(iv ((y213 : ByteArray).size : Int)), .nilIface])) (fun u => True) (fun u => [sb 95 5 zAo u.1 u.2 y214]) rfl (zM rfl zY) (fun _ => rfl) (wn rfl) rfl Tryz.call45 (zF rfl (zF rfl zO)) (fun W hW hp hE => zg m208 Am208 cm208 zAo y213 y214 hy214 hE) ?_
    intro u hu
    obtain ⟨Ay214_0, cy214_0⟩ := u
    have gy214_0 := hu
    have hgy214_0 : True := gy214_0 --@phi
    show Tr _ _ (uf _ 51 (.tuple #[(iv ((y213 : ByteArray).size : Int)), .nilIface])) (up _ 2 (sb 95 5 zAo Ay214_0 cy214_0 y214)) _
    refine Tr.nil (Tr.zW (Tr.zA ?_))
    refine Tr.region (Tr.va rfl (fun _ _ h1 h2 => zx (h1.ev rfl) (h1.ev rfl)) ?_)
    exact Tr.mv rfl rfl (Tr.nil (Tr.zZ zB1 (Ky, (iL4 + 1), y214, Ay214_0, cy214_0) ⟨rfl, Qg zDT, zo zDT, H⟩ (.cons rfl (.cons rfl (.cons rfl (.cons rfl (.cons rfl (.cons rfl (.cons rfl (.cons (congrArg (fun z => some (Value.int .i64 z)) (Qf zDT zDR.form)) .nil)))))))) (.cons rfl (.cons rfl .nil))))

theorem zCX (N : Nat) {w : Bs}  (r : Bool) (H : Kn N = some r) (hE : HF w w.W E0) : Calls Tryz.prog 8 [].toArray w.W fun e W' => e = .returned (.bool r) ∧ HF w W' E0 := by
 unfold Kn at H
 have leB := Bs.Le.refl w
 refine Tr.enter (n := 14) Tryz.func8 rfl rfl rfl hE ?_
 refine Tr.sr (Tr.asg rfl rfl (Tr.nil (Tr.zA (Tr.sr (Tr.build (vs := [(0, (iv 7))]) (cs := [(iv 7), (.slice none 0 0), (.slice none 0 0)]) (wn rfl) rfl (zi rfl Qb) (by kernel_rfl) ?_)))))
 obtain ⟨QT, zBp, H⟩ := bnd H
 refine Tr.Qp (r := (.tuple #[(sv QT.1), (iv QT.2)])) (wn rfl) rfl Tryz.call25 (zF rfl zO) (fun W hW => F_plot_Text_ok N (zt.mk 7 [] []) none 0 (Sl.nil _ _ _) none 0 (Sl.nil _ _ _) QT zBp (HF.start _)) ?_
 refine Tr.mv rfl rfl (Tr.va rfl (fun _ _ h1 h2 => Qq (h1.ev rfl) rfl) ?_)
 refine Tr.va rfl (fun _ _ h1 h2 => Qq (h1.ev rfl) rfl) ?_
 refine Tr.asg rfl rfl (Tr.asg rfl rfl (Tr.nil (Tr.zA (Tr.sr (Tr.mv rfl rfl (Tr.va rfl (fun _ _ h1 h2 => Qk (h1.ev rfl) (h1.ev rfl)) ?_))))))
 refine Tr.mv rfl rfl (Tr.VR 3 [(13, (.bool ((QT.2 == 0) && (sEq QT.1 (⟨#[117, 110, 105, 116, 32, 55, 10]⟩)))))] [] ?_ ?_)
 ·cases hg100 : (QT.2 == 0)
  ·refine Tr.pass rfl rfl rfl rfl rfl (by decide) ?_
   refine Tr.pass rfl rfl rfl rfl rfl (by decide) ?_
   refine Tr.va rfl (fun _ _ h1 h2 => zf (h1.ev rfl) (h1.ev rfl)) ?_
   exact Tr.nil (Tr.Qo (.cons rfl .nil) .nil)
  ·refine Tr.val (wg rfl rfl rfl) rfl (fun _ _ h1 h2 => run_move (h1.ev rfl)) ?_
   refine Tr.val (wg rfl rfl rfl) rfl (fun _ _ h1 h2 => run_eqlS (h1.ev rfl) (h1.ev rfl)) ?_
   refine Tr.va rfl (fun _ _ h1 h2 => ze (h1.ev rfl) (h1.ev rfl)) ?_
   exact Tr.nil (Tr.Qo (.cons rfl .nil) .nil)
 ·show Tr _ _ (LF [(13, (.bool ((QT.2 == 0) && (sEq QT.1 (⟨#[117, 110, 105, 116, 32, 55, 10]⟩)))))]) (LE []) _
  refine Tr.asg rfl rfl (Tr.nil (Tr.zA (Tr.ret ?_)))
  obtain rfl := Option.some.inj H
  exact Tr.out (m := [(.bool ((QT.2 == 0) && (sEq QT.1 (⟨#[117, 110, 105, 116, 32, 55, 10]⟩))))]) [] (zP rfl zQ) (fun W hW => ⟨rfl, hW.low leB⟩)

theorem zD2 (N : Nat) {w : Bs} (p0 : (List zI)) (QA : Option Addr) (QB : Nat) (QE : Sl w.R w.W zy QA QB p0) (p1 : (List zI)) (QG : Option Addr) (QH : Nat) (QV : Sl w.R w.W zy QG QH p1) (r : Bool) (H : KP N p0 p1 = some r) (hE : HF w w.W E0) : Calls Tryz.prog 51 [(.slice QA p0.length QB), (.slice QG p1.length QH)].toArray w.W fun e W' => e = .returned (.bool r) ∧ HF w W' E0 := by
 unfold KP at H
 have leB := Bs.Le.refl w
 refine Tr.enter (n := 26) Tryz.func51 rfl rfl rfl hE ?_
 refine Tr.sr (Tr.asg rfl rfl (Tr.nil (Tr.zA (Tr.seq (Tr.sr (Tr.mv rfl rfl (Tr.va rfl (fun _ _ h1 h2 => zq zDn (h1.ev rfl)) ?_)))))))
 refine Tr.mv rfl rfl (Tr.va rfl (fun _ _ h1 h2 => zq zDn (h1.ev rfl)) ?_)
 refine Tr.va rfl (fun _ _ h1 h2 => Jv (h1.ev rfl) (h1.ev rfl)) ?_
 refine Tr.nil (Tr.zA (Tr.cond rfl H (fun H => ?_) (fun H => ?_)))
 ·refine Tr.sr (Tr.asg rfl rfl (Tr.nil (Tr.zA (Tr.ret (Tr.zU ?_)))))
  obtain rfl := Option.some.inj H
  exact Tr.out (m := [(.bool false)]) [] (zP rfl zQ) (fun W hW => ⟨rfl, hW.low leB⟩)
 ·refine Tr.skip (Tr.zA (Tr.seq (Tr.sr (Tr.asg rfl rfl (Tr.nil (Tr.zA (Tr.block (Tr.loop (σ := Int) (fun m w s => zAM p0 p1 m s = some r) (fun s => [(0, (.slice QA p0.length QB)), (1, (.slice QG p1.length QH)), (5, (iv s))]) (fun s => []) N 0 H (.cons rfl (.cons rfl (.cons rfl .nil))) .nil (fun _ _ h => zAi (h)) ?_))))))))
  intro w QW mL1 x107 hs
  have H := hs
  replace H : zAM p0 p1 (mL1 + 1) x107 = some r := H
  replace QE := QE.leR QW
  replace QV := QV.leR QW
  replace leB := leB.trans QW
  rw [zAM.eq_2] at H
  show Tr _ _ (LF [(0, (.slice QA p0.length QB)), (1, (.slice QG p1.length QH)), (5, (iv x107))]) (LE []) _
  refine Tr.seq (Tr.sr (Tr.mv rfl rfl (Tr.mv rfl rfl (Tr.va rfl (fun _ _ h1 h2 => zq zDn (h1.ev rfl)) ?_))))
  refine Tr.va rfl (fun _ _ h1 h2 => zz (h1.ev rfl) (h1.ev rfl)) ?_
  refine Tr.nil (Tr.zA (Tr.cond rfl H (fun H => ?_) (fun H => ?_)))
  ·refine Tr.skip (Tr.zA (Tr.seq (Tr.block (Tr.seq (Tr.draw (by kernel_rfl) (by kernel_rfl) ?_)))))
   refine Tq.mv rfl rfl (Tq.mv rfl rfl ?_)
   obtain ⟨zAy, zKC, H⟩ := bnd H
   obtain ⟨zGq, zGp, zGo⟩ := zh zKC
   refine Tq.va rfl (fun _ _ h1 h2 => zH zHz (h1.ev rfl) QE.form (h1.ev rfl) zGq zGp) ?_
   refine Tq.va rfl (fun _ _ h1 h2 => zR (cs := [(iv zAy.X), (iv zAy.Y)]) KF JB (h1.ev rfl) (zL.take (rdF zAm QE zGo h2) 2) rfl) ?_
   refine Tq.mv rfl rfl (Tq.mv rfl rfl ?_)
   obtain ⟨zEQ, hx109, H⟩ := bnd H
   obtain ⟨hx1090, hx1091, hx1092⟩ := zh hx109
   refine Tq.va rfl (fun _ _ h1 h2 => zH zHz (h1.ev rfl) QV.form (h1.ev rfl) hx1090 hx1091) ?_
   refine Tq.va rfl (fun _ _ h1 h2 => zR (cs := [(iv zEQ.X), (iv zEQ.Y)]) KF JB (h1.ev rfl) (zL.take (rdF zAm QV hx1092 h2) 2) rfl) ?_
   refine Tq.va rfl (fun _ _ h1 h2 => zJN zAy zEQ (h1.ev rfl) (h1.ev rfl)) ?_
   refine Tq.nil (Tr.zA (Tr.cond rfl H (fun H => ?_) (fun H => ?_)))
   ·refine Tr.sr (Tr.asg rfl rfl (Tr.nil (Tr.zA (Tr.ret (Tr.zAB (Tr.zU (Tr.zU (Tr.zAB (Tr.zU ?_)))))))))
    obtain rfl := Option.some.inj H
    exact Tr.out (m := [(.bool false)]) [] (zP rfl zQ) (fun W hW => ⟨rfl, hW.low leB⟩)
   ·refine Tr.skip (Tr.zW (Tr.zA ?_))
    refine Tr.region (Tr.mv rfl rfl (Tr.va rfl (fun _ _ h1 h2 => zx (h1.ev rfl) (h1.ev rfl)) ?_))
    exact Tr.asg rfl rfl (Tr.nil (Tr.zZ QW (w64 (x107 + 1)) H (.cons rfl (.cons rfl (.cons rfl .nil))) .nil))
  ·refine Tr.exit (Tr.zX (Tr.zX (Tr.zAC (Tr.zA (Tr.sr (Tr.asg rfl rfl (Tr.nil (Tr.zA (Tr.ret ?_)))))))))
   obtain rfl := Option.some.inj H
   exact Tr.out (m := [(.bool true)]) [] (zP rfl zQ) (fun W hW => ⟨rfl, hW.low leB⟩)

theorem zDW (N : Nat) (rec : (List zD) → (List zD) → Option Bool) (hrec : ∀ {w : Bs} (p0 : (List zD)) (QA : Option Addr) (QB : Nat) (QE : Sl w.R w.W zG QA QB p0) (p1 : (List zD)) (QG : Option Addr) (QH : Nat) (QV : Sl w.R w.W zG QG QH p1) (r : Bool) (H : rec p0 p1 = some r) (hE : HF w w.W E0), Calls Tryz.prog 26 [(.slice QA p0.length QB), (.slice QG p1.length QH)].toArray w.W fun e W' => e = .returned (.bool r) ∧ HF w W' E0) {w : Bs} (p0 : (List zD)) (QA : Option Addr) (QB : Nat) (QE : Sl w.R w.W zG QA QB p0) (p1 : (List zD)) (QG : Option Addr) (QH : Nat) (QV : Sl w.R w.W zG QG QH p1) (r : Bool) (H : KE N rec p0 p1 = some r) (hE : HF w w.W E0) : Calls Tryz.prog 26 [(.slice QA p0.length QB), (.slice QG p1.length QH)].toArray w.W fun e W' => e = .returned (.bool r) ∧ HF w W' E0 := by
 unfold KE at H
 have leB := Bs.Le.refl w
 refine Tr.enter (n := 76) Tryz.func26 rfl rfl rfl hE ?_
 refine Tr.sr (Tr.asg rfl rfl (Tr.nil (Tr.zA (Tr.seq (Tr.sr (Tr.mv rfl rfl (Tr.va rfl (fun _ _ h1 h2 => zq zGC (h1.ev rfl)) ?_)))))))
 refine Tr.mv rfl rfl (Tr.va rfl (fun _ _ h1 h2 => zq zGC (h1.ev rfl)) ?_)
 refine Tr.va rfl (fun _ _ h1 h2 => Jv (h1.ev rfl) (h1.ev rfl)) ?_
 refine Tr.nil (Tr.zA (Tr.cond rfl H (fun H => ?_) (fun H => ?_)))
 ·refine Tr.sr (Tr.asg rfl rfl (Tr.nil (Tr.zA (Tr.ret (Tr.zU ?_)))))
  obtain rfl := Option.some.inj H
  exact Tr.out (m := [(.bool false)]) [] (zP rfl zQ) (fun W hW => ⟨rfl, hW.low leB⟩)
 ·refine Tr.skip (Tr.zA (Tr.seq (Tr.sr (Tr.asg rfl rfl (Tr.nil (Tr.zA (Tr.block (Tr.loop (σ := Int) (fun m w s => zAN N p0 p1 rec m s = some r) (fun s => [(0, (.slice QA p0.length QB)), (1, (.slice QG p1.length QH)), (5, (iv s))]) (fun s => []) N 0 H (.cons rfl (.cons rfl (.cons rfl .nil))) .nil (fun _ _ h => zAi (h)) ?_))))))))
  intro w QW mL1 Wy hs
  have H := hs
  replace H : zAN N p0 p1 rec (mL1 + 1) Wy = some r := H
  replace QE := QE.leR QW
  replace QV := QV.leR QW
  replace leB := leB.trans QW
  rw [zAN.eq_2] at H
  show Tr _ _ (LF [(0, (.slice QA p0.length QB)), (1, (.slice QG p1.length QH)), (5, (iv Wy))]) (LE []) _
  refine Tr.seq (Tr.sr (Tr.mv rfl rfl (Tr.mv rfl rfl (Tr.va rfl (fun _ _ h1 h2 => zq zGC (h1.ev rfl)) ?_))))
  refine Tr.va rfl (fun _ _ h1 h2 => zz (h1.ev rfl) (h1.ev rfl)) ?_
  refine Tr.nil (Tr.zA (Tr.cond rfl H (fun H => ?_) (fun H => ?_)))
  ·refine Tr.skip (Tr.zA (Tr.seq (Tr.block (Tr.seq (Tr.zHL 11 [] [10] (by kernel_rfl) (by kernel_rfl) fun sz132 hlosz132 hEsz132 => ?_)))))
   refine Dr.quiet 0 [(19, (.slice QA p0.length QB))] (by kernel_rfl) rfl rfl (by kernel_rfl) ?_ rfl rfl ?_
   ·exact Tq.mv rfl rfl (Tq.fin (.cons rfl .nil))
   refine Dr.quiet 1 [(20, (iv Wy))] (by kernel_rfl) rfl rfl (by kernel_rfl) ?_ rfl rfl ?_
   ·exact Tq.mv rfl rfl (Tq.fin (.cons rfl .nil))
   obtain ⟨QI, hx133, H⟩ := bnd H
   obtain ⟨hx1330, hx1331, hx1332⟩ := zh hx133
   obtain ⟨u134, hRu134, hoku134, hcu134⟩ := (QE).el hx1332
   obtain ⟨⟨Kb, KV⟩, ⟨Km, Ki⟩⟩ := u134
   obtain ⟨hoku134_0, hoku134_1⟩ := Vh.1 hoku134
   refine Dr.quiet 2 [(21, (.pointer (some ⟨adB QA, adO QA + (Wy).toNat * 8, none⟩)))] (by kernel_rfl) rfl rfl (by kernel_rfl) ?_ rfl rfl ?_
   ·replace hoku134_0 : Sl w.R w.W zy Kb KV QI.Points := hoku134_0
    refine Tq.va rfl (fun _ _ h1 h2 => zH zH0 (h1.ev rfl) QE.form (h1.ev rfl) hx1330 hx1331) ?_
    exact Tq.fin (.cons rfl .nil)
   refine Dr.quiet 3 [(22, (.agg #[(iv QI.Kind), (sv QI.Name), (iv QI.At.X), (iv QI.At.Y), (.slice Kb QI.Points.length KV), (iv QI.NX), (iv QI.NY), (.slice Km QI.Steps.length Ki)]))] (by kernel_rfl) rfl rfl (by kernel_rfl) ?_ rfl rfl ?_
   ·refine Tq.va rfl (fun _ _ h1 h2 => zR (cs := [(iv QI.Kind), (sv QI.Name), (iv QI.At.X), (iv QI.At.Y), (.slice Kb QI.Points.length KV), (iv QI.NX), (iv QI.NY), (.slice Km QI.Steps.length Ki)]) zKY zEH (h1.ev rfl) (zL.take (rdR hRu134 hcu134 h2) 8) rfl) ?_
    exact Tq.fin (.cons rfl .nil)
   refine Dr.Ji 4 (by kernel_rfl) rfl (wn rfl) rfl (by kernel_rfl) (fun _ _ h1 => run_move (h1.ev rfl)) rfl ?_
   refine Dr.Ji 5 (by kernel_rfl) rfl (wn rfl) rfl (by kernel_rfl) (fun _ _ h1 => run_move (h1.ev rfl)) rfl ?_
   obtain ⟨QK, hx135, H⟩ := bnd H
   obtain ⟨hx1350, hx1351, hx1352⟩ := zh hx135
   obtain ⟨u136, hRu136, hoku136, hcu136⟩ := (QV).el hx1352
   obtain ⟨⟨Ka, KU⟩, ⟨Kl, Kh⟩⟩ := u136
   obtain ⟨hoku136_0, hoku136_1⟩ := Vh.1 hoku136
   refine Dr.Vn 6 [(25, (.pointer (some ⟨adB QG, adO QG + (Wy).toNat * 8, none⟩)))] [] true (by kernel_rfl) rfl rfl (by kernel_rfl) (fun W W' h2 hsW hk => HF.zBN (le := []) (ks := []) (s0 := sz132) true h2 hk (fun _ => hlosz132) .nil (fun b hb => hb.elim (fun ⟨_, hp, _⟩ => nomatch hp) (fun hb => .inr ⟨rfl, hb.2, (fun _ h => nomatch h)⟩)) (fun _ h => nomatch h) rfl) ?_ rfl rfl ?_
   ·replace hoku136_0 : Sl w.R w.W zy Ka KU QK.Points := hoku136_0
    refine Tq.va rfl (fun _ _ h1 h2 => zH zH0 (h1.ev rfl) QV.form (h1.ev rfl) hx1350 hx1351) ?_
    exact Tq.fin (.cons rfl .nil)
   refine Dr.Vn 7 [(26, (.agg #[(iv QK.Kind), (sv QK.Name), (iv QK.At.X), (iv QK.At.Y), (.slice Ka QK.Points.length KU), (iv QK.NX), (iv QK.NY), (.slice Kl QK.Steps.length Kh)]))] [] true (by kernel_rfl) rfl rfl (by kernel_rfl) (fun W W' h2 hsW hk => HF.zBN (le := []) (ks := []) (s0 := sz132) true h2 hk (fun _ => hlosz132) .nil (fun b hb => hb.elim (fun ⟨_, hp, _⟩ => nomatch hp) (fun hb => .inr ⟨rfl, hb.2, (fun _ h => nomatch h)⟩)) (fun _ h => nomatch h) rfl) ?_ rfl rfl ?_
   ·refine Tq.va rfl (fun _ _ h1 h2 => zR (cs := [(iv QK.Kind), (sv QK.Name), (iv QK.At.X), (iv QK.At.Y), (.slice Ka QK.Points.length KU), (iv QK.NX), (iv QK.NY), (.slice Kl QK.Steps.length Kh)]) zKY zEH (h1.ev rfl) (zL.take (rdR hRu136 hcu136 h2) 8) rfl) ?_
    exact Tq.fin (.cons rfl .nil)
   refine Dr.cut (U := Nat × Nat) [8, 9] 1 (fun u => sz132 ≤ u.1 ∧ sz132 ≤ u.2) (fun u => [(0, (.slice QA p0.length QB)), (1, (.slice QG p1.length QH)), (5, (iv Wy)), (6, (.pointer (some ⟨u.1, 0, none⟩))), (7, (.pointer (some ⟨u.2, 0, none⟩))), (13, (iv Wy)), (14, (.slice QA p0.length QB)), (15, (iv (p0.length : Int))), (16, (.bool (decide (Wy < (p0.length : Int))))), (19, (.slice QA p0.length QB)), (20, (iv Wy)), (21, (.pointer (some ⟨adB QA, adO QA + (Wy).toNat * 8, none⟩))), (22, (.agg #[(iv QI.Kind), (sv QI.Name), (iv QI.At.X), (iv QI.At.Y), (.slice Kb QI.Points.length KV), (iv QI.NX), (iv QI.NY), (.slice Km QI.Steps.length Ki)])), (23, (.slice QG p1.length QH)), (24, (iv Wy)), (25, (.pointer (some ⟨adB QG, adO QG + (Wy).toNat * 8, none⟩))), (26, (.agg #[(iv QK.Kind), (sv QK.Name), (iv QK.At.X), (iv QK.At.Y), (.slice Ka QK.Points.length KU), (iv QK.NX), (iv QK.NY), (.slice Kl QK.Steps.length Kh)]))]) (fun u => [(5, bx u.1 #[(iv 0), (sv ⟨#[]⟩), (iv 0), (iv 0), (.slice none 0 0), (iv 0), (iv 0), (.slice none 0 0)] 46), (6, bx u.2 #[(iv 0), (sv ⟨#[]⟩), (iv 0), (iv 0), (.slice none 0 0), (iv 0), (iv 0), (.slice none 0 0)] 46)]) ?_ ?_
   ·intro hC
    refine Dr.pair 8 9 (by kernel_rfl) ?_ ?_
    ·refine St.alloc 8 5 rfl (wn rfl) rfl ze_46 fun zC7 hb137 => ?_
     refine Dr.one 9 (by kernel_rfl) ?_
     refine St.alloc 9 6 rfl (wn rfl) rfl ze_46 fun zDF hb138 => ?_
     exact (hC ⟨zC7, zDF⟩ ⟨hb137, hb138⟩).use (by kernel_rfl) (.cons rfl (.cons rfl (.cons rfl (.cons rfl (.cons rfl (.cons rfl (.cons rfl (.cons rfl (.cons rfl (.cons rfl (.cons rfl (.cons rfl (.cons rfl (.cons rfl (.cons rfl (.cons rfl (.cons rfl .nil))))))))))))))))) (.cons rfl (.cons rfl .nil))
    ·refine St.alloc 9 6 rfl (wn rfl) rfl ze_46 fun zDF hb138 => ?_
     refine Dr.one 8 (by kernel_rfl) ?_
     refine St.alloc 8 5 rfl (wn rfl) rfl ze_46 fun zC7 hb137 => ?_
     exact (hC ⟨zC7, zDF⟩ ⟨hb137, hb138⟩).use (by kernel_rfl) (.cons rfl (.cons rfl (.cons rfl (.cons rfl (.cons rfl (.cons rfl (.cons rfl (.cons rfl (.cons rfl (.cons rfl (.cons rfl (.cons rfl (.cons rfl (.cons rfl (.cons rfl (.cons rfl (.cons rfl .nil))))))))))))))))) (.cons rfl (.cons rfl .nil))
   intro u hu
   obtain ⟨zC7, zDF⟩ := u
   obtain ⟨hb137, hb138⟩ := hu
   replace hb137 : sz132 ≤ zC7 := hb137
   show Dr _ _ _ _ _ _ _ _ _ (LF [(0, (.slice QA p0.length QB)), (1, (.slice QG p1.length QH)), (5, (iv Wy)), (6, (.pointer (some ⟨zC7, 0, none⟩))), (7, (.pointer (some ⟨zDF, 0, none⟩))), (13, (iv Wy)), (14, (.slice QA p0.length QB)), (15, (iv (p0.length : Int))), (16, (.bool (decide (Wy < (p0.length : Int))))), (19, (.slice QA p0.length QB)), (20, (iv Wy)), (21, (.pointer (some ⟨adB QA, adO QA + (Wy).toNat * 8, none⟩))), (22, (.agg #[(iv QI.Kind), (sv QI.Name), (iv QI.At.X), (iv QI.At.Y), (.slice Kb QI.Points.length KV), (iv QI.NX), (iv QI.NY), (.slice Km QI.Steps.length Ki)])), (23, (.slice QG p1.length QH)), (24, (iv Wy)), (25, (.pointer (some ⟨adB QG, adO QG + (Wy).toNat * 8, none⟩))), (26, (.agg #[(iv QK.Kind), (sv QK.Name), (iv QK.At.X), (iv QK.At.Y), (.slice Ka QK.Points.length KU), (iv QK.NX), (iv QK.NY), (.slice Kl QK.Steps.length Kh)]))]) (LE [(5, bx zC7 #[(iv 0), (sv ⟨#[]⟩), (iv 0), (iv 0), (.slice none 0 0), (iv 0), (iv 0), (.slice none 0 0)] 46), (6, bx zDF #[(iv 0), (sv ⟨#[]⟩), (iv 0), (iv 0), (.slice none 0 0), (iv 0), (iv 0), (.slice none 0 0)] 46)])
   refine Dr.one 10 (by kernel_rfl) ?_
   refine St.store 10 5 (cs := [(iv QI.Kind), (sv QI.Name), (iv QI.At.X), (iv QI.At.Y), (.slice Kb QI.Points.length KV), (iv QI.NX), (iv QI.NY), (.slice Km QI.Steps.length Ki)]) [(iv QI.Kind), (sv QI.Name), (iv QI.At.X), (iv QI.At.Y), (.slice Kb QI.Points.length KV), (iv QI.NX), (iv QI.NY), (.slice Km QI.Steps.length Ki)] rfl (wn rfl) (.inr ⟨by simp, hb137⟩) rfl rfl rfl rfl zEH rfl rfl rfl ?_
   refine Dr.tail (by kernel_rfl) ?_
   refine Tr.store 6 (cs := [(iv QK.Kind), (sv QK.Name), (iv QK.At.X), (iv QK.At.Y), (.slice Ka QK.Points.length KU), (iv QK.NX), (iv QK.NY), (.slice Kl QK.Steps.length Kh)]) [(iv QK.Kind), (sv QK.Name), (iv QK.At.X), (iv QK.At.Y), (.slice Ka QK.Points.length KU), (iv QK.NX), (iv QK.NY), (.slice Kl QK.Steps.length Kh)] (wn rfl) rfl rfl rfl rfl zEH rfl rfl rfl ?_
   refine Tr.nil (Tr.zA (Tr.sr (Tr.va rfl (fun _ _ h1 h2 => zB zGw (h1.ev rfl)) ?_)))
   refine Tr.va rfl (fun _ _ h1 h2 => zC QO (h1.ev rfl) (rdb h2 (vs := [(iv QI.Kind), (sv QI.Name), (iv QI.At.X), (iv QI.At.Y), (.slice Kb QI.Points.length KV), (iv QI.NX), (iv QI.NY), (.slice Km QI.Steps.length Ki)]) (k := 5) rfl 0) rfl) ?_
   refine Tr.va rfl (fun _ _ h1 h2 => zB zGw (h1.ev rfl)) ?_
   refine Tr.va rfl (fun _ _ h1 h2 => zC QO (h1.ev rfl) (rdb h2 (vs := [(iv QK.Kind), (sv QK.Name), (iv QK.At.X), (iv QK.At.Y), (.slice Ka QK.Points.length KU), (iv QK.NX), (iv QK.NY), (.slice Kl QK.Steps.length Kh)]) (k := 6) rfl 0) rfl) ?_
   refine Tr.va rfl (fun _ _ h1 h2 => Jv (h1.ev rfl) (h1.ev rfl)) ?_
   refine Tr.mv rfl rfl (Tr.VR 6 [(0, (.slice QA p0.length QB)), (1, (.slice QG p1.length QH)), (5, (iv Wy)), (6, (.pointer (some ⟨zC7, 0, none⟩))), (7, (.pointer (some ⟨zDF, 0, none⟩))), (38, (.bool ((QI.Kind != QK.Kind) || (!sEq QI.Name QK.Name))))] [(5, bx zC7 #[(iv QI.Kind), (sv QI.Name), (iv QI.At.X), (iv QI.At.Y), (.slice Kb QI.Points.length KV), (iv QI.NX), (iv QI.NY), (.slice Km QI.Steps.length Ki)] 46), (6, bx zDF #[(iv QK.Kind), (sv QK.Name), (iv QK.At.X), (iv QK.At.Y), (.slice Ka QK.Points.length KU), (iv QK.NX), (iv QK.NY), (.slice Kl QK.Steps.length Kh)] 46)] ?_ ?_)
   ·cases zKI : (QI.Kind != QK.Kind)
    ·refine Tr.val (wg rfl rfl rfl) rfl (fun _ _ h1 h2 => zB zIg (h1.ev rfl)) ?_
     refine Tr.val (wg rfl rfl rfl) rfl (fun _ _ h1 h2 => zC zKX (h1.ev rfl) (rdb h2 (vs := [(iv QI.Kind), (sv QI.Name), (iv QI.At.X), (iv QI.At.Y), (.slice Kb QI.Points.length KV), (iv QI.NX), (iv QI.NY), (.slice Km QI.Steps.length Ki)]) (k := 5) rfl 1) rfl) ?_
     refine Tr.val (wg rfl rfl rfl) rfl (fun _ _ h1 h2 => zB zIg (h1.ev rfl)) ?_
     refine Tr.val (wg rfl rfl rfl) rfl (fun _ _ h1 h2 => zC zKX (h1.ev rfl) (rdb h2 (vs := [(iv QK.Kind), (sv QK.Name), (iv QK.At.X), (iv QK.At.Y), (.slice Ka QK.Points.length KU), (iv QK.NX), (iv QK.NY), (.slice Kl QK.Steps.length Kh)]) (k := 6) rfl 1) rfl) ?_
     refine Tr.val (wg rfl rfl rfl) rfl (fun _ _ h1 h2 => run_neqS (h1.ev rfl) (h1.ev rfl)) ?_
     refine Tr.va rfl (fun _ _ h1 h2 => zf (h1.ev rfl) (h1.ev rfl)) ?_
     exact Tr.nil (Tr.Qo (.cons rfl (.cons rfl (.cons rfl (.cons rfl (.cons rfl (.cons rfl .nil)))))) (.cons rfl (.cons rfl .nil)))
    ·refine Tr.pass rfl rfl rfl rfl rfl (by decide) ?_
     refine Tr.pass rfl rfl rfl rfl rfl (by decide) ?_
     refine Tr.pass rfl rfl rfl rfl rfl (by decide) ?_
     refine Tr.pass rfl rfl rfl rfl rfl (by decide) ?_
     refine Tr.pass rfl rfl rfl rfl rfl (by decide) ?_
     refine Tr.va rfl (fun _ _ h1 h2 => ze (h1.ev rfl) (h1.ev rfl)) ?_
     exact Tr.nil (Tr.Qo (.cons rfl (.cons rfl (.cons rfl (.cons rfl (.cons rfl (.cons rfl .nil)))))) (.cons rfl (.cons rfl .nil)))
   ·show Tr _ _ (LF [(0, (.slice QA p0.length QB)), (1, (.slice QG p1.length QH)), (5, (iv Wy)), (6, (.pointer (some ⟨zC7, 0, none⟩))), (7, (.pointer (some ⟨zDF, 0, none⟩))), (38, (.bool ((QI.Kind != QK.Kind) || (!sEq QI.Name QK.Name))))]) (LE [(5, bx zC7 #[(iv QI.Kind), (sv QI.Name), (iv QI.At.X), (iv QI.At.Y), (.slice Kb QI.Points.length KV), (iv QI.NX), (iv QI.NY), (.slice Km QI.Steps.length Ki)] 46), (6, bx zDF #[(iv QK.Kind), (sv QK.Name), (iv QK.At.X), (iv QK.At.Y), (.slice Ka QK.Points.length KU), (iv QK.NX), (iv QK.NY), (.slice Kl QK.Steps.length Kh)] 46)]) _
    refine Tr.mv rfl rfl (Tr.VR 6 [(0, (.slice QA p0.length QB)), (1, (.slice QG p1.length QH)), (5, (iv Wy)), (6, (.pointer (some ⟨zC7, 0, none⟩))), (7, (.pointer (some ⟨zDF, 0, none⟩))), (45, (.bool (((QI.Kind != QK.Kind) || (!sEq QI.Name QK.Name)) || (!(KD QI.At QK.At)))))] [(5, bx zC7 #[(iv QI.Kind), (sv QI.Name), (iv QI.At.X), (iv QI.At.Y), (.slice Kb QI.Points.length KV), (iv QI.NX), (iv QI.NY), (.slice Km QI.Steps.length Ki)] 46), (6, bx zDF #[(iv QK.Kind), (sv QK.Name), (iv QK.At.X), (iv QK.At.Y), (.slice Ka QK.Points.length KU), (iv QK.NX), (iv QK.NY), (.slice Kl QK.Steps.length Kh)] 46)] ?_ ?_)
    ·cases zKI : ((QI.Kind != QK.Kind) || (!sEq QI.Name QK.Name))
     ·refine Tr.val (wg rfl rfl rfl) rfl (fun _ _ h1 h2 => zB zB6 (h1.ev rfl)) ?_
      refine Tr.val (wg rfl rfl rfl) rfl (fun _ _ h1 h2 => zR (cs := [(iv QI.At.X), (iv QI.At.Y)]) KF JB (h1.ev rfl) (zL.take (rdb h2 (vs := [(iv QI.Kind), (sv QI.Name), (iv QI.At.X), (iv QI.At.Y), (.slice Kb QI.Points.length KV), (iv QI.NX), (iv QI.NY), (.slice Km QI.Steps.length Ki)]) (k := 5) rfl 2) 2) rfl) ?_
      refine Tr.val (wg rfl rfl rfl) rfl (fun _ _ h1 h2 => zB zB6 (h1.ev rfl)) ?_
      refine Tr.val (wg rfl rfl rfl) rfl (fun _ _ h1 h2 => zR (cs := [(iv QK.At.X), (iv QK.At.Y)]) KF JB (h1.ev rfl) (zL.take (rdb h2 (vs := [(iv QK.Kind), (sv QK.Name), (iv QK.At.X), (iv QK.At.Y), (.slice Ka QK.Points.length KU), (iv QK.NX), (iv QK.NY), (.slice Kl QK.Steps.length Kh)]) (k := 6) rfl 2) 2) rfl) ?_
      refine Tr.val (wg rfl rfl rfl) rfl (fun _ _ h1 h2 => zJN QI.At QK.At (h1.ev rfl) (h1.ev rfl)) ?_
      refine Tr.va rfl (fun _ _ h1 h2 => zf (h1.ev rfl) (h1.ev rfl)) ?_
      exact Tr.nil (Tr.Qo (.cons rfl (.cons rfl (.cons rfl (.cons rfl (.cons rfl (.cons rfl .nil)))))) (.cons rfl (.cons rfl .nil)))
     ·refine Tr.pass rfl rfl rfl rfl rfl (by decide) ?_
      refine Tr.pass rfl rfl rfl rfl rfl (by decide) ?_
      refine Tr.pass rfl rfl rfl rfl rfl (by decide) ?_
      refine Tr.pass rfl rfl rfl rfl rfl (by decide) ?_
      refine Tr.pass rfl rfl rfl rfl rfl (by decide) ?_
      refine Tr.va rfl (fun _ _ h1 h2 => ze (h1.ev rfl) (h1.ev rfl)) ?_
      exact Tr.nil (Tr.Qo (.cons rfl (.cons rfl (.cons rfl (.cons rfl (.cons rfl (.cons rfl .nil)))))) (.cons rfl (.cons rfl .nil)))
    ·show Tr _ _ (LF [(0, (.slice QA p0.length QB)), (1, (.slice QG p1.length QH)), (5, (iv Wy)), (6, (.pointer (some ⟨zC7, 0, none⟩))), (7, (.pointer (some ⟨zDF, 0, none⟩))), (45, (.bool (((QI.Kind != QK.Kind) || (!sEq QI.Name QK.Name)) || (!(KD QI.At QK.At)))))]) (LE [(5, bx zC7 #[(iv QI.Kind), (sv QI.Name), (iv QI.At.X), (iv QI.At.Y), (.slice Kb QI.Points.length KV), (iv QI.NX), (iv QI.NY), (.slice Km QI.Steps.length Ki)] 46), (6, bx zDF #[(iv QK.Kind), (sv QK.Name), (iv QK.At.X), (iv QK.At.Y), (.slice Ka QK.Points.length KU), (iv QK.NX), (iv QK.NY), (.slice Kl QK.Steps.length Kh)] 46)]) _
     refine Tr.mv rfl rfl (Tr.VR 6 [(0, (.slice QA p0.length QB)), (1, (.slice QG p1.length QH)), (5, (iv Wy)), (6, (.pointer (some ⟨zC7, 0, none⟩))), (7, (.pointer (some ⟨zDF, 0, none⟩))), (52, (.bool ((((QI.Kind != QK.Kind) || (!sEq QI.Name QK.Name)) || (!(KD QI.At QK.At))) || (QI.NX != QK.NX))))] [(5, bx zC7 #[(iv QI.Kind), (sv QI.Name), (iv QI.At.X), (iv QI.At.Y), (.slice Kb QI.Points.length KV), (iv QI.NX), (iv QI.NY), (.slice Km QI.Steps.length Ki)] 46), (6, bx zDF #[(iv QK.Kind), (sv QK.Name), (iv QK.At.X), (iv QK.At.Y), (.slice Ka QK.Points.length KU), (iv QK.NX), (iv QK.NY), (.slice Kl QK.Steps.length Kh)] 46)] ?_ ?_)
     ·cases zKI : (((QI.Kind != QK.Kind) || (!sEq QI.Name QK.Name)) || (!(KD QI.At QK.At)))
      ·refine Tr.val (wg rfl rfl rfl) rfl (fun _ _ h1 h2 => zB zGv (h1.ev rfl)) ?_
       refine Tr.val (wg rfl rfl rfl) rfl (fun _ _ h1 h2 => zC QO (h1.ev rfl) (rdb h2 (vs := [(iv QI.Kind), (sv QI.Name), (iv QI.At.X), (iv QI.At.Y), (.slice Kb QI.Points.length KV), (iv QI.NX), (iv QI.NY), (.slice Km QI.Steps.length Ki)]) (k := 5) rfl 5) rfl) ?_
       refine Tr.val (wg rfl rfl rfl) rfl (fun _ _ h1 h2 => zB zGv (h1.ev rfl)) ?_
       refine Tr.val (wg rfl rfl rfl) rfl (fun _ _ h1 h2 => zC QO (h1.ev rfl) (rdb h2 (vs := [(iv QK.Kind), (sv QK.Name), (iv QK.At.X), (iv QK.At.Y), (.slice Ka QK.Points.length KU), (iv QK.NX), (iv QK.NY), (.slice Kl QK.Steps.length Kh)]) (k := 6) rfl 5) rfl) ?_
       refine Tr.val (wg rfl rfl rfl) rfl (fun _ _ h1 h2 => Jv (h1.ev rfl) (h1.ev rfl)) ?_
       refine Tr.va rfl (fun _ _ h1 h2 => zf (h1.ev rfl) (h1.ev rfl)) ?_
       exact Tr.nil (Tr.Qo (.cons rfl (.cons rfl (.cons rfl (.cons rfl (.cons rfl (.cons rfl .nil)))))) (.cons rfl (.cons rfl .nil)))
      ·refine Tr.pass rfl rfl rfl rfl rfl (by decide) ?_
       refine Tr.pass rfl rfl rfl rfl rfl (by decide) ?_
       refine Tr.pass rfl rfl rfl rfl rfl (by decide) ?_
       refine Tr.pass rfl rfl rfl rfl rfl (by decide) ?_
       refine Tr.pass rfl rfl rfl rfl rfl (by decide) ?_
       refine Tr.va rfl (fun _ _ h1 h2 => ze (h1.ev rfl) (h1.ev rfl)) ?_
       exact Tr.nil (Tr.Qo (.cons rfl (.cons rfl (.cons rfl (.cons rfl (.cons rfl (.cons rfl .nil)))))) (.cons rfl (.cons rfl .nil)))
     ·show Tr _ _ (LF [(0, (.slice QA p0.length QB)), (1, (.slice QG p1.length QH)), (5, (iv Wy)), (6, (.pointer (some ⟨zC7, 0, none⟩))), (7, (.pointer (some ⟨zDF, 0, none⟩))), (52, (.bool ((((QI.Kind != QK.Kind) || (!sEq QI.Name QK.Name)) || (!(KD QI.At QK.At))) || (QI.NX != QK.NX))))]) (LE [(5, bx zC7 #[(iv QI.Kind), (sv QI.Name), (iv QI.At.X), (iv QI.At.Y), (.slice Kb QI.Points.length KV), (iv QI.NX), (iv QI.NY), (.slice Km QI.Steps.length Ki)] 46), (6, bx zDF #[(iv QK.Kind), (sv QK.Name), (iv QK.At.X), (iv QK.At.Y), (.slice Ka QK.Points.length KU), (iv QK.NX), (iv QK.NY), (.slice Kl QK.Steps.length Kh)] 46)]) _
      refine Tr.mv rfl rfl (Tr.VR 6 [(0, (.slice QA p0.length QB)), (1, (.slice QG p1.length QH)), (5, (iv Wy)), (6, (.pointer (some ⟨zC7, 0, none⟩))), (7, (.pointer (some ⟨zDF, 0, none⟩))), (59, (.bool (((((QI.Kind != QK.Kind) || (!sEq QI.Name QK.Name)) || (!(KD QI.At QK.At))) || (QI.NX != QK.NX)) || (QI.NY != QK.NY))))] [(5, bx zC7 #[(iv QI.Kind), (sv QI.Name), (iv QI.At.X), (iv QI.At.Y), (.slice Kb QI.Points.length KV), (iv QI.NX), (iv QI.NY), (.slice Km QI.Steps.length Ki)] 46), (6, bx zDF #[(iv QK.Kind), (sv QK.Name), (iv QK.At.X), (iv QK.At.Y), (.slice Ka QK.Points.length KU), (iv QK.NX), (iv QK.NY), (.slice Kl QK.Steps.length Kh)] 46)] ?_ ?_)
      ·cases zKI : ((((QI.Kind != QK.Kind) || (!sEq QI.Name QK.Name)) || (!(KD QI.At QK.At))) || (QI.NX != QK.NX))
       ·refine Tr.val (wg rfl rfl rfl) rfl (fun _ _ h1 h2 => zB zGu (h1.ev rfl)) ?_
        refine Tr.val (wg rfl rfl rfl) rfl (fun _ _ h1 h2 => zC QO (h1.ev rfl) (rdb h2 (vs := [(iv QI.Kind), (sv QI.Name), (iv QI.At.X), (iv QI.At.Y), (.slice Kb QI.Points.length KV), (iv QI.NX), (iv QI.NY), (.slice Km QI.Steps.length Ki)]) (k := 5) rfl 6) rfl) ?_
        refine Tr.val (wg rfl rfl rfl) rfl (fun _ _ h1 h2 => zB zGu (h1.ev rfl)) ?_
        refine Tr.val (wg rfl rfl rfl) rfl (fun _ _ h1 h2 => zC QO (h1.ev rfl) (rdb h2 (vs := [(iv QK.Kind), (sv QK.Name), (iv QK.At.X), (iv QK.At.Y), (.slice Ka QK.Points.length KU), (iv QK.NX), (iv QK.NY), (.slice Kl QK.Steps.length Kh)]) (k := 6) rfl 6) rfl) ?_
        refine Tr.val (wg rfl rfl rfl) rfl (fun _ _ h1 h2 => Jv (h1.ev rfl) (h1.ev rfl)) ?_
        refine Tr.va rfl (fun _ _ h1 h2 => zf (h1.ev rfl) (h1.ev rfl)) ?_
        exact Tr.nil (Tr.Qo (.cons rfl (.cons rfl (.cons rfl (.cons rfl (.cons rfl (.cons rfl .nil)))))) (.cons rfl (.cons rfl .nil)))
       ·refine Tr.pass rfl rfl rfl rfl rfl (by decide) ?_
        refine Tr.pass rfl rfl rfl rfl rfl (by decide) ?_
        refine Tr.pass rfl rfl rfl rfl rfl (by decide) ?_
        refine Tr.pass rfl rfl rfl rfl rfl (by decide) ?_
        refine Tr.pass rfl rfl rfl rfl rfl (by decide) ?_
        refine Tr.va rfl (fun _ _ h1 h2 => ze (h1.ev rfl) (h1.ev rfl)) ?_
        exact Tr.nil (Tr.Qo (.cons rfl (.cons rfl (.cons rfl (.cons rfl (.cons rfl (.cons rfl .nil)))))) (.cons rfl (.cons rfl .nil)))
      ·show Tr _ _ (LF [(0, (.slice QA p0.length QB)), (1, (.slice QG p1.length QH)), (5, (iv Wy)), (6, (.pointer (some ⟨zC7, 0, none⟩))), (7, (.pointer (some ⟨zDF, 0, none⟩))), (59, (.bool (((((QI.Kind != QK.Kind) || (!sEq QI.Name QK.Name)) || (!(KD QI.At QK.At))) || (QI.NX != QK.NX)) || (QI.NY != QK.NY))))]) (LE [(5, bx zC7 #[(iv QI.Kind), (sv QI.Name), (iv QI.At.X), (iv QI.At.Y), (.slice Kb QI.Points.length KV), (iv QI.NX), (iv QI.NY), (.slice Km QI.Steps.length Ki)] 46), (6, bx zDF #[(iv QK.Kind), (sv QK.Name), (iv QK.At.X), (iv QK.At.Y), (.slice Ka QK.Points.length KU), (iv QK.NX), (iv QK.NY), (.slice Kl QK.Steps.length Kh)] 46)]) _
       refine Tr.mv rfl rfl ?_
       obtain ⟨g140, hg140, H⟩ := bnd H
       refine Tr.VR 7 [(0, (.slice QA p0.length QB)), (1, (.slice QG p1.length QH)), (5, (iv Wy)), (6, (.pointer (some ⟨zC7, 0, none⟩))), (7, (.pointer (some ⟨zDF, 0, none⟩))), (67, (.bool g140))] [(5, bx zC7 #[(iv QI.Kind), (sv QI.Name), (iv QI.At.X), (iv QI.At.Y), (.slice Kb QI.Points.length KV), (iv QI.NX), (iv QI.NY), (.slice Km QI.Steps.length Ki)] 46), (6, bx zDF #[(iv QK.Kind), (sv QK.Name), (iv QK.At.X), (iv QK.At.Y), (.slice Ka QK.Points.length KU), (iv QK.NX), (iv QK.NY), (.slice Kl QK.Steps.length Kh)] 46)] ?_ ?_
       ·cases zKI : (((((QI.Kind != QK.Kind) || (!sEq QI.Name QK.Name)) || (!(KD QI.At QK.At))) || (QI.NX != QK.NX)) || (QI.NY != QK.NY))
        ·rw [zKI] at hg140
         rw [if_neg (by decide)] at hg140
         have H := hg140
         refine Tr.val (wg rfl rfl rfl) rfl (fun _ _ h1 h2 => zB zB5 (h1.ev rfl)) ?_
         refine Tr.val (wg rfl rfl rfl) rfl (fun _ _ h1 h2 => zC zGU (h1.ev rfl) (rdb h2 (vs := [(iv QI.Kind), (sv QI.Name), (iv QI.At.X), (iv QI.At.Y), (.slice Kb QI.Points.length KV), (iv QI.NX), (iv QI.NY), (.slice Km QI.Steps.length Ki)]) (k := 5) rfl 4) rfl) ?_
         refine Tr.val (wg rfl rfl rfl) rfl (fun _ _ h1 h2 => zB zB5 (h1.ev rfl)) ?_
         refine Tr.val (wg rfl rfl rfl) rfl (fun _ _ h1 h2 => zC zGU (h1.ev rfl) (rdb h2 (vs := [(iv QK.Kind), (sv QK.Name), (iv QK.At.X), (iv QK.At.Y), (.slice Ka QK.Points.length KU), (iv QK.NX), (iv QK.NY), (.slice Kl QK.Steps.length Kh)]) (k := 6) rfl 4) rfl) ?_
         obtain ⟨y141, hy141, H⟩ := bnd H
         refine Tr.Qp (r := (.bool y141)) (wg rfl rfl rfl) rfl Tryz.call51 (zF rfl (zF rfl zO)) (fun W hW => zD2 N QI.Points Kb KV (hoku134_0.ext hW.QZ) QK.Points Ka KU (hoku136_0.ext hW.QZ) y141 hy141 (HF.start _)) ?_
         refine Tr.val (wg rfl rfl rfl) rfl (fun _ _ h1 h2 => JO (h1.ev rfl)) ?_
         refine Tr.va rfl (fun _ _ h1 h2 => zf (h1.ev rfl) (h1.ev rfl)) ?_
         obtain rfl := Option.some.inj H
         exact Tr.nil (Tr.Qo (.cons rfl (.cons rfl (.cons rfl (.cons rfl (.cons rfl (.cons rfl .nil)))))) (.cons rfl (.cons rfl .nil)))
        ·rw [zKI] at hg140
         rw [if_pos rfl] at hg140
         have H := hg140
         obtain rfl := Option.some.inj H
         refine Tr.pass rfl rfl rfl rfl rfl (by decide) ?_
         refine Tr.pass rfl rfl rfl rfl rfl (by decide) ?_
         refine Tr.pass rfl rfl rfl rfl rfl (by decide) ?_
         refine Tr.pass rfl rfl rfl rfl rfl (by decide) ?_
         refine Tr.pass rfl rfl rfl rfl rfl (by decide) ?_
         refine Tr.pass rfl rfl rfl rfl rfl (by decide) ?_
         refine Tr.va rfl (fun _ _ h1 h2 => ze (h1.ev rfl) (h1.ev rfl)) ?_
         exact Tr.nil (Tr.Qo (.cons rfl (.cons rfl (.cons rfl (.cons rfl (.cons rfl (.cons rfl .nil)))))) (.cons rfl (.cons rfl .nil)))
       ·show Tr _ _ (LF [(0, (.slice QA p0.length QB)), (1, (.slice QG p1.length QH)), (5, (iv Wy)), (6, (.pointer (some ⟨zC7, 0, none⟩))), (7, (.pointer (some ⟨zDF, 0, none⟩))), (67, (.bool g140))]) (LE [(5, bx zC7 #[(iv QI.Kind), (sv QI.Name), (iv QI.At.X), (iv QI.At.Y), (.slice Kb QI.Points.length KV), (iv QI.NX), (iv QI.NY), (.slice Km QI.Steps.length Ki)] 46), (6, bx zDF #[(iv QK.Kind), (sv QK.Name), (iv QK.At.X), (iv QK.At.Y), (.slice Ka QK.Points.length KU), (iv QK.NX), (iv QK.NY), (.slice Kl QK.Steps.length Kh)] 46)]) _
        refine Tr.mv rfl rfl ?_
        obtain ⟨g143, hg143, H⟩ := bnd H
        refine Tr.VR 7 [(0, (.slice QA p0.length QB)), (1, (.slice QG p1.length QH)), (5, (iv Wy)), (75, (.bool g143))] [(5, bx zC7 #[(iv QI.Kind), (sv QI.Name), (iv QI.At.X), (iv QI.At.Y), (.slice Kb QI.Points.length KV), (iv QI.NX), (iv QI.NY), (.slice Km QI.Steps.length Ki)] 46), (6, bx zDF #[(iv QK.Kind), (sv QK.Name), (iv QK.At.X), (iv QK.At.Y), (.slice Ka QK.Points.length KU), (iv QK.NX), (iv QK.NY), (.slice Kl QK.Steps.length Kh)] 46)] ?_ ?_
        ·cases zKI : g140
         ·rw [zKI] at hg143
          rw [if_neg (by decide)] at hg143
          have H := hg143
          refine Tr.val (wg rfl rfl rfl) rfl (fun _ _ h1 h2 => zB zC1 (h1.ev rfl)) ?_
          refine Tr.val (wg rfl rfl rfl) rfl (fun _ _ h1 h2 => zC zDu (h1.ev rfl) (rdb h2 (vs := [(iv QI.Kind), (sv QI.Name), (iv QI.At.X), (iv QI.At.Y), (.slice Kb QI.Points.length KV), (iv QI.NX), (iv QI.NY), (.slice Km QI.Steps.length Ki)]) (k := 5) rfl 7) rfl) ?_
          refine Tr.val (wg rfl rfl rfl) rfl (fun _ _ h1 h2 => zB zC1 (h1.ev rfl)) ?_
          refine Tr.val (wg rfl rfl rfl) rfl (fun _ _ h1 h2 => zC zDu (h1.ev rfl) (rdb h2 (vs := [(iv QK.Kind), (sv QK.Name), (iv QK.At.X), (iv QK.At.Y), (.slice Ka QK.Points.length KU), (iv QK.NX), (iv QK.NY), (.slice Kl QK.Steps.length Kh)]) (k := 6) rfl 7) rfl) ?_
          obtain ⟨y144, hy144, H⟩ := bnd H
          refine Tr.Qp (r := (.bool y144)) (wg rfl rfl rfl) rfl Tryz.call26 (zF rfl (zF rfl zO)) (fun W hW => hrec QI.Steps Km Ki (hoku134_1.ext hW.QZ) QK.Steps Kl Kh (hoku136_1.ext hW.QZ) y144 hy144 (HF.start _)) ?_
          refine Tr.val (wg rfl rfl rfl) rfl (fun _ _ h1 h2 => JO (h1.ev rfl)) ?_
          refine Tr.va rfl (fun _ _ h1 h2 => zf (h1.ev rfl) (h1.ev rfl)) ?_
          obtain rfl := Option.some.inj H
          exact Tr.nil (Tr.Qo (.cons rfl (.cons rfl (.cons rfl (.cons rfl .nil)))) (.cons rfl (.cons rfl .nil)))
         ·rw [zKI] at hg143
          rw [if_pos rfl] at hg143
          have H := hg143
          obtain rfl := Option.some.inj H
          refine Tr.pass rfl rfl rfl rfl rfl (by decide) ?_
          refine Tr.pass rfl rfl rfl rfl rfl (by decide) ?_
          refine Tr.pass rfl rfl rfl rfl rfl (by decide) ?_
          refine Tr.pass rfl rfl rfl rfl rfl (by decide) ?_
          refine Tr.pass rfl rfl rfl rfl rfl (by decide) ?_
          refine Tr.pass rfl rfl rfl rfl rfl (by decide) ?_
          refine Tr.va rfl (fun _ _ h1 h2 => ze (h1.ev rfl) (h1.ev rfl)) ?_
          exact Tr.nil (Tr.Qo (.cons rfl (.cons rfl (.cons rfl (.cons rfl .nil)))) (.cons rfl (.cons rfl .nil)))
        ·show Tr _ _ (LF [(0, (.slice QA p0.length QB)), (1, (.slice QG p1.length QH)), (5, (iv Wy)), (75, (.bool g143))]) (LE [(5, bx zC7 #[(iv QI.Kind), (sv QI.Name), (iv QI.At.X), (iv QI.At.Y), (.slice Kb QI.Points.length KV), (iv QI.NX), (iv QI.NY), (.slice Km QI.Steps.length Ki)] 46), (6, bx zDF #[(iv QK.Kind), (sv QK.Name), (iv QK.At.X), (iv QK.At.Y), (.slice Ka QK.Points.length KU), (iv QK.NX), (iv QK.NY), (.slice Kl QK.Steps.length Kh)] 46)]) _
         refine Tr.nil (Tr.zA (Tr.cond rfl H (fun H => ?_) (fun H => ?_)))
         ·refine Tr.sr (Tr.asg rfl rfl (Tr.nil (Tr.zA (Tr.ret (Tr.zAB (Tr.zU (Tr.zU (Tr.zAB (Tr.zU ?_)))))))))
          obtain rfl := Option.some.inj H
          exact Tr.out (m := [(.bool false)]) [] (zP rfl zQ) (fun W hW => ⟨rfl, hW.low leB⟩)
         ·refine Tr.skip (Tr.zW (Tr.zA ?_))
          refine Tr.region (Tr.mv rfl rfl (Tr.va rfl (fun _ _ h1 h2 => zx (h1.ev rfl) (h1.ev rfl)) ?_))
          exact Tr.asg rfl rfl (Tr.nil (Tr.zZ QW (w64 (Wy + 1)) H (.cons rfl (.cons rfl (.cons rfl .nil))) .nil))
  ·refine Tr.exit (Tr.zX (Tr.zX (Tr.zAC (Tr.zA (Tr.sr (Tr.asg rfl rfl (Tr.nil (Tr.zA (Tr.ret ?_)))))))))
   obtain rfl := Option.some.inj H
   exact Tr.out (m := [(.bool true)]) [] (zP rfl zQ) (fun W hW => ⟨rfl, hW.low leB⟩)
theorem zBP : ∀ (N : Nat) {w : Bs} (p0 : (List zD)) (QA : Option Addr) (QB : Nat) (QE : Sl w.R w.W zG QA QB p0) (p1 : (List zD)) (QG : Option Addr) (QH : Nat) (QV : Sl w.R w.W zG QG QH p1) (r : Bool) (H : Ke N p0 p1 = some r) (hE : HF w w.W E0), Calls Tryz.prog 26 [(.slice QA p0.length QB), (.slice QG p1.length QH)].toArray w.W fun e W' => e = .returned (.bool r) ∧ HF w W' E0
 | 0 => by intros; rename_i H _; cases H
 | N + 1 => zDW N (Ke N) (zBP N)

theorem zED (N : Nat) {w : Bs} (p0 : (List zT)) (QA : Option Addr) (QB : Nat) (QE : Sl w.R w.W zN QA QB p0) (p1 : (List zT)) (QG : Option Addr) (QH : Nat) (QV : Sl w.R w.W zN QG QH p1) (r : Bool) (H : Kg N p0 p1 = some r) (hE : HF w w.W E0) : Calls Tryz.prog 27 [(.slice QA p0.length QB), (.slice QG p1.length QH)].toArray w.W fun e W' => e = .returned (.bool r) ∧ HF w W' E0 := by
 unfold Kg at H
 have leB := Bs.Le.refl w
 refine Tr.enter (n := 26) Tryz.func27 rfl rfl rfl hE ?_
 refine Tr.sr (Tr.asg rfl rfl (Tr.nil (Tr.zA (Tr.seq (Tr.sr (Tr.mv rfl rfl (Tr.va rfl (fun _ _ h1 h2 => zq zA0 (h1.ev rfl)) ?_)))))))
 refine Tr.mv rfl rfl (Tr.va rfl (fun _ _ h1 h2 => zq zA0 (h1.ev rfl)) ?_)
 refine Tr.va rfl (fun _ _ h1 h2 => Jv (h1.ev rfl) (h1.ev rfl)) ?_
 refine Tr.nil (Tr.zA (Tr.cond rfl H (fun H => ?_) (fun H => ?_)))
 ·refine Tr.sr (Tr.asg rfl rfl (Tr.nil (Tr.zA (Tr.ret (Tr.zU ?_)))))
  obtain rfl := Option.some.inj H
  exact Tr.out (m := [(.bool false)]) [] (zP rfl zQ) (fun W hW => ⟨rfl, hW.low leB⟩)
 ·refine Tr.skip (Tr.zA (Tr.seq (Tr.sr (Tr.asg rfl rfl (Tr.nil (Tr.zA (Tr.block (Tr.loop (σ := Int) (fun m w s => zAO p0 p1 m s = some r) (fun s => [(0, (.slice QA p0.length QB)), (1, (.slice QG p1.length QH)), (5, (iv s))]) (fun s => []) N 0 H (.cons rfl (.cons rfl (.cons rfl .nil))) .nil (fun _ _ h => zAi (h)) ?_))))))))
  intro w QW mL1 x107 hs
  have H := hs
  replace H : zAO p0 p1 (mL1 + 1) x107 = some r := H
  replace QE := QE.leR QW
  replace QV := QV.leR QW
  replace leB := leB.trans QW
  rw [zAO.eq_2] at H
  show Tr _ _ (LF [(0, (.slice QA p0.length QB)), (1, (.slice QG p1.length QH)), (5, (iv x107))]) (LE []) _
  refine Tr.seq (Tr.sr (Tr.mv rfl rfl (Tr.mv rfl rfl (Tr.va rfl (fun _ _ h1 h2 => zq zA0 (h1.ev rfl)) ?_))))
  refine Tr.va rfl (fun _ _ h1 h2 => zz (h1.ev rfl) (h1.ev rfl)) ?_
  refine Tr.nil (Tr.zA (Tr.cond rfl H (fun H => ?_) (fun H => ?_)))
  ·refine Tr.skip (Tr.zA (Tr.seq (Tr.block (Tr.seq (Tr.draw (by kernel_rfl) (by kernel_rfl) ?_)))))
   refine Tq.mv rfl rfl (Tq.mv rfl rfl ?_)
   obtain ⟨zAy, zKC, H⟩ := bnd H
   obtain ⟨zGq, zGp, zGo⟩ := zh zKC
   refine Tq.va rfl (fun _ _ h1 h2 => zH zCR (h1.ev rfl) QE.form (h1.ev rfl) zGq zGp) ?_
   refine Tq.va rfl (fun _ _ h1 h2 => zR (cs := [(iv zAy.X0), (iv zAy.Y0), (iv zAy.X1), (iv zAy.Y1)]) zCD Kv (h1.ev rfl) (zL.take (rdF VM QE zGo h2) 4) rfl) ?_
   refine Tq.mv rfl rfl (Tq.mv rfl rfl ?_)
   obtain ⟨zEQ, hx109, H⟩ := bnd H
   obtain ⟨hx1090, hx1091, hx1092⟩ := zh hx109
   refine Tq.va rfl (fun _ _ h1 h2 => zH zCR (h1.ev rfl) QV.form (h1.ev rfl) hx1090 hx1091) ?_
   refine Tq.va rfl (fun _ _ h1 h2 => zR (cs := [(iv zEQ.X0), (iv zEQ.Y0), (iv zEQ.X1), (iv zEQ.Y1)]) zCD Kv (h1.ev rfl) (zL.take (rdF VM QV hx1092 h2) 4) rfl) ?_
   refine Tq.va rfl (fun _ _ h1 h2 => run_neq_36 zAy zEQ (h1.ev rfl) (h1.ev rfl)) ?_
   refine Tq.nil (Tr.zA (Tr.cond rfl H (fun H => ?_) (fun H => ?_)))
   ·refine Tr.sr (Tr.asg rfl rfl (Tr.nil (Tr.zA (Tr.ret (Tr.zAB (Tr.zU (Tr.zU (Tr.zAB (Tr.zU ?_)))))))))
    obtain rfl := Option.some.inj H
    exact Tr.out (m := [(.bool false)]) [] (zP rfl zQ) (fun W hW => ⟨rfl, hW.low leB⟩)
   ·refine Tr.skip (Tr.zW (Tr.zA ?_))
    refine Tr.region (Tr.mv rfl rfl (Tr.va rfl (fun _ _ h1 h2 => zx (h1.ev rfl) (h1.ev rfl)) ?_))
    exact Tr.asg rfl rfl (Tr.nil (Tr.zZ QW (w64 (x107 + 1)) H (.cons rfl (.cons rfl (.cons rfl .nil))) .nil))
  ·refine Tr.exit (Tr.zX (Tr.zX (Tr.zAC (Tr.zA (Tr.sr (Tr.asg rfl rfl (Tr.nil (Tr.zA (Tr.ret ?_)))))))))
   obtain rfl := Option.some.inj H
   exact Tr.out (m := [(.bool true)]) [] (zP rfl zQ) (fun W hW => ⟨rfl, hW.low leB⟩)

end Go.Proofs.YtoageaoknnnfbaaGreatDoor
