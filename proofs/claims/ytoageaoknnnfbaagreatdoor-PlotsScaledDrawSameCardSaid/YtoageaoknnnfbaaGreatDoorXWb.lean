/- The walks: each function computes its plain function. -/
import Derived.Test.YtoageaoknnnfbaaGreatDoorXWa
namespace Go.Proofs.YtoageaoknnnfbaaGreatDoor
open Go.RowKit
set_option maxRecDepth 100000
set_option maxHeartbeats 1000000
theorem F_plot_ownTools__changed_2__scaled_1_ok (N : Nat) {w : Bs} (p0 : (List zS)) (Ap0_0 : Option Addr) (cp0_0 : Nat) (hp0_0 : Sl w.O w.W zK Ap0_0 cp0_0 p0) (bq0 : Nat) (q1 : Bool) (bq1 : Nat) (q2 : zt) (Aq2_0 : Option Addr) (cq2_0 : Nat) (hq2_0 : Sl w.R w.W zK Aq2_0 cq2_0 q2.Tools) (Aq2_1 : Option Addr) (cq2_1 : Nat) (hq2_1 : Sl w.R w.W zG Aq2_1 cq2_1 q2.Steps) (bq2 : Nat) (hb2 : w.R bq2) (hc2 : zL w.W bq2 0 [(iv q2.Unit), (.slice Aq2_0 (q2.Tools).length cq2_0), (.slice Aq2_1 (q2.Steps).length cq2_1)]) (q3 : Int) (bq3 : Nat) (hb3 : w.R bq3) (hc3 : zL w.W bq3 0 [(iv q3)]) (hb0 : w.R bq0) (hc0 : zL w.W bq0 0 [(.func (.func 44) #[] #[(.pointer (some ⟨bq1, 0, none⟩)), (.pointer (some ⟨bq2, 0, none⟩)), (.pointer (some ⟨bq3, 0, none⟩))])]) (r : ((List zS) × Bool)) (H : F_plot_ownTools__changed_2__scaled_1 N p0 q1 q2 q3 = some r) (hE : HF w w.W (LEn [bx bq1 #[(.bool q1)] 4, emp])) : Calls Tryz.prog 63 [(.slice Ap0_0 (p0).length cp0_0), (.func (.func 67) #[] #[(.pointer (some ⟨bq0, 0, none⟩))])].toArray w.W fun e W' => ∃ (w' : Bs) (u : (Option Addr × Nat)), w.Le w' ∧ e = .returned (.slice u.1 (r.1).length u.2) ∧ (SlF u.1 (r.1).length u.2) ∧ HF w' W' (LEn [bx bq1 #[(.bool r.2)] 4, ow u.1 u.2 64 zK r.1]) := by
 unfold F_plot_ownTools__changed_2__scaled_1 at H
 have leB := Bs.Le.refl w
 refine Tr.enter (n := 50) Tryz.func63 rfl rfl rfl hE ?_
 refine Tr.sr ?_
 refine Tr.asg rfl rfl ?_
 refine Tr.nilOwn 1 64 zK ?_
 show Tr _ _ (uf _ 4 (.slice none (([] : List zS)).length 0)) _ _
 refine Tr.nil (Tr.zA ?_)
 refine Tr.sr ?_
 refine Tr.mv rfl rfl ?_
 obtain ⟨y100, hy100, H⟩ := bnd H
 refine Tr.callG [2] [emp] (U := (Option Addr × Nat)) (fun u => (.slice u.1 (y100).length u.2)) (fun O W u => SlF u.1 (y100).length u.2) (fun u => [ow u.1 u.2 64 zK y100]) rfl (zM rfl zY) (fun _ => rfl) (wn rfl) rfl Tryz.call92 (zF rfl zO) (fun W hW hp hE => F_slices_Clone_PlotTool_ok p0 Ap0_0 cp0_0 (hp0_0.extO (hW.extS hp)) y100 hy100 hE) ?_
 intro w u le101 hu
 obtain ⟨Ay100_0, cy100_0⟩ := u
 have gy100_0 := hu
 replace hp0_0 := hp0_0.le le101
 replace hc0 := le101.ext.cells hb0 hc0
 replace hb0 := le101.r _ hb0
 replace hc2 := le101.ext.cells hb2 hc2
 replace hb2 := le101.r _ hb2
 replace hq2_0 := hq2_0.leR le101
 replace hq2_1 := hq2_1.leR le101
 replace hc3 := le101.ext.cells hb3 hc3
 replace hb3 := le101.r _ hb3
 replace leB := leB.trans le101
 have hgy100_0 : SlF Ay100_0 (y100).length cy100_0 := gy100_0 --@phi
 show Tr _ _ (uf _ 10 (.slice Ay100_0 (y100).length cy100_0)) (up _ 2 (ow Ay100_0 cy100_0 64 zK y100)) _
 refine Tr.asg rfl rfl ?_
 refine Tr.nil (Tr.zA ?_)
 refine Tr.seq ?_
 refine Tr.sr ?_
 refine Tr.mv rfl rfl ?_
 refine Tr.va rfl (fun _ _ h1 h2 => zq un_22 (h1.ev rfl)) ?_
 refine Tr.mv rfl rfl ?_
 refine Tr.nil (Tr.zA ?_)
 refine Tr.block ?_
 refine Tr.loop (σ := Bool × (List zS) × Int × (Option Addr) × Nat) (fun m w s => za q2 q3 y100 m s.1 s.2.1 s.2.2.1 = some r ∧ SlF s.2.2.2.1 (s.2.1).length s.2.2.2.2) (fun s => [(1, (.func (.func 67) #[] #[(.pointer (some ⟨bq0, 0, none⟩))])), (5, (.slice s.2.2.2.1 (s.2.1).length s.2.2.2.2)), (12, (iv (y100.length : Int))), (13, (iv s.2.2.1))]) (fun s => [(0, bx bq1 #[(.bool s.1)] 4), (2, ow s.2.2.2.1 s.2.2.2.2 64 zK s.2.1)]) N (q1, y100, 0, Ay100_0, cy100_0) ⟨H, hgy100_0⟩ (.cons rfl (.cons rfl (.cons rfl (.cons rfl .nil)))) (.cons rfl (.cons rfl .nil)) (fun _ _ h => noSome (h.1)) ?_
 intro w leL3 mL3 s hs
 obtain ⟨x207, l208, x209, Al208, cl208⟩ := s
 obtain ⟨H, hl208⟩ := hs
 replace H : za q2 q3 y100 (mL3 + 1) x207 l208 x209 = some r := H
 replace hc0 := leL3.ext.cells hb0 hc0
 replace hb0 := leL3.r _ hb0
 replace hc2 := leL3.ext.cells hb2 hc2
 replace hb2 := leL3.r _ hb2
 replace hq2_0 := hq2_0.leR leL3
 replace hq2_1 := hq2_1.leR leL3
 replace hc3 := leL3.ext.cells hb3 hc3
 replace hb3 := leL3.r _ hb3
 replace leB := leB.trans leL3
 replace hl208 : SlF Al208 (l208).length cl208 := hl208
 rw [za.eq_2] at H
 show Tr _ _ (LF [(1, (.func (.func 67) #[] #[(.pointer (some ⟨bq0, 0, none⟩))])), (5, (.slice Al208 (l208).length cl208)), (12, (iv (y100.length : Int))), (13, (iv x209))]) (LE [(0, bx bq1 #[(.bool x207)] 4), (2, ow Al208 cl208 64 zK l208)]) _
 refine Tr.sr ?_
 refine Tr.va rfl (fun _ _ h1 h2 => zz (h1.ev rfl) (h1.ev rfl)) ?_
 refine Tr.nil (Tr.zA ?_)
 refine Tr.seq ?_
 refine Tr.cond rfl H (fun H => ?_) (fun H => ?_)
 ·refine Tr.skip (Tr.zA ?_)
  refine Tr.seq ?_
  refine Tr.block ?_
  refine Tr.sr ?_
  refine Tr.mv rfl rfl ?_
  refine Tr.asg rfl rfl ?_
  refine Tr.nil (Tr.zA ?_)
  refine Tr.sr ?_
  refine Tr.mv rfl rfl ?_
  refine Tr.mv rfl rfl ?_
  refine Tr.mv rfl rfl ?_
  refine Tr.mv rfl rfl ?_
  obtain ⟨x210, hx210, H⟩ := bnd H
  obtain ⟨hx2100, hx2101, hx2102⟩ := zh hx210
  refine Tr.va rfl (fun _ _ h1 h2 => zH el_22 (h1.ev rfl) hl208 (h1.ev rfl) hx2100 hx2101) ?_
  refine Tr.va rfl (fun _ _ h1 h2 => zB fo_64_1 (h1.ev rfl)) ?_
  refine Tr.valE (U := (zK).Ad) (fun u => (zK).ok w.O w.W u x210) (fun u => (.slice u.1 (x210.Rects).length u.2)) (wn rfl) rfl (ldN (κ := 2) (t := zK) (V := fun u => (.slice u.1 (x210.Rects).length u.2)) rfl hx2102 (fun _ _ u h1 hc => zC ag_31 (h1.ev rfl) (hc.drop 1) rfl)) ?_
  intro u211 hoku211
  obtain ⟨Au211_0, cu211_0⟩ := u211
  have hoku211_0 := hoku211
  replace hoku211_0 : Sl w.O w.W zN Au211_0 cu211_0 x210.Rects := hoku211_0
  show Tr _ _ (uf _ 22 (.slice Au211_0 (x210.Rects).length cu211_0)) _ _
  obtain ⟨y212, hy212, H⟩ := bnd H
  refine Tr.callM [11] [emp] (U := (Option Addr × Nat)) (fun u => (.slice u.1 (y212).length u.2)) (fun u => SlF u.1 (y212).length u.2) (fun u => [ow u.1 u.2 36 zN y212]) rfl (zM rfl zY) (fun _ => rfl) (wn rfl) rfl Tryz.call80 (zF rfl zO) (fun W hW hp hE => F_slices_Clone_Rect_ok x210.Rects Au211_0 cu211_0 (hoku211_0.rl.ext (hW.extS hp)) y212 hy212 hE) ?_
  intro u hu
  obtain ⟨Ay212_0, cy212_0⟩ := u
  have gy212_0 := hu
  have hgy212_0 : SlF Ay212_0 (y212).length cy212_0 := gy212_0 --@phi
  show Tr _ _ (uf _ 23 (.slice Ay212_0 (y212).length cy212_0)) (up _ 11 (ow Ay212_0 cy212_0 36 zN y212)) _
  obtain ⟨x214, hx214, H⟩ := bnd H
  obtain ⟨hx2140, hx2141, hx2142⟩ := zh hx214
  refine Tr.va rfl (fun _ _ h1 h2 => zH el_22 (h1.ev rfl) hl208 (h1.ev rfl) hx2140 hx2141) ?_
  refine Tr.va rfl (fun _ _ h1 h2 => zB fo_64_1 (h1.ev rfl)) ?_
  refine Tr.mixOpen 2 rfl hx2142 ?_
  intro u215 hoku215
  obtain ⟨Au215_0, cu215_0⟩ := u215
  have hoku215_0 := hoku215
  replace hoku215_0 : Sl w.O w.W zN Au215_0 cu215_0 x214.Rects := hoku215_0
  show Tr _ _ _ (up _ 2 (ow Al208 cl208 64 (mix zK) (mixL l208 (x209).toNat (raw zK [(sv x214.Name), (.slice Au215_0 (x214.Rects).length cu215_0)] rfl rfl)))) _
  refine Tr.storeMix 2 (raw zK [(sv x214.Name), (.slice Ay212_0 (y212).length cy212_0)] rfl rfl) (cs := [(.slice Ay212_0 (y212).length cy212_0)]) (fo := 1) (wn rfl) rfl rfl rfl rfl rfl (List.getElem?_eq_some_iff.1 hx2142).1 sz_31 rfl rfl rfl ?_
  refine Tr.nil (Tr.zA ?_)
  refine Tr.sr ?_
  refine Tr.mv rfl rfl ?_
  refine Tr.mv rfl rfl ?_
  obtain ⟨x216, hx216, H⟩ := bnd H
  obtain ⟨hx2160, hx2161, hx2162⟩ := zh hx216
  refine Tr.va rfl (fun _ _ h1 h2 => zH el_22 (h1.ev rfl) hl208 (h1.ev rfl) hx2160 hx2161) ?_
  refine Tr.va rfl (fun _ _ h1 h2 => zB fo_64_1 (h1.ev rfl)) ?_
  refine Tr.va rfl (fun _ _ h1 h2 => zC ag_31 (h1.ev rfl) (zL.drop (rdm (cs := raw zK [(sv x214.Name), (.slice Ay212_0 (y212).length cy212_0)] rfl rfl) h2 (κ := 2) rfl (List.getElem?_eq_some_iff.1 hx2162).1) 1) rfl) ?_
  refine Tr.va rfl (fun _ _ h1 h2 => zq un_31 (h1.ev rfl)) ?_
  refine Tr.mv rfl rfl ?_
  refine Tr.nil (Tr.zA ?_)
  refine Tr.block ?_
  refine Tr.loop (σ := (List zT) × Nat × Bool × (List zT) × (Option Addr) × Nat) (fun m w s => m = s.1.length + 1 ∧ s.1 = List.drop s.2.1 y212 ∧ s.2.1 ≤ y212.length ∧ zm q2 q3 l208 x209 (za q2 q3 y100 mL3) x214 s.1 s.2.1 s.2.2.1 s.2.2.2.1 = some r ∧ SlF s.2.2.2.2.1 (s.2.2.2.1).length s.2.2.2.2.2) (fun s => [(1, (.func (.func 67) #[] #[(.pointer (some ⟨bq0, 0, none⟩))])), (5, (.slice Al208 (l208).length cl208)), (6, (iv x209)), (12, (iv (y100.length : Int))), (13, (iv x209)), (30, (.slice s.2.2.2.2.1 (s.2.2.2.1).length s.2.2.2.2.2)), (31, (iv (y212.length : Int))), (32, (iv (s.2.1 : Int)))]) (fun s => [(0, bx bq1 #[(.bool s.2.2.1)] 4), (2, ow Al208 cl208 64 (mix zK) (mixL l208 (x209).toNat (raw zK [(sv x214.Name), (.slice s.2.2.2.2.1 (s.2.2.2.1).length s.2.2.2.2.2)] rfl rfl))), (11, ow s.2.2.2.2.1 s.2.2.2.2.2 36 zN s.2.2.2.1)]) (y212.length + 1) (y212, 0, x207, y212, Ay212_0, cy212_0) ⟨rfl, rfl, Nat.zero_le _, H, hgy212_0⟩ (.cons rfl (.cons rfl (.cons rfl (.cons rfl (.cons rfl (.cons rfl (.cons rfl (.cons rfl .nil)))))))) (.cons rfl (.cons rfl (.cons rfl .nil))) (fun _ _ h => absurd h.1 (by simp)) ?_
  intro w leL4 m s hs
  obtain ⟨restL4, iL4, x242, l243, Al243, cl243⟩ := s
  obtain ⟨hmL4, hdL4, hiL4, H, hl243⟩ := hs
  replace hdL4 : restL4 = List.drop iL4 y212 := hdL4
  replace H : zm q2 q3 l208 x209 (za q2 q3 y100 mL3) x214 restL4 iL4 x242 l243 = some r := H
  replace hmL4 : m + 1 = restL4.length + 1 := hmL4
  replace hc0 := leL4.ext.cells hb0 hc0
  replace hb0 := leL4.r _ hb0
  replace hc2 := leL4.ext.cells hb2 hc2
  replace hb2 := leL4.r _ hb2
  replace hq2_0 := hq2_0.leR leL4
  replace hq2_1 := hq2_1.leR leL4
  replace hc3 := leL4.ext.cells hb3 hc3
  replace hb3 := leL4.r _ hb3
  replace leB := leB.trans leL4
  replace leL3 := leL3.trans leL4
  replace hl243 : SlF Al243 (l243).length cl243 := hl243
  obtain rfl : m = restL4.length := by omega
  clear hmL4
  show Tr _ _ (LF [(1, (.func (.func 67) #[] #[(.pointer (some ⟨bq0, 0, none⟩))])), (5, (.slice Al208 (l208).length cl208)), (6, (iv x209)), (12, (iv (y100.length : Int))), (13, (iv x209)), (30, (.slice Al243 (l243).length cl243)), (31, (iv (y212.length : Int))), (32, (iv (iL4 : Int)))]) (LE [(0, bx bq1 #[(.bool x242)] 4), (2, ow Al208 cl208 64 (mix zK) (mixL l208 (x209).toNat (raw zK [(sv x214.Name), (.slice Al243 (l243).length cl243)] rfl rfl))), (11, ow Al243 cl243 36 zN l243)]) _
  cases restL4 with
  | nil =>
   rw [zm.eq_1] at H
   refine Tr.sr ?_
   refine Tr.va rfl (fun _ _ h1 h2 => zz (h1.ev rfl) (h1.ev rfl)) ?_
   refine Tr.nil (Tr.zA ?_)
   refine Tr.seq ?_
   refine Tr.condF rfl (range_nil hdL4) ?_
   refine Tr.exit (Tr.zX (Tr.zX (Tr.zAC (Tr.zW (Tr.zA ?_)))))
   refine Tr.region ?_
   refine Tr.va rfl (fun _ _ h1 h2 => zx (h1.ev rfl) (h1.ev rfl)) ?_
   refine Tr.mv rfl rfl ?_
   refine Tr.nil ?_
   refine Tr.freeze 11 rfl fun w le245 hz244 => ?_
   replace hc0 := le245.ext.cells hb0 hc0
   replace hb0 := le245.r _ hb0
   replace hc2 := le245.ext.cells hb2 hc2
   replace hb2 := le245.r _ hb2
   replace hq2_0 := hq2_0.leR le245
   replace hq2_1 := hq2_1.leR le245
   replace hc3 := le245.ext.cells hb3 hc3
   replace hb3 := le245.r _ hb3
   replace leB := leB.trans le245
   replace leL3 := leL3.trans le245
   replace leL4 := leL4.trans le245
   refine Tr.mixClose 2 rfl ((Al243, cl243)) (zS.mk x214.Name l243) hz244 rfl ?_
   have hs246 : ((l208).set (x209).toNat (zS.mk x214.Name l243)).length = (l208).length := List.length_set
   have hfhs246 : SlF Al208 ((l208).set (x209).toNat (zS.mk x214.Name l243)).length cl208 := by rw [hs246]; exact hl208
   refine Tr.sel (lf := [(1, (.func (.func 67) #[] #[(.pointer (some ⟨bq0, 0, none⟩))])), (5, (.slice Al208 (((l208).set (x209).toNat (zS.mk x214.Name l243))).length cl208)), (6, (iv x209)), (12, (iv (y100.length : Int))), (13, (iv (w64 (x209 + 1)))), (30, (.slice Al243 (l243).length cl243)), (31, (iv (y212.length : Int))), (32, (iv (iL4 : Int))), (33, (.bool (decide ((iL4 : Int) < (y212.length : Int))))), (48, (iv (w64 (x209 + 1))))]) (le := [(0, bx bq1 #[(.bool x242)] 4), (2, ow Al208 cl208 64 zK ((l208).set (x209).toNat (zS.mk x214.Name l243)))]) (.cons rfl (.cons (slenV rfl (by rw [hs246])) (.cons rfl (.cons rfl (.cons rfl (.cons rfl (.cons rfl (.cons rfl (.cons rfl (.cons rfl .nil)))))))))) (.cons rfl (.cons rfl .nil)) ?_
   exact Tr.zZ leL3 (x242, ((l208).set (x209).toNat (zS.mk x214.Name l243)), (w64 (x209 + 1)), Al208, cl208) ⟨H, hfhs246⟩ (.cons rfl (.cons rfl (.cons rfl (.cons rfl .nil)))) (.cons rfl (.cons rfl .nil))
  | cons xL4 restL4 =>
   rw [zm.eq_2] at H
   refine Tr.sr ?_
   refine Tr.va rfl (fun _ _ h1 h2 => zz (h1.ev rfl) (h1.ev rfl)) ?_
   refine Tr.nil (Tr.zA ?_)
   refine Tr.seq ?_
   refine Tr.condT rfl (range_on hdL4) ?_
   refine Tr.skip (Tr.zA ?_)
   refine Tr.seq ?_
   refine Tr.block ?_
   refine Tr.sr ?_
   refine Tr.mv rfl rfl ?_
   obtain ⟨x247, hx247, H⟩ := bnd H
   obtain ⟨hx2470, hx2471, hx2472⟩ := zh hx247
   refine Tr.va rfl (fun _ _ h1 h2 => zH el_31 (h1.ev rfl) hl243 (h1.ev rfl) hx2470 hx2471) ?_
   refine Tr.va rfl (fun _ _ h1 h2 => zR (cs := [(iv x247.X0), (iv x247.Y0), (iv x247.X1), (iv x247.Y1)]) ag_36 sz_36 (h1.ev rfl) (zL.take (rdo ef_TRect (k := 11) h2 rfl hx2472) 4) rfl) ?_
   refine Tr.alloc 14 (wn rfl) rfl ze_36 fun b248 => ?_
   refine Tr.asg rfl rfl ?_
   refine Tr.store 14 (cs := [(iv x247.X0), (iv x247.Y0), (iv x247.X1), (iv x247.Y1)]) [(iv x247.X0), (iv x247.Y0), (iv x247.X1), (iv x247.Y1)] (wn rfl) rfl rfl rfl rfl sz_36 rfl rfl rfl ?_
   refine Tr.nil (Tr.zA ?_)
   refine Tr.drawC 9 [(8, fun x => x = bq1)] [] (by kernel_rfl) (by kernel_rfl) fun sz249 hlosz249 hEsz249 => ?_
   refine Dr.quietP 0 (by kernel_rfl) rfl (wn rfl) rfl (by kernel_rfl) (fun _ _ h1 => run_move (h1.ev rfl)) rfl ?_
   refine Dr.quietP 1 (by kernel_rfl) rfl (wn rfl) rfl (by kernel_rfl) (fun _ _ h1 => run_move (h1.ev rfl)) rfl ?_
   obtain ⟨x250, hx250, H⟩ := bnd H
   obtain ⟨hx2500, hx2501, hx2502⟩ := zh hx250
   refine Dr.quietP 2 (by kernel_rfl) rfl (wn rfl) rfl (by kernel_rfl) (fun _ _ h1 => zH el_22 (h1.ev rfl) hl208 (h1.ev rfl) hx2500 hx2501) rfl ?_
   refine Dr.quietP 3 (by kernel_rfl) rfl (wn rfl) rfl (by kernel_rfl) (fun _ _ h1 => zB fo_64_1 (h1.ev rfl)) rfl ?_
   refine Dr.quietZ 4 [(41, (.slice Al243 (l243).length cl243))] [8] false (by kernel_rfl) rfl rfl (by kernel_rfl) (fun W W' h2 hsW hk => HF.keepZ (le := [(2, ow Al208 cl208 64 (mix zK) (mixL l208 (x209).toNat (raw zK [(sv x214.Name), (.slice Al243 (l243).length cl243)] rfl rfl)))]) (ks := [(0, fun x => x = bq1)]) (s0 := sz249) false h2 hk (fun h => absurd h (by decide)) (.cons rfl .nil) (fun b hb => hb.elim (fun ⟨p, hp, hf, hb⟩ => by simp only [List.mem_cons, List.not_mem_nil, or_false] at hp; rcases hp with rfl; exact .inl ⟨_, List.mem_cons_self, hb⟩) (fun hb => absurd hb.1 (by decide))) (List.forall_mem_cons.2 ⟨fun b hb => hb, (fun _ h => nomatch h)⟩) rfl) ?_ rfl rfl ?_
   ·refine Tq.va rfl (fun _ _ h1 h2 => zC ag_31 (h1.ev rfl) (zL.drop (rdm (cs := raw zK [(sv x214.Name), (.slice Al243 (l243).length cl243)] rfl rfl) h2 (κ := 2) rfl (List.getElem?_eq_some_iff.1 hx2502).1) 1) rfl) ?_
    exact Tq.fin (.cons rfl .nil)
   refine Dr.quietP 5 (by kernel_rfl) rfl (wn rfl) rfl (by kernel_rfl) (fun _ _ h1 => run_move (h1.ev rfl)) rfl ?_
   refine Dr.quiet 6 [(43, (.func (.func 67) #[] #[(.pointer (some ⟨bq0, 0, none⟩))]))] (by kernel_rfl) rfl rfl (by kernel_rfl) ?_ rfl rfl ?_
   ·refine Tq.mv rfl rfl ?_
    exact Tq.fin (.cons rfl .nil)
   refine Dr.quiet 7 [(44, (.agg #[(iv x247.X0), (iv x247.Y0), (iv x247.X1), (iv x247.Y1)]))] (by kernel_rfl) rfl rfl (by kernel_rfl) ?_ rfl rfl ?_
   ·refine Tq.va rfl (fun _ _ h1 h2 => zR (cs := [(iv x247.X0), (iv x247.Y0), (iv x247.X1), (iv x247.Y1)]) ag_36 sz_36 (h1.ev rfl) (zL.take (rdb h2 (vs := [(iv x247.X0), (iv x247.Y0), (iv x247.X1), (iv x247.Y1)]) (k := 14) rfl 0) 4) rfl) ?_
    exact Tq.fin (.cons rfl .nil)
   obtain ⟨y251, hy251, H⟩ := bnd H
   refine Dr.one 8 (by kernel_rfl) ?_
   refine St.callMC 8 [0] [bx bq1 #[(.bool x242)] 4] (U := Unit) (fun u => (.agg #[(iv y251.1.X0), (iv y251.1.Y0), (iv y251.1.X1), (iv y251.1.Y1)])) (fun u => True) (fun u => [bx bq1 #[(.bool y251.2)] 4]) rfl (zM rfl zY) (fun _ => rfl) (fun b ⟨e, he, hS⟩ => by simp only [List.mem_cons, List.not_mem_nil, or_false] at he; rcases he with rfl; exact .inl ⟨_, List.mem_cons_self, rfl, hS⟩) rfl (wn rfl) rfl rfl Tryz.call67 (zF rfl zO) (fun W hW hp hE => F_plot_changed_2__scaled_1_ok x247 bq0 x242 bq1 q2 Aq2_0 cq2_0 (hq2_0.ext (hW.extS hp)) Aq2_1 cq2_1 (hq2_1.ext (hW.extS hp)) bq2 ((hW.extS hp).r _ hb2) ((hW.extS hp).cells hb2 hc2) q3 bq3 ((hW.extS hp).r _ hb3) ((hW.extS hp).cells hb3 hc3) ((hW.extS hp).r _ hb0) ((hW.extS hp).cells hb0 hc0) y251 hy251 hE) ?_
   intro u hu hsy251
   show Dr _ _ _ _ _ _ _ _ _ (uf _ 45 (.agg #[(iv y251.1.X0), (iv y251.1.Y0), (iv y251.1.X1), (iv y251.1.Y1)])) (up _ 0 (bx bq1 #[(.bool y251.2)] 4))
   refine Dr.tail (by kernel_rfl) ?_
   obtain ⟨x253, hx253, H⟩ := bnd H
   obtain ⟨hx2530, hx2531, hx2532⟩ := zh hx253
   refine Tr.va rfl (fun _ _ h1 h2 => zH el_31 (h1.ev rfl) hl243 (h1.ev rfl) hx2530 hx2531) ?_
   obtain ⟨l254, hl254, H⟩ := bnd H
   have hnl254 := sets_len hl254
   refine Tr.storeEl 11 (t := zN) (l := l243) (i := (iL4 : Int)) (fo := 0) (cs := [(iv y251.1.X0), (iv y251.1.Y0), (iv y251.1.X1), (iv y251.1.Y1)]) y251.1 (wn rfl) rfl rfl rfl rfl rfl hx2532 sz_36 rfl (fun u _ => ⟨u, trivial, rfl⟩) rfl hl254 ?_
   have hfl254 : SlF Al243 (l254).length cl243 := by rw [hnl254]; exact hl243
   refine Tr.sel (lf := [(1, (.func (.func 67) #[] #[(.pointer (some ⟨bq0, 0, none⟩))])), (5, (.slice Al208 (l208).length cl208)), (6, (iv x209)), (7, (iv (iL4 : Int))), (8, (.pointer (some ⟨b248, 0, none⟩))), (12, (iv (y100.length : Int))), (13, (iv x209)), (30, (.slice Al243 (l254).length cl243)), (31, (iv (y212.length : Int))), (32, (iv (iL4 : Int))), (33, (.bool (decide ((iL4 : Int) < (y212.length : Int))))), (34, (iv (iL4 : Int))), (36, (.agg #[(iv x247.X0), (iv x247.Y0), (iv x247.X1), (iv x247.Y1)])), (37, (.slice Al208 (l208).length cl208)), (38, (iv x209)), (39, (.pointer (some ⟨adB Al208, adO Al208 + (x209).toNat * 2, none⟩))), (40, (.pointer (some ⟨adB Al208, adO Al208 + (x209).toNat * 2 + 1, none⟩))), (41, (.slice Al243 (l254).length cl243)), (42, (iv (iL4 : Int))), (43, (.func (.func 67) #[] #[(.pointer (some ⟨bq0, 0, none⟩))])), (44, (.agg #[(iv x247.X0), (iv x247.Y0), (iv x247.X1), (iv x247.Y1)])), (45, (.agg #[(iv y251.1.X0), (iv y251.1.Y0), (iv y251.1.X1), (iv y251.1.Y1)]))]) (le := [(0, bx bq1 #[(.bool y251.2)] 4), (2, ow Al208 cl208 64 (mix zK) (mixL l208 (x209).toNat (raw zK [(sv x214.Name), (.slice Al243 (l254).length cl243)] rfl rfl))), (11, ow Al243 cl243 36 zN l254), (14, bx b248 #[(iv x247.X0), (iv x247.Y0), (iv x247.X1), (iv x247.Y1)] 36)]) (.cons rfl (.cons rfl (.cons rfl (.cons rfl (.cons rfl (.cons rfl (.cons rfl (.cons (slenV rfl (by rw [hnl254])) (.cons rfl (.cons rfl (.cons rfl (.cons rfl (.cons rfl (.cons rfl (.cons rfl (.cons rfl (.cons rfl (.cons (slenV rfl (by rw [hnl254])) (.cons rfl (.cons rfl (.cons rfl (.cons rfl .nil)))))))))))))))))))))) (.cons rfl (.cons (emix rfl (by rw [hnl254])) (.cons rfl (.cons rfl .nil)))) ?_
   refine Tr.nil (Tr.zW (Tr.zA ?_))
   refine Tr.region ?_
   refine Tr.va rfl (fun _ _ h1 h2 => zx (h1.ev rfl) (h1.ev rfl)) ?_
   refine Tr.mv rfl rfl ?_
   refine Tr.nil ?_
   exact Tr.zZ leL4 (restL4, (iL4 + 1), y251.2, l254, Al243, cl243) ⟨rfl, range_tl hdL4, zo hdL4, H, hfl254⟩ (.cons rfl (.cons rfl (.cons rfl (.cons rfl (.cons rfl (.cons rfl (.cons rfl (.cons (congrArg (fun z => some (Value.int .i64 z)) (range_up hdL4 hgy212_0)) .nil)))))))) (.cons rfl (.cons rfl (.cons rfl .nil)))
 ·refine Tr.exit (Tr.zX (Tr.zX (Tr.zAC (Tr.zA ?_))))
  refine Tr.sr ?_
  refine Tr.mv rfl rfl ?_
  refine Tr.asg rfl rfl ?_
  refine Tr.nil (Tr.zA ?_)
  refine Tr.ret ?_
  obtain rfl := Option.some.inj H
  exact Tr.out (m := [(.slice Al208 (l208).length cl208)]) [] (zP rfl zQ) (fun W hW => ⟨w, (Al208, cl208), leB, rfl, hl208, hW.pick (ks := [0, 2]) (by decide) (zM rfl (zM rfl zY))⟩)

theorem F_plot_changed_1__scaled_1_ok {w : Bs} (p0 : zI) (bq0 : Nat) (q1 : Bool) (bq1 : Nat) (q2 : zt) (Aq2_0 : Option Addr) (cq2_0 : Nat) (hq2_0 : Sl w.R w.W zK Aq2_0 cq2_0 q2.Tools) (Aq2_1 : Option Addr) (cq2_1 : Nat) (hq2_1 : Sl w.R w.W zG Aq2_1 cq2_1 q2.Steps) (bq2 : Nat) (hb2 : w.R bq2) (hc2 : zL w.W bq2 0 [(iv q2.Unit), (.slice Aq2_0 (q2.Tools).length cq2_0), (.slice Aq2_1 (q2.Steps).length cq2_1)]) (q3 : Int) (bq3 : Nat) (hb3 : w.R bq3) (hc3 : zL w.W bq3 0 [(iv q3)]) (hb0 : w.R bq0) (hc0 : zL w.W bq0 0 [(.func (.func 44) #[] #[(.pointer (some ⟨bq1, 0, none⟩)), (.pointer (some ⟨bq2, 0, none⟩)), (.pointer (some ⟨bq3, 0, none⟩))])]) (r : (zI × Bool)) (H : F_plot_changed_1__scaled_1 p0 q1 q2 q3 = some r) (hE : HF w w.W (LEn [bx bq1 #[(.bool q1)] 4])) : Calls Tryz.prog 66 [(.agg #[(iv p0.X), (iv p0.Y)]), (.pointer (some ⟨bq0, 0, none⟩))].toArray w.W fun e W' => ∃ u : Unit, e = .returned (.agg #[(iv r.1.X), (iv r.1.Y)]) ∧ (True) ∧ HF w W' (LEn [bx bq1 #[(.bool r.2)] 4]) := by
 unfold F_plot_changed_1__scaled_1 at H
 have leB := Bs.Le.refl w
 refine Tr.enter (n := 13) Tryz.func66 rfl rfl rfl hE ?_
 refine Tr.sr ?_
 refine Tr.box 1 (cs := [(iv p0.X), (iv p0.Y)]) (wn rfl) rfl rfl rfl fun b100 => ?_
 refine Tr.alloc 2 (wn rfl) rfl ze_43 fun b101 => ?_
 refine Tr.nil (Tr.zA ?_)
 refine Tr.seq ?_
 refine Tr.drawC 7 [(3, fun x => x = bq1)] [] (by kernel_rfl) (by kernel_rfl) fun sz102 hlosz102 hEsz102 => ?_
 refine Dr.quiet 0 [(4, (.func (.func 44) #[] #[(.pointer (some ⟨bq1, 0, none⟩)), (.pointer (some ⟨bq2, 0, none⟩)), (.pointer (some ⟨bq3, 0, none⟩))]))] (by kernel_rfl) rfl rfl (by kernel_rfl) ?_ rfl rfl ?_
 ·refine Tq.va rfl (fun _ _ h1 h2 => zC ag_88 (h1.ev rfl) (rdR hb0 hc0 h2) rfl) ?_
  exact Tq.fin (.cons rfl .nil)
 refine Dr.quietP 1 (by kernel_rfl) rfl (wn rfl) rfl (by kernel_rfl) (fun _ _ h1 => zB fo_43_0 (h1.ev rfl)) rfl ?_
 refine Dr.quiet 2 [(6, (iv p0.X))] (by kernel_rfl) rfl rfl (by kernel_rfl) ?_ rfl rfl ?_
 ·refine Tq.va rfl (fun _ _ h1 h2 => zC ag_3 (h1.ev rfl) (rdb h2 (vs := [(iv p0.X), (iv p0.Y)]) (k := 1) rfl 0) rfl) ?_
  exact Tq.fin (.cons rfl .nil)
 refine Dr.quietZ 4 [(8, (.func (.func 44) #[] #[(.pointer (some ⟨bq1, 0, none⟩)), (.pointer (some ⟨bq2, 0, none⟩)), (.pointer (some ⟨bq3, 0, none⟩))]))] [3] false (by kernel_rfl) rfl rfl (by kernel_rfl) (fun W W' h2 hsW hk => HF.keepZ (le := []) (ks := [(0, fun x => x = bq1)]) (s0 := sz102) false h2 hk (fun h => absurd h (by decide)) .nil (fun b hb => hb.elim (fun ⟨p, hp, hf, hb⟩ => by simp only [List.mem_cons, List.not_mem_nil, or_false] at hp; rcases hp with rfl; exact .inl ⟨_, List.mem_cons_self, hb⟩) (fun hb => absurd hb.1 (by decide))) (List.forall_mem_cons.2 ⟨fun b hb => hb, (fun _ h => nomatch h)⟩) rfl) ?_ rfl rfl ?_
 ·refine Tq.va rfl (fun _ _ h1 h2 => zC ag_88 (h1.ev rfl) (rdR hb0 hc0 h2) rfl) ?_
  exact Tq.fin (.cons rfl .nil)
 refine Dr.quietP 5 (by kernel_rfl) rfl (wn rfl) rfl (by kernel_rfl) (fun _ _ h1 => zB fo_43_1 (h1.ev rfl)) rfl ?_
 refine Dr.quietZ 6 [(10, (iv p0.Y))] [3] false (by kernel_rfl) rfl rfl (by kernel_rfl) (fun W W' h2 hsW hk => HF.keepZ (le := [(1, bx b100 #[(iv p0.X), (iv p0.Y)] 43)]) (ks := [(0, fun x => x = bq1)]) (s0 := sz102) false h2 hk (fun h => absurd h (by decide)) (.cons rfl .nil) (fun b hb => hb.elim (fun ⟨p, hp, hf, hb⟩ => by simp only [List.mem_cons, List.not_mem_nil, or_false] at hp; rcases hp with rfl; exact .inl ⟨_, List.mem_cons_self, hb⟩) (fun hb => absurd hb.1 (by decide))) (List.forall_mem_cons.2 ⟨fun b hb => hb, (fun _ h => nomatch h)⟩) rfl) ?_ rfl rfl ?_
 ·refine Tq.va rfl (fun _ _ h1 h2 => zC ag_3 (h1.ev rfl) (rdb h2 (vs := [(iv p0.X), (iv p0.Y)]) (k := 1) rfl 1) rfl) ?_
  exact Tq.fin (.cons rfl .nil)
 obtain ⟨y103, hy103, H⟩ := bnd H
 refine Dr.one 3 (by kernel_rfl) ?_
 refine St.callMC 3 [0] [bx bq1 #[(.bool q1)] 4] (U := Unit) (fun u => (iv y103.1)) (fun u => True) (fun u => [bx bq1 #[(.bool y103.2)] 4]) rfl (zM rfl zY) (fun _ => rfl) (fun b ⟨e, he, hS⟩ => by simp only [List.mem_cons, List.not_mem_nil, or_false] at he; rcases he with rfl; exact .inl ⟨_, List.mem_cons_self, rfl, hS⟩) rfl (wn rfl) rfl rfl Tryz.call44 (zF rfl zO) (fun W hW hp hE => F_plot_scaled_1_ok p0.X q1 bq1 q2 Aq2_0 cq2_0 (hq2_0.ext (hW.extS hp)) Aq2_1 cq2_1 (hq2_1.ext (hW.extS hp)) bq2 ((hW.extS hp).r _ hb2) ((hW.extS hp).cells hb2 hc2) q3 bq3 ((hW.extS hp).r _ hb3) ((hW.extS hp).cells hb3 hc3) y103 hy103 hE) ?_
 intro u hu hsy103
 show Dr _ _ _ _ _ _ _ _ _ (uf _ 7 (iv y103.1)) (up _ 0 (bx bq1 #[(.bool y103.2)] 4))
 refine Dr.tail (by kernel_rfl) ?_
 obtain ⟨y105, hy105, H⟩ := bnd H
 refine Tr.callMC [0] [bx bq1 #[(.bool y103.2)] 4] (U := Unit) (fun u => (iv y105.1)) (fun u => True) (fun u => [bx bq1 #[(.bool y105.2)] 4]) rfl (zM rfl zY) (fun _ => rfl) (wn rfl) rfl rfl Tryz.call44 (zF rfl zO) (fun W hW hp hE => F_plot_scaled_1_ok p0.Y y103.2 bq1 q2 Aq2_0 cq2_0 (hq2_0.ext (hW.extS hp)) Aq2_1 cq2_1 (hq2_1.ext (hW.extS hp)) bq2 ((hW.extS hp).r _ hb2) ((hW.extS hp).cells hb2 hc2) q3 bq3 ((hW.extS hp).r _ hb3) ((hW.extS hp).cells hb3 hc3) y105 hy105 hE) ?_
 intro u hu
 show Tr _ _ (uf _ 11 (iv y105.1)) (up _ 0 (bx bq1 #[(.bool y105.2)] 4)) _
 refine Tr.build (vs := [(0, (iv y103.1)), (1, (iv y105.1))]) (cs := [(iv y103.1), (iv y105.1)]) (wn rfl) rfl (zi rfl (zi rfl evs_nil)) (by kernel_rfl) ?_
 refine Tr.store 2 (cs := [(iv y103.1), (iv y105.1)]) [(iv y103.1), (iv y105.1)] (wn rfl) rfl rfl rfl rfl sz_43 rfl rfl rfl ?_
 refine Tr.nil (Tr.zA ?_)
 refine Tr.ret ?_
 obtain rfl := Option.some.inj H
 exact Tr.out (m := [(.agg #[(iv y103.1), (iv y105.1)])]) [2] (res_cell rfl rfl ag_43 sz_43 zQ) (fun W hW => ⟨(), rfl, trivial, HF.lowE leB (hW.pick (ks := [0]) (by decide) (zM rfl zY)) ⟨bx_any _ _ _, trivial⟩⟩)

theorem F_plot_changed_3__changed_1__scaled_1_ok {w : Bs} (p0 : zD) (Ap0_0 : Option Addr) (cp0_0 : Nat) (Ap0_1 : Option Addr) (cp0_1 : Nat) (hp0_1 : Sl w.R w.W zG Ap0_1 cp0_1 p0.Steps) (Ae0 : Option Addr) (ce0 : Nat) (le0 : List zD) (ie0 : Nat) (hi0 : ie0 < le0.length) (bq0 : Nat) (bq1 : Nat) (q2 : Bool) (bq2 : Nat) (q3 : zt) (Aq3_0 : Option Addr) (cq3_0 : Nat) (hq3_0 : Sl w.R w.W zK Aq3_0 cq3_0 q3.Tools) (Aq3_1 : Option Addr) (cq3_1 : Nat) (hq3_1 : Sl w.R w.W zG Aq3_1 cq3_1 q3.Steps) (bq3 : Nat) (hb3 : w.R bq3) (hc3 : zL w.W bq3 0 [(iv q3.Unit), (.slice Aq3_0 (q3.Tools).length cq3_0), (.slice Aq3_1 (q3.Steps).length cq3_1)]) (q4 : Int) (bq4 : Nat) (hb4 : w.R bq4) (hc4 : zL w.W bq4 0 [(iv q4)]) (hb0 : w.R bq0) (hc0 : zL w.W bq0 0 [(.func (.func 66) #[] #[(.pointer (some ⟨bq1, 0, none⟩))])]) (hb1 : w.R bq1) (hc1 : zL w.W bq1 0 [(.func (.func 44) #[] #[(.pointer (some ⟨bq2, 0, none⟩)), (.pointer (some ⟨bq3, 0, none⟩)), (.pointer (some ⟨bq4, 0, none⟩))])]) (r : (Int × Int × (List zI) × Bool)) (H : F_plot_changed_3__changed_1__scaled_1 p0 q2 q3 q4 = some r) (hE : HF w w.W (LEn [ow Ae0 ce0 46 (mix zG) (mixL le0 ie0 (raw zG [(iv p0.Kind), (sv p0.Name), (iv p0.At.X), (iv p0.At.Y), (.slice Ap0_0 (p0.Points).length cp0_0), (iv p0.NX), (iv p0.NY), (.slice Ap0_1 (p0.Steps).length cp0_1)] rfl rfl)), ow Ap0_0 cp0_0 43 zy p0.Points, bx bq2 #[(.bool q2)] 4])) : Calls Tryz.prog 68 [(.pointer (some ⟨adB Ae0, adO Ae0 + ie0 * 8, none⟩)), (.pointer (some ⟨bq0, 0, none⟩))].toArray w.W fun e W' => ∃ (w' : Bs) (u : Unit), w.Le w' ∧ e = .returned (.tuple #[]) ∧ ((r.2.2.1).length = (p0.Points).length) ∧ HF w' W' (LEn [ow Ae0 ce0 46 (mix zG) (mixL le0 ie0 (raw zG [(iv p0.Kind), (sv p0.Name), (iv r.1), (iv r.2.1), (.slice Ap0_0 (r.2.2.1).length cp0_0), (iv p0.NX), (iv p0.NY), (.slice Ap0_1 (p0.Steps).length cp0_1)] rfl rfl)), ow Ap0_0 cp0_0 43 zy r.2.2.1, bx bq2 #[(.bool r.2.2.2)] 4]) := by
 unfold F_plot_changed_3__changed_1__scaled_1 at H
 have hfhp0_0 := (hE.sl (k := 1) rfl).form
 have leB := Bs.Le.refl w
 refine Tr.enter (n := 37) Tryz.func68 rfl rfl rfl hE ?_
 refine Tr.seq ?_
 refine Tr.drawC 7 [(6, fun x => x = bq2)] [] (by kernel_rfl) (by kernel_rfl) fun sz100 hlosz100 hEsz100 => ?_
 refine Dr.quietP 0 (by kernel_rfl) rfl (wn rfl) rfl (by kernel_rfl) (fun _ _ h1 => run_move (h1.ev rfl)) rfl ?_
 refine Dr.quiet 1 [(5, (.func (.func 66) #[] #[(.pointer (some ⟨bq1, 0, none⟩))]))] (by kernel_rfl) rfl rfl (by kernel_rfl) ?_ rfl rfl ?_
 ·refine Tq.va rfl (fun _ _ h1 h2 => zC ag_123 (h1.ev rfl) (rdR hb0 hc0 h2) rfl) ?_
  exact Tq.fin (.cons rfl .nil)
 refine Dr.quietP 2 (by kernel_rfl) rfl (wn rfl) rfl (by kernel_rfl) (fun _ _ h1 => run_move (h1.ev rfl)) rfl ?_
 refine Dr.quietP 3 (by kernel_rfl) rfl (wn rfl) rfl (by kernel_rfl) (fun _ _ h1 => zb (h1.ev rfl)) rfl ?_
 refine Dr.quietP 4 (by kernel_rfl) rfl (wn rfl) rfl (by kernel_rfl) (fun _ _ h1 => zB fo_46_2 (h1.ev rfl)) rfl ?_
 refine Dr.quiet 5 [(9, (.agg #[(iv p0.At.X), (iv p0.At.Y)]))] (by kernel_rfl) rfl rfl (by kernel_rfl) ?_ rfl rfl ?_
 ·refine Tq.va rfl (fun _ _ h1 h2 => zR (cs := [(iv p0.At.X), (iv p0.At.Y)]) ag_43 sz_43 (h1.ev rfl) (zL.take (zL.drop (rdm (cs := raw zG [(iv p0.Kind), (sv p0.Name), (iv p0.At.X), (iv p0.At.Y), (.slice Ap0_0 (p0.Points).length cp0_0), (iv p0.NX), (iv p0.NY), (.slice Ap0_1 (p0.Steps).length cp0_1)] rfl rfl) h2 (κ := 0) rfl hi0) 2) 2) rfl) ?_
  exact Tq.fin (.cons rfl .nil)
 obtain ⟨y101, hy101, H⟩ := bnd H
 refine Dr.one 6 (by kernel_rfl) ?_
 refine St.callMC 6 [2] [bx bq2 #[(.bool q2)] 4] (U := Unit) (fun u => (.agg #[(iv y101.1.X), (iv y101.1.Y)])) (fun u => True) (fun u => [bx bq2 #[(.bool y101.2)] 4]) rfl (zM rfl zY) (fun _ => rfl) (fun b ⟨e, he, hS⟩ => by simp only [List.mem_cons, List.not_mem_nil, or_false] at he; rcases he with rfl; exact .inl ⟨_, List.mem_cons_self, rfl, hS⟩) rfl (wn rfl) rfl rfl Tryz.call66 (zF rfl zO) (fun W hW hp hE => F_plot_changed_1__scaled_1_ok p0.At bq1 q2 bq2 q3 Aq3_0 cq3_0 (hq3_0.ext (hW.extS hp)) Aq3_1 cq3_1 (hq3_1.ext (hW.extS hp)) bq3 ((hW.extS hp).r _ hb3) ((hW.extS hp).cells hb3 hc3) q4 bq4 ((hW.extS hp).r _ hb4) ((hW.extS hp).cells hb4 hc4) ((hW.extS hp).r _ hb1) ((hW.extS hp).cells hb1 hc1) y101 hy101 hE) ?_
 intro u hu hsy101
 show Dr _ _ _ _ _ _ _ _ _ (uf _ 10 (.agg #[(iv y101.1.X), (iv y101.1.Y)])) (up _ 2 (bx bq2 #[(.bool y101.2)] 4))
 refine Dr.tail (by kernel_rfl) ?_
 refine Tr.va rfl (fun _ _ h1 h2 => zb (h1.ev rfl)) ?_
 refine Tr.va rfl (fun _ _ h1 h2 => zB fo_46_2 (h1.ev rfl)) ?_
 refine Tr.storeMix 0 (raw zG [(iv p0.Kind), (sv p0.Name), (iv y101.1.X), (iv y101.1.Y), (.slice Ap0_0 (p0.Points).length cp0_0), (iv p0.NX), (iv p0.NY), (.slice Ap0_1 (p0.Steps).length cp0_1)] rfl rfl) (cs := [(iv y101.1.X), (iv y101.1.Y)]) (fo := 2) (wn rfl) rfl rfl rfl rfl rfl hi0 sz_43 rfl rfl rfl ?_
 refine Tr.nil (Tr.zA ?_)
 refine Tr.sr ?_
 refine Tr.mv rfl rfl ?_
 refine Tr.va rfl (fun _ _ h1 h2 => zb (h1.ev rfl)) ?_
 refine Tr.va rfl (fun _ _ h1 h2 => zB fo_46_3 (h1.ev rfl)) ?_
 refine Tr.va rfl (fun _ _ h1 h2 => zC ag_44 (h1.ev rfl) (zL.drop (rdm (cs := raw zG [(iv p0.Kind), (sv p0.Name), (iv y101.1.X), (iv y101.1.Y), (.slice Ap0_0 (p0.Points).length cp0_0), (iv p0.NX), (iv p0.NY), (.slice Ap0_1 (p0.Steps).length cp0_1)] rfl rfl) h2 (κ := 0) rfl hi0) 4) rfl) ?_
 refine Tr.va rfl (fun _ _ h1 h2 => zq un_44 (h1.ev rfl)) ?_
 refine Tr.mv rfl rfl ?_
 refine Tr.nil (Tr.zA ?_)
 refine Tr.block ?_
 refine Tr.loop (σ := (List zI) × Nat × Bool × (List zI)) (fun m w s => m = s.1.length + 1 ∧ s.1 = List.drop s.2.1 p0.Points ∧ s.2.1 ≤ p0.Points.length ∧ zl q3 q4 y101 s.1 s.2.1 s.2.2.1 s.2.2.2 = some r ∧ (s.2.2.2).length = (p0.Points).length) (fun s => [(0, (.pointer (some ⟨adB Ae0, adO Ae0 + ie0 * 8, none⟩))), (1, (.pointer (some ⟨bq0, 0, none⟩))), (17, (iv (p0.Points.length : Int))), (18, (iv (s.2.1 : Int)))]) (fun s => [(0, ow Ae0 ce0 46 (mix zG) (mixL le0 ie0 (raw zG [(iv p0.Kind), (sv p0.Name), (iv y101.1.X), (iv y101.1.Y), (.slice Ap0_0 (s.2.2.2).length cp0_0), (iv p0.NX), (iv p0.NY), (.slice Ap0_1 (p0.Steps).length cp0_1)] rfl rfl))), (1, ow Ap0_0 cp0_0 43 zy s.2.2.2), (2, bx bq2 #[(.bool s.2.2.1)] 4)]) (p0.Points.length + 1) (p0.Points, 0, y101.2, p0.Points) ⟨rfl, rfl, Nat.zero_le _, H, rfl⟩ (.cons rfl (.cons rfl (.cons rfl (.cons rfl .nil)))) (.cons rfl (.cons rfl (.cons rfl .nil))) (fun _ _ h => absurd h.1 (by simp)) ?_
 intro w leL1 m s hs
 obtain ⟨restL1, iL1, x124, l125⟩ := s
 obtain ⟨hmL1, hdL1, hiL1, H, hl125⟩ := hs
 replace hdL1 : restL1 = List.drop iL1 p0.Points := hdL1
 replace H : zl q3 q4 y101 restL1 iL1 x124 l125 = some r := H
 replace hmL1 : m + 1 = restL1.length + 1 := hmL1
 replace hc0 := leL1.ext.cells hb0 hc0
 replace hb0 := leL1.r _ hb0
 replace hc1 := leL1.ext.cells hb1 hc1
 replace hb1 := leL1.r _ hb1
 replace hc3 := leL1.ext.cells hb3 hc3
 replace hb3 := leL1.r _ hb3
 replace hq3_0 := hq3_0.leR leL1
 replace hq3_1 := hq3_1.leR leL1
 replace hc4 := leL1.ext.cells hb4 hc4
 replace hb4 := leL1.r _ hb4
 replace hp0_1 := hp0_1.leR leL1
 replace leB := leB.trans leL1
 replace hl125 : (l125).length = (p0.Points).length := hl125
 have hfl125 : SlF Ap0_0 (l125).length cp0_0 := (by rw [hl125]; exact hfhp0_0)
 obtain rfl : m = restL1.length := by omega
 clear hmL1
 show Tr _ _ (LF [(0, (.pointer (some ⟨adB Ae0, adO Ae0 + ie0 * 8, none⟩))), (1, (.pointer (some ⟨bq0, 0, none⟩))), (17, (iv (p0.Points.length : Int))), (18, (iv (iL1 : Int)))]) (LE [(0, ow Ae0 ce0 46 (mix zG) (mixL le0 ie0 (raw zG [(iv p0.Kind), (sv p0.Name), (iv y101.1.X), (iv y101.1.Y), (.slice Ap0_0 (l125).length cp0_0), (iv p0.NX), (iv p0.NY), (.slice Ap0_1 (p0.Steps).length cp0_1)] rfl rfl))), (1, ow Ap0_0 cp0_0 43 zy l125), (2, bx bq2 #[(.bool x124)] 4)]) _
 cases restL1 with
 | nil =>
  rw [zl.eq_1] at H
  refine Tr.sr ?_
  refine Tr.va rfl (fun _ _ h1 h2 => zz (h1.ev rfl) (h1.ev rfl)) ?_
  refine Tr.nil (Tr.zA ?_)
  refine Tr.seq ?_
  refine Tr.condF rfl (range_nil hdL1) ?_
  refine Tr.exit (Tr.zX (Tr.zX (Tr.zAC (Tr.offEnd ?_))))
  obtain rfl := Option.some.inj H
  exact Tr.out (m := []) [] zQ (fun W hW => ⟨w, (), leB, rfl, hl125, hW.pick (ks := [0, 1, 2]) (by decide) (zM rfl (zM rfl (zM rfl zY)))⟩)
 | cons xL1 restL1 =>
  rw [zl.eq_2] at H
  refine Tr.sr ?_
  refine Tr.va rfl (fun _ _ h1 h2 => zz (h1.ev rfl) (h1.ev rfl)) ?_
  refine Tr.nil (Tr.zA ?_)
  refine Tr.seq ?_
  refine Tr.condT rfl (range_on hdL1) ?_
  refine Tr.skip (Tr.zA ?_)
  refine Tr.seq ?_
  refine Tr.block ?_
  refine Tr.sr ?_
  refine Tr.mv rfl rfl ?_
  refine Tr.asg rfl rfl ?_
  refine Tr.nil (Tr.zA ?_)
  refine Tr.drawC 14 [(13, fun x => x = bq2)] [] (by kernel_rfl) (by kernel_rfl) fun sz126 hlosz126 hEsz126 => ?_
  refine Dr.quietP 0 (by kernel_rfl) rfl (wn rfl) rfl (by kernel_rfl) (fun _ _ h1 => run_move (h1.ev rfl)) rfl ?_
  refine Dr.quietP 1 (by kernel_rfl) rfl (wn rfl) rfl (by kernel_rfl) (fun _ _ h1 => zb (h1.ev rfl)) rfl ?_
  refine Dr.quietP 2 (by kernel_rfl) rfl (wn rfl) rfl (by kernel_rfl) (fun _ _ h1 => zB fo_46_3 (h1.ev rfl)) rfl ?_
  refine Dr.quietZ 3 [(24, (.slice Ap0_0 (l125).length cp0_0))] [13] false (by kernel_rfl) rfl rfl (by kernel_rfl) (fun W W' h2 hsW hk => HF.keepZ (le := [(0, ow Ae0 ce0 46 (mix zG) (mixL le0 ie0 (raw zG [(iv p0.Kind), (sv p0.Name), (iv y101.1.X), (iv y101.1.Y), (.slice Ap0_0 (l125).length cp0_0), (iv p0.NX), (iv p0.NY), (.slice Ap0_1 (p0.Steps).length cp0_1)] rfl rfl)))]) (ks := [(2, fun x => x = bq2)]) (s0 := sz126) false h2 hk (fun h => absurd h (by decide)) (.cons rfl .nil) (fun b hb => hb.elim (fun ⟨p, hp, hf, hb⟩ => by simp only [List.mem_cons, List.not_mem_nil, or_false] at hp; rcases hp with rfl; exact .inl ⟨_, List.mem_cons_self, hb⟩) (fun hb => absurd hb.1 (by decide))) (List.forall_mem_cons.2 ⟨fun b hb => hb, (fun _ h => nomatch h)⟩) rfl) ?_ rfl rfl ?_
  ·refine Tq.va rfl (fun _ _ h1 h2 => zC ag_44 (h1.ev rfl) (zL.drop (rdm (cs := raw zG [(iv p0.Kind), (sv p0.Name), (iv y101.1.X), (iv y101.1.Y), (.slice Ap0_0 (l125).length cp0_0), (iv p0.NX), (iv p0.NY), (.slice Ap0_1 (p0.Steps).length cp0_1)] rfl rfl) h2 (κ := 0) rfl hi0) 4) rfl) ?_
   exact Tq.fin (.cons rfl .nil)
  refine Dr.quietP 4 (by kernel_rfl) rfl (wn rfl) rfl (by kernel_rfl) (fun _ _ h1 => run_move (h1.ev rfl)) rfl ?_
  refine Dr.quiet 5 [(26, (.func (.func 66) #[] #[(.pointer (some ⟨bq1, 0, none⟩))]))] (by kernel_rfl) rfl rfl (by kernel_rfl) ?_ rfl rfl ?_
  ·refine Tq.va rfl (fun _ _ h1 h2 => zC ag_123 (h1.ev rfl) (rdR hb0 hc0 h2) rfl) ?_
   exact Tq.fin (.cons rfl .nil)
  refine Dr.quietP 6 (by kernel_rfl) rfl (wn rfl) rfl (by kernel_rfl) (fun _ _ h1 => run_move (h1.ev rfl)) rfl ?_
  refine Dr.quietP 7 (by kernel_rfl) rfl (wn rfl) rfl (by kernel_rfl) (fun _ _ h1 => zb (h1.ev rfl)) rfl ?_
  refine Dr.quietP 8 (by kernel_rfl) rfl (wn rfl) rfl (by kernel_rfl) (fun _ _ h1 => zB fo_46_3 (h1.ev rfl)) rfl ?_
  refine Dr.quietZ 9 [(30, (.slice Ap0_0 (l125).length cp0_0))] [13] false (by kernel_rfl) rfl rfl (by kernel_rfl) (fun W W' h2 hsW hk => HF.keepZ (le := [(0, ow Ae0 ce0 46 (mix zG) (mixL le0 ie0 (raw zG [(iv p0.Kind), (sv p0.Name), (iv y101.1.X), (iv y101.1.Y), (.slice Ap0_0 (l125).length cp0_0), (iv p0.NX), (iv p0.NY), (.slice Ap0_1 (p0.Steps).length cp0_1)] rfl rfl)))]) (ks := [(2, fun x => x = bq2)]) (s0 := sz126) false h2 hk (fun h => absurd h (by decide)) (.cons rfl .nil) (fun b hb => hb.elim (fun ⟨p, hp, hf, hb⟩ => by simp only [List.mem_cons, List.not_mem_nil, or_false] at hp; rcases hp with rfl; exact .inl ⟨_, List.mem_cons_self, hb⟩) (fun hb => absurd hb.1 (by decide))) (List.forall_mem_cons.2 ⟨fun b hb => hb, (fun _ h => nomatch h)⟩) rfl) ?_ rfl rfl ?_
  ·refine Tq.va rfl (fun _ _ h1 h2 => zC ag_44 (h1.ev rfl) (zL.drop (rdm (cs := raw zG [(iv p0.Kind), (sv p0.Name), (iv y101.1.X), (iv y101.1.Y), (.slice Ap0_0 (l125).length cp0_0), (iv p0.NX), (iv p0.NY), (.slice Ap0_1 (p0.Steps).length cp0_1)] rfl rfl) h2 (κ := 0) rfl hi0) 4) rfl) ?_
   exact Tq.fin (.cons rfl .nil)
  refine Dr.quietP 10 (by kernel_rfl) rfl (wn rfl) rfl (by kernel_rfl) (fun _ _ h1 => run_move (h1.ev rfl)) rfl ?_
  obtain ⟨x127, hx127, H⟩ := bnd H
  obtain ⟨hx1270, hx1271, hx1272⟩ := zh hx127
  refine Dr.quietP 11 (by kernel_rfl) rfl (wn rfl) rfl (by kernel_rfl) (fun _ _ h1 => zH el_44 (h1.ev rfl) hfl125 (h1.ev rfl) hx1270 hx1271) rfl ?_
  refine Dr.quiet 12 [(33, (.agg #[(iv x127.X), (iv x127.Y)]))] (by kernel_rfl) rfl rfl (by kernel_rfl) ?_ rfl rfl ?_
  ·refine Tq.va rfl (fun _ _ h1 h2 => zR (cs := [(iv x127.X), (iv x127.Y)]) ag_43 sz_43 (h1.ev rfl) (zL.take (rdo ef_TPoint (k := 1) h2 rfl hx1272) 2) rfl) ?_
   exact Tq.fin (.cons rfl .nil)
  obtain ⟨y128, hy128, H⟩ := bnd H
  refine Dr.one 13 (by kernel_rfl) ?_
  refine St.callMC 13 [2] [bx bq2 #[(.bool x124)] 4] (U := Unit) (fun u => (.agg #[(iv y128.1.X), (iv y128.1.Y)])) (fun u => True) (fun u => [bx bq2 #[(.bool y128.2)] 4]) rfl (zM rfl zY) (fun _ => rfl) (fun b ⟨e, he, hS⟩ => by simp only [List.mem_cons, List.not_mem_nil, or_false] at he; rcases he with rfl; exact .inl ⟨_, List.mem_cons_self, rfl, hS⟩) rfl (wn rfl) rfl rfl Tryz.call66 (zF rfl zO) (fun W hW hp hE => F_plot_changed_1__scaled_1_ok x127 bq1 x124 bq2 q3 Aq3_0 cq3_0 (hq3_0.ext (hW.extS hp)) Aq3_1 cq3_1 (hq3_1.ext (hW.extS hp)) bq3 ((hW.extS hp).r _ hb3) ((hW.extS hp).cells hb3 hc3) q4 bq4 ((hW.extS hp).r _ hb4) ((hW.extS hp).cells hb4 hc4) ((hW.extS hp).r _ hb1) ((hW.extS hp).cells hb1 hc1) y128 hy128 hE) ?_
  intro u hu hsy128
  show Dr _ _ _ _ _ _ _ _ _ (uf _ 34 (.agg #[(iv y128.1.X), (iv y128.1.Y)])) (up _ 2 (bx bq2 #[(.bool y128.2)] 4))
  refine Dr.tail (by kernel_rfl) ?_
  obtain ⟨x130, hx130, H⟩ := bnd H
  obtain ⟨hx1300, hx1301, hx1302⟩ := zh hx130
  refine Tr.va rfl (fun _ _ h1 h2 => zH el_44 (h1.ev rfl) hfl125 (h1.ev rfl) hx1300 hx1301) ?_
  obtain ⟨l131, hl131, H⟩ := bnd H
  have hnl131 := sets_len hl131
  refine Tr.storeEl 1 (t := zy) (l := l125) (i := (iL1 : Int)) (fo := 0) (cs := [(iv y128.1.X), (iv y128.1.Y)]) y128.1 (wn rfl) rfl rfl rfl rfl rfl hx1302 sz_43 rfl (fun u _ => ⟨u, trivial, rfl⟩) rfl hl131 ?_
  have hfl131 : SlF Ap0_0 (l131).length cp0_0 := by rw [hnl131]; exact hfl125
  have hsl131 := hnl131.trans hl125
  refine Tr.sel (lf := [(0, (.pointer (some ⟨adB Ae0, adO Ae0 + ie0 * 8, none⟩))), (1, (.pointer (some ⟨bq0, 0, none⟩))), (3, (iv (iL1 : Int))), (17, (iv (p0.Points.length : Int))), (18, (iv (iL1 : Int))), (19, (.bool (decide ((iL1 : Int) < (p0.Points.length : Int))))), (20, (iv (iL1 : Int))), (21, (.pointer (some ⟨adB Ae0, adO Ae0 + ie0 * 8, none⟩))), (22, (.pointer (some ⟨adB Ae0, adO Ae0 + ie0 * 8, none⟩))), (23, (.pointer (some ⟨adB Ae0, adO Ae0 + ie0 * 8 + 4, none⟩))), (24, (.slice Ap0_0 (l131).length cp0_0)), (25, (iv (iL1 : Int))), (26, (.func (.func 66) #[] #[(.pointer (some ⟨bq1, 0, none⟩))])), (27, (.pointer (some ⟨adB Ae0, adO Ae0 + ie0 * 8, none⟩))), (28, (.pointer (some ⟨adB Ae0, adO Ae0 + ie0 * 8, none⟩))), (29, (.pointer (some ⟨adB Ae0, adO Ae0 + ie0 * 8 + 4, none⟩))), (30, (.slice Ap0_0 (l131).length cp0_0)), (31, (iv (iL1 : Int))), (33, (.agg #[(iv x127.X), (iv x127.Y)])), (34, (.agg #[(iv y128.1.X), (iv y128.1.Y)]))]) (le := [(0, ow Ae0 ce0 46 (mix zG) (mixL le0 ie0 (raw zG [(iv p0.Kind), (sv p0.Name), (iv y101.1.X), (iv y101.1.Y), (.slice Ap0_0 (l131).length cp0_0), (iv p0.NX), (iv p0.NY), (.slice Ap0_1 (p0.Steps).length cp0_1)] rfl rfl))), (1, ow Ap0_0 cp0_0 43 zy l131), (2, bx bq2 #[(.bool y128.2)] 4)]) (.cons rfl (.cons rfl (.cons rfl (.cons rfl (.cons rfl (.cons rfl (.cons rfl (.cons rfl (.cons rfl (.cons rfl (.cons (slenV rfl (by rw [hnl131])) (.cons rfl (.cons rfl (.cons rfl (.cons rfl (.cons rfl (.cons (slenV rfl (by rw [hnl131])) (.cons rfl (.cons rfl (.cons rfl .nil)))))))))))))))))))) (.cons (emix rfl (by rw [hnl131])) (.cons rfl (.cons rfl .nil))) ?_
  refine Tr.nil (Tr.zW (Tr.zA ?_))
  refine Tr.region ?_
  refine Tr.va rfl (fun _ _ h1 h2 => zx (h1.ev rfl) (h1.ev rfl)) ?_
  refine Tr.mv rfl rfl ?_
  refine Tr.nil ?_
  exact Tr.zZ leL1 (restL1, (iL1 + 1), y128.2, l131) ⟨rfl, range_tl hdL1, zo hdL1, H, hsl131⟩ (.cons rfl (.cons rfl (.cons rfl (.cons (congrArg (fun z => some (Value.int .i64 z)) (range_up hdL1 hfhp0_0)) .nil)))) (.cons rfl (.cons rfl (.cons rfl .nil)))

theorem F_plot_own__changed_3__changed_1__scaled_1_b_ok (N : Nat) (rec : (List zD) → Bool → zt → Int → Option ((List zD) × Bool)) (hrec : ∀ {w : Bs} (p0 : (List zD)) (Ap0_0 : Option Addr) (cp0_0 : Nat) (hp0_0 : Sl w.O w.W zG Ap0_0 cp0_0 p0) (bq0 : Nat) (bq1 : Nat) (q2 : Bool) (bq2 : Nat) (q3 : zt) (Aq3_0 : Option Addr) (cq3_0 : Nat) (hq3_0 : Sl w.R w.W zK Aq3_0 cq3_0 q3.Tools) (Aq3_1 : Option Addr) (cq3_1 : Nat) (hq3_1 : Sl w.R w.W zG Aq3_1 cq3_1 q3.Steps) (bq3 : Nat) (hb3 : w.R bq3) (hc3 : zL w.W bq3 0 [(iv q3.Unit), (.slice Aq3_0 (q3.Tools).length cq3_0), (.slice Aq3_1 (q3.Steps).length cq3_1)]) (q4 : Int) (bq4 : Nat) (hb4 : w.R bq4) (hc4 : zL w.W bq4 0 [(iv q4)]) (hb0 : w.R bq0) (hc0 : zL w.W bq0 0 [(.func (.func 66) #[] #[(.pointer (some ⟨bq1, 0, none⟩))])]) (hb1 : w.R bq1) (hc1 : zL w.W bq1 0 [(.func (.func 44) #[] #[(.pointer (some ⟨bq2, 0, none⟩)), (.pointer (some ⟨bq3, 0, none⟩)), (.pointer (some ⟨bq4, 0, none⟩))])]) (r : ((List zD) × Bool)) (H : rec p0 q2 q3 q4 = some r) (hE : HF w w.W (LEn [bx bq2 #[(.bool q2)] 4, emp])), Calls Tryz.prog 33 [(.slice Ap0_0 (p0).length cp0_0), (.func (.func 68) #[] #[(.pointer (some ⟨bq0, 0, none⟩))])].toArray w.W fun e W' => ∃ (w' : Bs) (u : (Option Addr × Nat)), w.Le w' ∧ e = .returned (.slice u.1 (r.1).length u.2) ∧ (SlF u.1 (r.1).length u.2) ∧ HF w' W' (LEn [bx bq2 #[(.bool r.2)] 4, ow u.1 u.2 46 zG r.1])) {w : Bs} (p0 : (List zD)) (Ap0_0 : Option Addr) (cp0_0 : Nat) (hp0_0 : Sl w.O w.W zG Ap0_0 cp0_0 p0) (bq0 : Nat) (bq1 : Nat) (q2 : Bool) (bq2 : Nat) (q3 : zt) (Aq3_0 : Option Addr) (cq3_0 : Nat) (hq3_0 : Sl w.R w.W zK Aq3_0 cq3_0 q3.Tools) (Aq3_1 : Option Addr) (cq3_1 : Nat) (hq3_1 : Sl w.R w.W zG Aq3_1 cq3_1 q3.Steps) (bq3 : Nat) (hb3 : w.R bq3) (hc3 : zL w.W bq3 0 [(iv q3.Unit), (.slice Aq3_0 (q3.Tools).length cq3_0), (.slice Aq3_1 (q3.Steps).length cq3_1)]) (q4 : Int) (bq4 : Nat) (hb4 : w.R bq4) (hc4 : zL w.W bq4 0 [(iv q4)]) (hb0 : w.R bq0) (hc0 : zL w.W bq0 0 [(.func (.func 66) #[] #[(.pointer (some ⟨bq1, 0, none⟩))])]) (hb1 : w.R bq1) (hc1 : zL w.W bq1 0 [(.func (.func 44) #[] #[(.pointer (some ⟨bq2, 0, none⟩)), (.pointer (some ⟨bq3, 0, none⟩)), (.pointer (some ⟨bq4, 0, none⟩))])]) (r : ((List zD) × Bool)) (H : zAG N rec p0 q2 q3 q4 = some r) (hE : HF w w.W (LEn [bx bq2 #[(.bool q2)] 4, emp])) : Calls Tryz.prog 33 [(.slice Ap0_0 (p0).length cp0_0), (.func (.func 68) #[] #[(.pointer (some ⟨bq0, 0, none⟩))])].toArray w.W fun e W' => ∃ (w' : Bs) (u : (Option Addr × Nat)), w.Le w' ∧ e = .returned (.slice u.1 (r.1).length u.2) ∧ (SlF u.1 (r.1).length u.2) ∧ HF w' W' (LEn [bx bq2 #[(.bool r.2)] 4, ow u.1 u.2 46 zG r.1]) := by
 unfold zAG at H
 have leB := Bs.Le.refl w
 refine Tr.enter (n := 42) Tryz.func33 rfl rfl rfl hE ?_
 refine Tr.sr ?_
 refine Tr.asg rfl rfl ?_
 refine Tr.nilOwn 1 46 zG ?_
 show Tr _ _ (uf _ 4 (.slice none (([] : List zD)).length 0)) _ _
 refine Tr.nil (Tr.zA ?_)
 refine Tr.sr ?_
 refine Tr.mv rfl rfl ?_
 obtain ⟨y100, hy100, H⟩ := bnd H
 refine Tr.callG [2] [emp] (U := (Option Addr × Nat)) (fun u => (.slice u.1 (y100).length u.2)) (fun O W u => SlF u.1 (y100).length u.2) (fun u => [ow u.1 u.2 46 zG y100]) rfl (zM rfl zY) (fun _ => rfl) (wn rfl) rfl Tryz.call14 (zF rfl zO) (fun W hW hp hE => F_slices_Clone_PlotStep_ok p0 Ap0_0 cp0_0 (hp0_0.extO (hW.extS hp)) y100 hy100 hE) ?_
 intro w u le101 hu
 obtain ⟨Ay100_0, cy100_0⟩ := u
 have gy100_0 := hu
 replace hp0_0 := hp0_0.le le101
 replace hc0 := le101.ext.cells hb0 hc0
 replace hb0 := le101.r _ hb0
 replace hc1 := le101.ext.cells hb1 hc1
 replace hb1 := le101.r _ hb1
 replace hc3 := le101.ext.cells hb3 hc3
 replace hb3 := le101.r _ hb3
 replace hq3_0 := hq3_0.leR le101
 replace hq3_1 := hq3_1.leR le101
 replace hc4 := le101.ext.cells hb4 hc4
 replace hb4 := le101.r _ hb4
 replace leB := leB.trans le101
 have hgy100_0 : SlF Ay100_0 (y100).length cy100_0 := gy100_0 --@phi
 show Tr _ _ (uf _ 8 (.slice Ay100_0 (y100).length cy100_0)) (up _ 2 (ow Ay100_0 cy100_0 46 zG y100)) _
 refine Tr.asg rfl rfl ?_
 refine Tr.nil (Tr.zA ?_)
 refine Tr.seq ?_
 refine Tr.sr ?_
 refine Tr.mv rfl rfl ?_
 refine Tr.va rfl (fun _ _ h1 h2 => zq un_23 (h1.ev rfl)) ?_
 refine Tr.mv rfl rfl ?_
 refine Tr.nil (Tr.zA ?_)
 refine Tr.block ?_
 refine Tr.loop (σ := Bool × (List zD) × Int × (Option Addr) × Nat) (fun m w s => zk q3 q4 rec y100 m s.1 s.2.1 s.2.2.1 = some r ∧ SlF s.2.2.2.1 (s.2.1).length s.2.2.2.2) (fun s => [(1, (.func (.func 68) #[] #[(.pointer (some ⟨bq0, 0, none⟩))])), (5, (.slice s.2.2.2.1 (s.2.1).length s.2.2.2.2)), (10, (iv (y100.length : Int))), (11, (iv s.2.2.1))]) (fun s => [(0, bx bq2 #[(.bool s.1)] 4), (2, ow s.2.2.2.1 s.2.2.2.2 46 zG s.2.1)]) N (q2, y100, 0, Ay100_0, cy100_0) ⟨H, hgy100_0⟩ (.cons rfl (.cons rfl (.cons rfl (.cons rfl .nil)))) (.cons rfl (.cons rfl .nil)) (fun _ _ h => noSome (h.1)) ?_
 intro w leL1 mL1 s hs
 obtain ⟨x157, l158, x159, Al158, cl158⟩ := s
 obtain ⟨H, hl158⟩ := hs
 replace H : zk q3 q4 rec y100 (mL1 + 1) x157 l158 x159 = some r := H
 replace hc0 := leL1.ext.cells hb0 hc0
 replace hb0 := leL1.r _ hb0
 replace hc1 := leL1.ext.cells hb1 hc1
 replace hb1 := leL1.r _ hb1
 replace hc3 := leL1.ext.cells hb3 hc3
 replace hb3 := leL1.r _ hb3
 replace hq3_0 := hq3_0.leR leL1
 replace hq3_1 := hq3_1.leR leL1
 replace hc4 := leL1.ext.cells hb4 hc4
 replace hb4 := leL1.r _ hb4
 replace leB := leB.trans leL1
 replace hl158 : SlF Al158 (l158).length cl158 := hl158
 rw [zk.eq_2] at H
 show Tr _ _ (LF [(1, (.func (.func 68) #[] #[(.pointer (some ⟨bq0, 0, none⟩))])), (5, (.slice Al158 (l158).length cl158)), (10, (iv (y100.length : Int))), (11, (iv x159))]) (LE [(0, bx bq2 #[(.bool x157)] 4), (2, ow Al158 cl158 46 zG l158)]) _
 refine Tr.sr ?_
 refine Tr.va rfl (fun _ _ h1 h2 => zz (h1.ev rfl) (h1.ev rfl)) ?_
 refine Tr.nil (Tr.zA ?_)
 refine Tr.seq ?_
 refine Tr.cond rfl H (fun H => ?_) (fun H => ?_)
 ·refine Tr.skip (Tr.zA ?_)
  refine Tr.seq ?_
  refine Tr.block ?_
  refine Tr.sr ?_
  refine Tr.mv rfl rfl ?_
  refine Tr.asg rfl rfl ?_
  refine Tr.nil (Tr.zA ?_)
  refine Tr.sr ?_
  refine Tr.mv rfl rfl ?_
  refine Tr.mv rfl rfl ?_
  refine Tr.mv rfl rfl ?_
  refine Tr.mv rfl rfl ?_
  obtain ⟨x160, hx160, H⟩ := bnd H
  obtain ⟨hx1600, hx1601, hx1602⟩ := zh hx160
  refine Tr.va rfl (fun _ _ h1 h2 => zH el_23 (h1.ev rfl) hl158 (h1.ev rfl) hx1600 hx1601) ?_
  refine Tr.va rfl (fun _ _ h1 h2 => zB fo_46_3 (h1.ev rfl)) ?_
  refine Tr.valE (U := (zG).Ad) (fun u => (zG).ok w.O w.W u x160) (fun u => (.slice u.1.1 (x160.Points).length u.1.2)) (wn rfl) rfl (ldN (κ := 2) (t := zG) (V := fun u => (.slice u.1.1 (x160.Points).length u.1.2)) rfl hx1602 (fun _ _ u h1 hc => zC ag_44 (h1.ev rfl) (hc.drop 4) rfl)) ?_
  intro u161 hoku161
  obtain ⟨⟨Au161_0, cu161_0⟩, ⟨Au161_1, cu161_1⟩⟩ := u161
  obtain ⟨hoku161_0, hoku161_1⟩ := TPlotStep_ok.1 hoku161
  replace hoku161_0 : Sl w.O w.W zy Au161_0 cu161_0 x160.Points := hoku161_0
  replace hoku161_1 : Sl w.O w.W zG Au161_1 cu161_1 x160.Steps := hoku161_1
  show Tr _ _ (uf _ 20 (.slice Au161_0 (x160.Points).length cu161_0)) _ _
  obtain ⟨y162, hy162, H⟩ := bnd H
  refine Tr.callM [7] [emp] (U := (Option Addr × Nat)) (fun u => (.slice u.1 (y162).length u.2)) (fun u => SlF u.1 (y162).length u.2) (fun u => [ow u.1 u.2 43 zy y162]) rfl (zM rfl zY) (fun _ => rfl) (wn rfl) rfl Tryz.call57 (zF rfl zO) (fun W hW hp hE => F_slices_Clone_Point_ok x160.Points Au161_0 cu161_0 (hoku161_0.rl.ext (hW.extS hp)) y162 hy162 hE) ?_
  intro u hu
  obtain ⟨Ay162_0, cy162_0⟩ := u
  have gy162_0 := hu
  have hgy162_0 : SlF Ay162_0 (y162).length cy162_0 := gy162_0 --@phi
  show Tr _ _ (uf _ 21 (.slice Ay162_0 (y162).length cy162_0)) (up _ 7 (ow Ay162_0 cy162_0 43 zy y162)) _
  obtain ⟨x164, hx164, H⟩ := bnd H
  obtain ⟨hx1640, hx1641, hx1642⟩ := zh hx164
  refine Tr.va rfl (fun _ _ h1 h2 => zH el_23 (h1.ev rfl) hl158 (h1.ev rfl) hx1640 hx1641) ?_
  refine Tr.va rfl (fun _ _ h1 h2 => zB fo_46_3 (h1.ev rfl)) ?_
  refine Tr.mixOpen 2 rfl hx1642 ?_
  intro u165 hoku165
  obtain ⟨⟨Au165_0, cu165_0⟩, ⟨Au165_1, cu165_1⟩⟩ := u165
  obtain ⟨hoku165_0, hoku165_1⟩ := TPlotStep_ok.1 hoku165
  replace hoku165_0 : Sl w.O w.W zy Au165_0 cu165_0 x164.Points := hoku165_0
  replace hoku165_1 : Sl w.O w.W zG Au165_1 cu165_1 x164.Steps := hoku165_1
  show Tr _ _ _ (up _ 2 (ow Al158 cl158 46 (mix zG) (mixL l158 (x159).toNat (raw zG [(iv x164.Kind), (sv x164.Name), (iv x164.At.X), (iv x164.At.Y), (.slice Au165_0 (x164.Points).length cu165_0), (iv x164.NX), (iv x164.NY), (.slice Au165_1 (x164.Steps).length cu165_1)] rfl rfl)))) _
  refine Tr.storeMix 2 (raw zG [(iv x164.Kind), (sv x164.Name), (iv x164.At.X), (iv x164.At.Y), (.slice Ay162_0 (y162).length cy162_0), (iv x164.NX), (iv x164.NY), (.slice Au165_1 (x164.Steps).length cu165_1)] rfl rfl) (cs := [(.slice Ay162_0 (y162).length cy162_0)]) (fo := 4) (wn rfl) rfl rfl rfl rfl rfl (List.getElem?_eq_some_iff.1 hx1642).1 sz_44 rfl rfl rfl ?_
  refine Tr.nil (Tr.zA ?_)
  refine Tr.sr ?_
  refine Tr.mv rfl rfl ?_
  refine Tr.mv rfl rfl ?_
  refine Tr.mv rfl rfl ?_
  refine Tr.mv rfl rfl ?_
  obtain ⟨x166, hx166, H⟩ := bnd H
  obtain ⟨hx1660, hx1661, hx1662⟩ := zh hx166
  refine Tr.va rfl (fun _ _ h1 h2 => zH el_23 (h1.ev rfl) hl158 (h1.ev rfl) hx1660 hx1661) ?_
  refine Tr.va rfl (fun _ _ h1 h2 => zB fo_46_6 (h1.ev rfl)) ?_
  refine Tr.va rfl (fun _ _ h1 h2 => zC ag_23 (h1.ev rfl) (zL.drop (rdm (cs := raw zG [(iv x164.Kind), (sv x164.Name), (iv x164.At.X), (iv x164.At.Y), (.slice Ay162_0 (y162).length cy162_0), (iv x164.NX), (iv x164.NY), (.slice Au165_1 (x164.Steps).length cu165_1)] rfl rfl) h2 (κ := 2) rfl (List.getElem?_eq_some_iff.1 hx1662).1) 7) rfl) ?_
  refine Tr.mv rfl rfl ?_
  obtain ⟨y167, hy167, H⟩ := bnd H
  refine Tr.callG [0, 8] [bx bq2 #[(.bool x157)] 4, emp] (U := (Option Addr × Nat)) (fun u => (.slice u.1 (y167.1).length u.2)) (fun O W u => SlF u.1 (y167.1).length u.2) (fun u => [bx bq2 #[(.bool y167.2)] 4, ow u.1 u.2 46 zG y167.1]) rfl (zM rfl (zM rfl zY)) (fun _ => rfl) (wn rfl) rfl Tryz.call33 (zF rfl (zF rfl zO)) (fun W hW hp hE => hrec x164.Steps Au165_1 cu165_1 (hoku165_1.extO (hW.extS hp)) bq0 bq1 x157 bq2 q3 Aq3_0 cq3_0 (hq3_0.ext (hW.extS hp)) Aq3_1 cq3_1 (hq3_1.ext (hW.extS hp)) bq3 ((hW.extS hp).r _ hb3) ((hW.extS hp).cells hb3 hc3) q4 bq4 ((hW.extS hp).r _ hb4) ((hW.extS hp).cells hb4 hc4) ((hW.extS hp).r _ hb0) ((hW.extS hp).cells hb0 hc0) ((hW.extS hp).r _ hb1) ((hW.extS hp).cells hb1 hc1) y167 hy167 hE) ?_
  intro w u le168 hu
  obtain ⟨Ay167_0, cy167_0⟩ := u
  have gy167_0 := hu
  replace hc0 := le168.ext.cells hb0 hc0
  replace hb0 := le168.r _ hb0
  replace hc1 := le168.ext.cells hb1 hc1
  replace hb1 := le168.r _ hb1
  replace hc3 := le168.ext.cells hb3 hc3
  replace hb3 := le168.r _ hb3
  replace hq3_0 := hq3_0.leR le168
  replace hq3_1 := hq3_1.leR le168
  replace hc4 := le168.ext.cells hb4 hc4
  replace hb4 := le168.r _ hb4
  replace hoku161_0 := hoku161_0.le le168
  replace hoku165_1 := hoku165_1.le le168
  replace leB := leB.trans le168
  replace leL1 := leL1.trans le168
  have hgy167_0 : SlF Ay167_0 (y167.1).length cy167_0 := gy167_0 --@phi
  show Tr _ _ (uf _ 32 (.slice Ay167_0 (y167.1).length cy167_0)) (up (up _ 8 (ow Ay167_0 cy167_0 46 zG y167.1)) 0 (bx bq2 #[(.bool y167.2)] 4)) _
  obtain ⟨x169, hx169, H⟩ := bnd H
  obtain ⟨hx1690, hx1691, hx1692⟩ := zh hx169
  refine Tr.va rfl (fun _ _ h1 h2 => zH el_23 (h1.ev rfl) hl158 (h1.ev rfl) hx1690 hx1691) ?_
  refine Tr.va rfl (fun _ _ h1 h2 => zB fo_46_6 (h1.ev rfl)) ?_
  refine Tr.storeMix 2 (raw zG [(iv x164.Kind), (sv x164.Name), (iv x164.At.X), (iv x164.At.Y), (.slice Ay162_0 (y162).length cy162_0), (iv x164.NX), (iv x164.NY), (.slice Ay167_0 (y167.1).length cy167_0)] rfl rfl) (cs := [(.slice Ay167_0 (y167.1).length cy167_0)]) (fo := 7) (wn rfl) rfl rfl rfl rfl rfl (List.getElem?_eq_some_iff.1 hx1692).1 sz_23 rfl rfl rfl ?_
  refine Tr.nil (Tr.zA ?_)
  refine Tr.region ?_
  refine Tr.mv rfl rfl ?_
  refine Tr.mv rfl rfl ?_
  refine Tr.mv rfl rfl ?_
  obtain ⟨x170, hx170, H⟩ := bnd H
  obtain ⟨hx1700, hx1701, hx1702⟩ := zh hx170
  refine Tr.va rfl (fun _ _ h1 h2 => zH el_23 (h1.ev rfl) hl158 (h1.ev rfl) hx1700 hx1701) ?_
  obtain ⟨y171, hy171, H⟩ := bnd H
  refine Tr.callGC [2, 7, 0] [ow Al158 cl158 46 (mix zG) (mixL l158 (x159).toNat (raw zG [(iv x164.Kind), (sv x164.Name), (iv x164.At.X), (iv x164.At.Y), (.slice Ay162_0 (y162).length cy162_0), (iv x164.NX), (iv x164.NY), (.slice Ay167_0 (y167.1).length cy167_0)] rfl rfl)), ow Ay162_0 cy162_0 43 zy y162, bx bq2 #[(.bool y167.2)] 4] (U := Unit) (fun u => (.tuple #[])) (fun O W u => (y171.2.2.1).length = (y162).length) (fun u => [ow Al158 cl158 46 (mix zG) (mixL l158 (x159).toNat (raw zG [(iv x164.Kind), (sv x164.Name), (iv y171.1), (iv y171.2.1), (.slice Ay162_0 (y171.2.2.1).length cy162_0), (iv x164.NX), (iv x164.NY), (.slice Ay167_0 (y167.1).length cy167_0)] rfl rfl)), ow Ay162_0 cy162_0 43 zy y171.2.2.1, bx bq2 #[(.bool y171.2.2.2)] 4]) rfl (zM rfl (zM rfl (zM rfl zY))) (fun _ => rfl) (wn rfl) rfl rfl Tryz.call68 (zF rfl zO) (fun W hW hp hE => F_plot_changed_3__changed_1__scaled_1_ok (zD.mk x164.Kind x164.Name x164.At y162 x164.NX x164.NY y167.1) Ay162_0 cy162_0 Ay167_0 cy167_0 (hW.slS (k := 8) rfl hp rfl) Al158 cl158 l158 ((x159).toNat) (List.getElem?_eq_some_iff.1 hx1702).1 bq0 bq1 y167.2 bq2 q3 Aq3_0 cq3_0 (hq3_0.ext (hW.extS hp)) Aq3_1 cq3_1 (hq3_1.ext (hW.extS hp)) bq3 ((hW.extS hp).r _ hb3) ((hW.extS hp).cells hb3 hc3) q4 bq4 ((hW.extS hp).r _ hb4) ((hW.extS hp).cells hb4 hc4) ((hW.extS hp).r _ hb0) ((hW.extS hp).cells hb0 hc0) ((hW.extS hp).r _ hb1) ((hW.extS hp).cells hb1 hc1) y171 hy171 hE) ?_
  intro w u le172 hu
  have gky171_1 := hu
  replace hc0 := le172.ext.cells hb0 hc0
  replace hb0 := le172.r _ hb0
  replace hc1 := le172.ext.cells hb1 hc1
  replace hb1 := le172.r _ hb1
  replace hc3 := le172.ext.cells hb3 hc3
  replace hb3 := le172.r _ hb3
  replace hq3_0 := hq3_0.leR le172
  replace hq3_1 := hq3_1.leR le172
  replace hc4 := le172.ext.cells hb4 hc4
  replace hb4 := le172.r _ hb4
  replace hoku161_0 := hoku161_0.le le172
  replace hoku165_1 := hoku165_1.le le172
  replace leB := leB.trans le172
  replace leL1 := leL1.trans le172
  have hgky171_1 : (y171.2.2.1).length = (y162).length := gky171_1 --@phi
  have hfky171_1 : SlF Ay162_0 (y171.2.2.1).length cy162_0 := by rw [hgky171_1]; exact hgy162_0
  show Tr _ _ (uf _ 39 (.tuple #[])) (up (up (up _ 0 (bx bq2 #[(.bool y171.2.2.2)] 4)) 7 (ow Ay162_0 cy162_0 43 zy y171.2.2.1)) 2 (ow Al158 cl158 46 (mix zG) (mixL l158 (x159).toNat (raw zG [(iv x164.Kind), (sv x164.Name), (iv y171.1), (iv y171.2.1), (.slice Ay162_0 (y171.2.2.1).length cy162_0), (iv x164.NX), (iv x164.NY), (.slice Ay167_0 (y167.1).length cy167_0)] rfl rfl)))) _
  refine Tr.sel (lf := [(1, (.func (.func 68) #[] #[(.pointer (some ⟨bq0, 0, none⟩))])), (5, (.slice Al158 (l158).length cl158)), (6, (iv x159)), (10, (iv (y100.length : Int))), (11, (iv x159)), (12, (.bool (decide (x159 < (y100.length : Int))))), (13, (iv x159)), (14, (.slice Al158 (l158).length cl158)), (15, (iv x159)), (16, (.slice Al158 (l158).length cl158)), (17, (iv x159)), (20, (.slice Au161_0 (x160.Points).length cu161_0)), (21, (.slice Ay162_0 (y171.2.2.1).length cy162_0)), (24, (.slice Al158 (l158).length cl158)), (25, (iv x159)), (26, (.slice Al158 (l158).length cl158)), (27, (iv x159)), (28, (.pointer (some ⟨adB Al158, adO Al158 + (x159).toNat * 8, none⟩))), (29, (.pointer (some ⟨adB Al158, adO Al158 + (x159).toNat * 8 + 7, none⟩))), (30, (.slice Au165_1 (x164.Steps).length cu165_1)), (31, (.func (.func 68) #[] #[(.pointer (some ⟨bq0, 0, none⟩))])), (32, (.slice Ay167_0 (y167.1).length cy167_0)), (33, (.pointer (some ⟨adB Al158, adO Al158 + (x159).toNat * 8, none⟩))), (34, (.pointer (some ⟨adB Al158, adO Al158 + (x159).toNat * 8 + 7, none⟩))), (35, (.func (.func 68) #[] #[(.pointer (some ⟨bq0, 0, none⟩))])), (36, (.slice Al158 (l158).length cl158)), (37, (iv x159)), (38, (.pointer (some ⟨adB Al158, adO Al158 + (x159).toNat * 8, none⟩))), (39, (.tuple #[]))]) (le := [(0, bx bq2 #[(.bool y171.2.2.2)] 4), (2, ow Al158 cl158 46 (mix zG) (mixL l158 (x159).toNat (raw zG [(iv x164.Kind), (sv x164.Name), (iv y171.1), (iv y171.2.1), (.slice Ay162_0 (y171.2.2.1).length cy162_0), (iv x164.NX), (iv x164.NY), (.slice Ay167_0 (y167.1).length cy167_0)] rfl rfl))), (7, ow Ay162_0 cy162_0 43 zy y171.2.2.1), (8, ow Ay167_0 cy167_0 46 zG y167.1)]) (.cons rfl (.cons rfl (.cons rfl (.cons rfl (.cons rfl (.cons rfl (.cons rfl (.cons rfl (.cons rfl (.cons rfl (.cons rfl (.cons rfl (.cons (slenV rfl (by rw [hgky171_1])) (.cons rfl (.cons rfl (.cons rfl (.cons rfl (.cons rfl (.cons rfl (.cons rfl (.cons rfl (.cons rfl (.cons rfl (.cons rfl (.cons rfl (.cons rfl (.cons rfl (.cons rfl (.cons rfl .nil))))))))))))))))))))))))))))) (.cons rfl (.cons (emix rfl (by rw [hgky171_1])) (.cons rfl (.cons rfl .nil)))) ?_
  refine Tr.nil (Tr.zW (Tr.zA ?_))
  refine Tr.region ?_
  refine Tr.va rfl (fun _ _ h1 h2 => zx (h1.ev rfl) (h1.ev rfl)) ?_
  refine Tr.mv rfl rfl ?_
  refine Tr.nil ?_
  refine Tr.freeze 7 rfl fun w le174 hz173 => ?_
  replace hc0 := le174.ext.cells hb0 hc0
  replace hb0 := le174.r _ hb0
  replace hc1 := le174.ext.cells hb1 hc1
  replace hb1 := le174.r _ hb1
  replace hc3 := le174.ext.cells hb3 hc3
  replace hb3 := le174.r _ hb3
  replace hq3_0 := hq3_0.leR le174
  replace hq3_1 := hq3_1.leR le174
  replace hc4 := le174.ext.cells hb4 hc4
  replace hb4 := le174.r _ hb4
  replace hoku161_0 := hoku161_0.le le174
  replace hoku165_1 := hoku165_1.le le174
  replace leB := leB.trans le174
  replace leL1 := leL1.trans le174
  refine Tr.freeze 8 rfl fun w le176 hz175 => ?_
  replace hc0 := le176.ext.cells hb0 hc0
  replace hb0 := le176.r _ hb0
  replace hc1 := le176.ext.cells hb1 hc1
  replace hb1 := le176.r _ hb1
  replace hc3 := le176.ext.cells hb3 hc3
  replace hb3 := le176.r _ hb3
  replace hq3_0 := hq3_0.leR le176
  replace hq3_1 := hq3_1.leR le176
  replace hc4 := le176.ext.cells hb4 hc4
  replace hb4 := le176.r _ hb4
  replace hoku161_0 := hoku161_0.le le176
  replace hz173 := hz173.le le176
  replace hoku165_1 := hoku165_1.le le176
  replace leB := leB.trans le176
  replace leL1 := leL1.trans le176
  refine Tr.mixClose 2 rfl (((Ay162_0, cy162_0), (Ay167_0, cy167_0))) (zD.mk x164.Kind x164.Name (zI.mk y171.1 y171.2.1) y171.2.2.1 x164.NX x164.NY y167.1) (TPlotStep_ok.2 ⟨hz173, hz175⟩) rfl ?_
  have hs177 : ((l158).set (x159).toNat (zD.mk x164.Kind x164.Name (zI.mk y171.1 y171.2.1) y171.2.2.1 x164.NX x164.NY y167.1)).length = (l158).length := List.length_set
  have hfhs177 : SlF Al158 ((l158).set (x159).toNat (zD.mk x164.Kind x164.Name (zI.mk y171.1 y171.2.1) y171.2.2.1 x164.NX x164.NY y167.1)).length cl158 := by rw [hs177]; exact hl158
  refine Tr.sel (lf := [(1, (.func (.func 68) #[] #[(.pointer (some ⟨bq0, 0, none⟩))])), (5, (.slice Al158 (((l158).set (x159).toNat (zD.mk x164.Kind x164.Name (zI.mk y171.1 y171.2.1) y171.2.2.1 x164.NX x164.NY y167.1))).length cl158)), (6, (iv x159)), (10, (iv (y100.length : Int))), (11, (iv (w64 (x159 + 1)))), (12, (.bool (decide (x159 < (y100.length : Int))))), (13, (iv x159)), (14, (.slice Al158 (((l158).set (x159).toNat (zD.mk x164.Kind x164.Name (zI.mk y171.1 y171.2.1) y171.2.2.1 x164.NX x164.NY y167.1))).length cl158)), (15, (iv x159)), (16, (.slice Al158 (((l158).set (x159).toNat (zD.mk x164.Kind x164.Name (zI.mk y171.1 y171.2.1) y171.2.2.1 x164.NX x164.NY y167.1))).length cl158)), (17, (iv x159)), (20, (.slice Au161_0 (x160.Points).length cu161_0)), (21, (.slice Ay162_0 (y171.2.2.1).length cy162_0)), (24, (.slice Al158 (((l158).set (x159).toNat (zD.mk x164.Kind x164.Name (zI.mk y171.1 y171.2.1) y171.2.2.1 x164.NX x164.NY y167.1))).length cl158)), (25, (iv x159)), (26, (.slice Al158 (((l158).set (x159).toNat (zD.mk x164.Kind x164.Name (zI.mk y171.1 y171.2.1) y171.2.2.1 x164.NX x164.NY y167.1))).length cl158)), (27, (iv x159)), (30, (.slice Au165_1 (x164.Steps).length cu165_1)), (31, (.func (.func 68) #[] #[(.pointer (some ⟨bq0, 0, none⟩))])), (32, (.slice Ay167_0 (y167.1).length cy167_0)), (35, (.func (.func 68) #[] #[(.pointer (some ⟨bq0, 0, none⟩))])), (36, (.slice Al158 (((l158).set (x159).toNat (zD.mk x164.Kind x164.Name (zI.mk y171.1 y171.2.1) y171.2.2.1 x164.NX x164.NY y167.1))).length cl158)), (37, (iv x159)), (39, (.tuple #[])), (40, (iv (w64 (x159 + 1))))]) (le := [(0, bx bq2 #[(.bool y171.2.2.2)] 4), (2, ow Al158 cl158 46 zG ((l158).set (x159).toNat (zD.mk x164.Kind x164.Name (zI.mk y171.1 y171.2.1) y171.2.2.1 x164.NX x164.NY y167.1)))]) (.cons rfl (.cons (slenV rfl (by rw [hs177])) (.cons rfl (.cons rfl (.cons rfl (.cons rfl (.cons rfl (.cons (slenV rfl (by rw [hs177])) (.cons rfl (.cons (slenV rfl (by rw [hs177])) (.cons rfl (.cons rfl (.cons rfl (.cons (slenV rfl (by rw [hs177])) (.cons rfl (.cons (slenV rfl (by rw [hs177])) (.cons rfl (.cons rfl (.cons rfl (.cons rfl (.cons rfl (.cons (slenV rfl (by rw [hs177])) (.cons rfl (.cons rfl (.cons rfl .nil))))))))))))))))))))))))) (.cons rfl (.cons rfl .nil)) ?_
  exact Tr.zZ leL1 (y171.2.2.2, ((l158).set (x159).toNat (zD.mk x164.Kind x164.Name (zI.mk y171.1 y171.2.1) y171.2.2.1 x164.NX x164.NY y167.1)), (w64 (x159 + 1)), Al158, cl158) ⟨H, hfhs177⟩ (.cons rfl (.cons rfl (.cons rfl (.cons rfl .nil)))) (.cons rfl (.cons rfl .nil))
 ·refine Tr.exit (Tr.zX (Tr.zX (Tr.zAC (Tr.zA ?_))))
  refine Tr.sr ?_
  refine Tr.mv rfl rfl ?_
  refine Tr.asg rfl rfl ?_
  refine Tr.nil (Tr.zA ?_)
  refine Tr.ret ?_
  obtain rfl := Option.some.inj H
  exact Tr.out (m := [(.slice Al158 (l158).length cl158)]) [] (zP rfl zQ) (fun W hW => ⟨w, (Al158, cl158), leB, rfl, hl158, hW.pick (ks := [0, 2]) (by decide) (zM rfl (zM rfl zY))⟩)
theorem F_plot_own__changed_3__changed_1__scaled_1_ok : ∀ (N : Nat) {w : Bs} (p0 : (List zD)) (Ap0_0 : Option Addr) (cp0_0 : Nat) (hp0_0 : Sl w.O w.W zG Ap0_0 cp0_0 p0) (bq0 : Nat) (bq1 : Nat) (q2 : Bool) (bq2 : Nat) (q3 : zt) (Aq3_0 : Option Addr) (cq3_0 : Nat) (hq3_0 : Sl w.R w.W zK Aq3_0 cq3_0 q3.Tools) (Aq3_1 : Option Addr) (cq3_1 : Nat) (hq3_1 : Sl w.R w.W zG Aq3_1 cq3_1 q3.Steps) (bq3 : Nat) (hb3 : w.R bq3) (hc3 : zL w.W bq3 0 [(iv q3.Unit), (.slice Aq3_0 (q3.Tools).length cq3_0), (.slice Aq3_1 (q3.Steps).length cq3_1)]) (q4 : Int) (bq4 : Nat) (hb4 : w.R bq4) (hc4 : zL w.W bq4 0 [(iv q4)]) (hb0 : w.R bq0) (hc0 : zL w.W bq0 0 [(.func (.func 66) #[] #[(.pointer (some ⟨bq1, 0, none⟩))])]) (hb1 : w.R bq1) (hc1 : zL w.W bq1 0 [(.func (.func 44) #[] #[(.pointer (some ⟨bq2, 0, none⟩)), (.pointer (some ⟨bq3, 0, none⟩)), (.pointer (some ⟨bq4, 0, none⟩))])]) (r : ((List zD) × Bool)) (H : zAL N p0 q2 q3 q4 = some r) (hE : HF w w.W (LEn [bx bq2 #[(.bool q2)] 4, emp])), Calls Tryz.prog 33 [(.slice Ap0_0 (p0).length cp0_0), (.func (.func 68) #[] #[(.pointer (some ⟨bq0, 0, none⟩))])].toArray w.W fun e W' => ∃ (w' : Bs) (u : (Option Addr × Nat)), w.Le w' ∧ e = .returned (.slice u.1 (r.1).length u.2) ∧ (SlF u.1 (r.1).length u.2) ∧ HF w' W' (LEn [bx bq2 #[(.bool r.2)] 4, ow u.1 u.2 46 zG r.1])
 | 0 => by intros; rename_i H _; cases H
 | N + 1 => F_plot_own__changed_3__changed_1__scaled_1_b_ok N (zAL N) (F_plot_own__changed_3__changed_1__scaled_1_ok N)

theorem F_plot_changed__scaled_1_ok (N : Nat) {w : Bs} (p0 : zt) (Ap0_0 : Option Addr) (cp0_0 : Nat) (hp0_0 : Sl w.O w.W zK Ap0_0 cp0_0 p0.Tools) (Ap0_1 : Option Addr) (cp0_1 : Nat) (hp0_1 : Sl w.O w.W zG Ap0_1 cp0_1 p0.Steps) (q0 : Bool) (bq0 : Nat) (q1 : zt) (Aq1_0 : Option Addr) (cq1_0 : Nat) (hq1_0 : Sl w.R w.W zK Aq1_0 cq1_0 q1.Tools) (Aq1_1 : Option Addr) (cq1_1 : Nat) (hq1_1 : Sl w.R w.W zG Aq1_1 cq1_1 q1.Steps) (bq1 : Nat) (hb1 : w.R bq1) (hc1 : zL w.W bq1 0 [(iv q1.Unit), (.slice Aq1_0 (q1.Tools).length cq1_0), (.slice Aq1_1 (q1.Steps).length cq1_1)]) (q2 : Int) (bq2 : Nat) (hb2 : w.R bq2) (hc2 : zL w.W bq2 0 [(iv q2)]) (r : (zt × Bool)) (H : F_plot_changed__scaled_1 N p0 q0 q1 q2 = some r) (hE : HF w w.W (LEn [bx bq0 #[(.bool q0)] 4, emp, emp])) : Calls Tryz.prog 38 [(.agg #[(iv p0.Unit), (.slice Ap0_0 (p0.Tools).length cp0_0), (.slice Ap0_1 (p0.Steps).length cp0_1)]), (.func (.func 44) #[] #[(.pointer (some ⟨bq0, 0, none⟩)), (.pointer (some ⟨bq1, 0, none⟩)), (.pointer (some ⟨bq2, 0, none⟩))])].toArray w.W fun e W' => ∃ (w' : Bs) (u : (Option Addr × Nat) × (Option Addr × Nat)), w.Le w' ∧ e = .returned (.agg #[(iv r.1.Unit), (.slice u.1.1 (r.1.Tools).length u.1.2), (.slice u.2.1 (r.1.Steps).length u.2.2)]) ∧ (SlF u.1.1 (r.1.Tools).length u.1.2 ∧ SlF u.2.1 (r.1.Steps).length u.2.2) ∧ HF w' W' (LEn [bx bq0 #[(.bool r.2)] 4, ow u.1.1 u.1.2 64 zK r.1.Tools, ow u.2.1 u.2.2 46 zG r.1.Steps]) := by
 unfold F_plot_changed__scaled_1 at H
 have leB := Bs.Le.refl w
 refine Tr.enter (n := 22) Tryz.func38 rfl rfl rfl hE ?_
 refine Tr.sr ?_
 refine Tr.box 1 (cs := [(iv p0.Unit), (.slice Ap0_0 (p0.Tools).length cp0_0), (.slice Ap0_1 (p0.Steps).length cp0_1)]) (wn rfl) rfl rfl rfl fun b100 => ?_
 refine Tr.box 2 (cs := [(.func (.func 44) #[] #[(.pointer (some ⟨bq0, 0, none⟩)), (.pointer (some ⟨bq1, 0, none⟩)), (.pointer (some ⟨bq2, 0, none⟩))])]) (wn rfl) rfl rfl rfl fun b101 => ?_
 refine Tr.alloc 3 (wn rfl) rfl ze_25 fun b102 => ?_
 refine Tr.nil (Tr.zA ?_)
 refine Tr.sr ?_
 refine Tr.mkFunc (vs := [(.pointer (some ⟨b101, 0, none⟩))]) (wn rfl) rfl (zF rfl zO) ?_
 refine Tr.alloc 4 (wn rfl) rfl ze_123 fun b103 => ?_
 refine Tr.store 4 (cs := [(.func (.func 66) #[] #[(.pointer (some ⟨b101, 0, none⟩))])]) [(.func (.func 66) #[] #[(.pointer (some ⟨b101, 0, none⟩))])] (wn rfl) rfl rfl rfl rfl sz_123 rfl rfl rfl ?_
 refine Tr.nil (Tr.zA ?_)
 refine Tr.sr ?_
 refine Tr.va rfl (fun _ _ h1 h2 => zB fo_25_1 (h1.ev rfl)) ?_
 refine Tr.va rfl (fun _ _ h1 h2 => zC ag_22 (h1.ev rfl) (rdb h2 (vs := [(iv p0.Unit), (.slice Ap0_0 (p0.Tools).length cp0_0), (.slice Ap0_1 (p0.Steps).length cp0_1)]) (k := 1) rfl 1) rfl) ?_
 refine Tr.mkFunc (vs := [(.pointer (some ⟨b101, 0, none⟩))]) (wn rfl) rfl (zF rfl zO) ?_
 obtain ⟨y104, hy104, H⟩ := bnd H
 refine Tr.callG [0, 5] [bx bq0 #[(.bool q0)] 4, emp] (U := (Option Addr × Nat)) (fun u => (.slice u.1 (y104.1).length u.2)) (fun O W u => SlF u.1 (y104.1).length u.2) (fun u => [bx bq0 #[(.bool y104.2)] 4, ow u.1 u.2 64 zK y104.1]) rfl (zM rfl (zM rfl zY)) (fun _ => rfl) (wn rfl) rfl Tryz.call63 (zF rfl (zF rfl zO)) (fun W hW hp hE => F_plot_ownTools__changed_2__scaled_1_ok N p0.Tools Ap0_0 cp0_0 (hp0_0.extO (hW.extS hp)) b101 q0 bq0 q1 Aq1_0 cq1_0 (hq1_0.ext (hW.extS hp)) Aq1_1 cq1_1 (hq1_1.ext (hW.extS hp)) bq1 ((hW.extS hp).r _ hb1) ((hW.extS hp).cells hb1 hc1) q2 bq2 ((hW.extS hp).r _ hb2) ((hW.extS hp).cells hb2 hc2) (hW.boxS (k := 2) rfl hp rfl) (hW.boxC (k := 2) rfl) y104 hy104 hE) ?_
 intro w u le105 hu
 obtain ⟨Ay104_0, cy104_0⟩ := u
 have gy104_0 := hu
 replace hp0_0 := hp0_0.le le105
 replace hp0_1 := hp0_1.le le105
 replace hc1 := le105.ext.cells hb1 hc1
 replace hb1 := le105.r _ hb1
 replace hq1_0 := hq1_0.leR le105
 replace hq1_1 := hq1_1.leR le105
 replace hc2 := le105.ext.cells hb2 hc2
 replace hb2 := le105.r _ hb2
 replace leB := leB.trans le105
 have hgy104_0 : SlF Ay104_0 (y104.1).length cy104_0 := gy104_0 --@phi
 show Tr _ _ (uf _ 12 (.slice Ay104_0 (y104.1).length cy104_0)) (up (up _ 5 (ow Ay104_0 cy104_0 64 zK y104.1)) 0 (bx bq0 #[(.bool y104.2)] 4)) _
 refine Tr.asg rfl rfl ?_
 refine Tr.nil (Tr.zA ?_)
 refine Tr.sr ?_
 refine Tr.va rfl (fun _ _ h1 h2 => zB fo_25_2 (h1.ev rfl)) ?_
 refine Tr.va rfl (fun _ _ h1 h2 => zC ag_23 (h1.ev rfl) (rdb h2 (vs := [(iv p0.Unit), (.slice Ap0_0 (p0.Tools).length cp0_0), (.slice Ap0_1 (p0.Steps).length cp0_1)]) (k := 1) rfl 2) rfl) ?_
 refine Tr.mkFunc (vs := [(.pointer (some ⟨b103, 0, none⟩))]) (wn rfl) rfl (zF rfl zO) ?_
 obtain ⟨y106, hy106, H⟩ := bnd H
 refine Tr.callG [0, 6] [bx bq0 #[(.bool y104.2)] 4, emp] (U := (Option Addr × Nat)) (fun u => (.slice u.1 (y106.1).length u.2)) (fun O W u => SlF u.1 (y106.1).length u.2) (fun u => [bx bq0 #[(.bool y106.2)] 4, ow u.1 u.2 46 zG y106.1]) rfl (zM rfl (zM rfl zY)) (fun _ => rfl) (wn rfl) rfl Tryz.call33 (zF rfl (zF rfl zO)) (fun W hW hp hE => F_plot_own__changed_3__changed_1__scaled_1_ok N p0.Steps Ap0_1 cp0_1 (hp0_1.extO (hW.extS hp)) b103 b101 y104.2 bq0 q1 Aq1_0 cq1_0 (hq1_0.ext (hW.extS hp)) Aq1_1 cq1_1 (hq1_1.ext (hW.extS hp)) bq1 ((hW.extS hp).r _ hb1) ((hW.extS hp).cells hb1 hc1) q2 bq2 ((hW.extS hp).r _ hb2) ((hW.extS hp).cells hb2 hc2) (hW.boxS (k := 4) rfl hp rfl) (hW.boxC (k := 4) rfl) (hW.boxS (k := 2) rfl hp rfl) (hW.boxC (k := 2) rfl) y106 hy106 hE) ?_
 intro w u le107 hu
 obtain ⟨Ay106_0, cy106_0⟩ := u
 have gy106_0 := hu
 replace hp0_0 := hp0_0.le le107
 replace hp0_1 := hp0_1.le le107
 replace hc1 := le107.ext.cells hb1 hc1
 replace hb1 := le107.r _ hb1
 replace hq1_0 := hq1_0.leR le107
 replace hq1_1 := hq1_1.leR le107
 replace hc2 := le107.ext.cells hb2 hc2
 replace hb2 := le107.r _ hb2
 replace leB := leB.trans le107
 have hgy106_0 : SlF Ay106_0 (y106.1).length cy106_0 := gy106_0 --@phi
 show Tr _ _ (uf _ 16 (.slice Ay106_0 (y106.1).length cy106_0)) (up (up _ 6 (ow Ay106_0 cy106_0 46 zG y106.1)) 0 (bx bq0 #[(.bool y106.2)] 4)) _
 refine Tr.asg rfl rfl ?_
 refine Tr.nil (Tr.zA ?_)
 refine Tr.sr ?_
 refine Tr.va rfl (fun _ _ h1 h2 => zB fo_25_0 (h1.ev rfl)) ?_
 refine Tr.va rfl (fun _ _ h1 h2 => zC ag_3 (h1.ev rfl) (rdb h2 (vs := [(iv p0.Unit), (.slice Ap0_0 (p0.Tools).length cp0_0), (.slice Ap0_1 (p0.Steps).length cp0_1)]) (k := 1) rfl 0) rfl) ?_
 refine Tr.mv rfl rfl ?_
 refine Tr.mv rfl rfl ?_
 refine Tr.build (vs := [(0, (iv p0.Unit)), (1, (.slice Ay104_0 (y104.1).length cy104_0)), (2, (.slice Ay106_0 (y106.1).length cy106_0))]) (cs := [(iv p0.Unit), (.slice Ay104_0 (y104.1).length cy104_0), (.slice Ay106_0 (y106.1).length cy106_0)]) (wn rfl) rfl (zi rfl (zi rfl (zi rfl evs_nil))) (by kernel_rfl) ?_
 refine Tr.store 3 (cs := [(iv p0.Unit), (.slice Ay104_0 (y104.1).length cy104_0), (.slice Ay106_0 (y106.1).length cy106_0)]) [(iv p0.Unit), (.slice Ay104_0 (y104.1).length cy104_0), (.slice Ay106_0 (y106.1).length cy106_0)] (wn rfl) rfl rfl rfl rfl sz_25 rfl rfl rfl ?_
 refine Tr.nil (Tr.zA ?_)
 refine Tr.ret ?_
 obtain rfl := Option.some.inj H
 exact Tr.out (m := [(.agg #[(iv p0.Unit), (.slice Ay104_0 (y104.1).length cy104_0), (.slice Ay106_0 (y106.1).length cy106_0)])]) [3] (res_cell rfl rfl ag_25 sz_25 zQ) (fun W hW => ⟨w, ((Ay104_0, cy104_0), (Ay106_0, cy106_0)), leB, rfl, ⟨hgy104_0, hgy106_0⟩, hW.pick (ks := [0, 5, 6]) (by decide) (zM rfl (zM rfl (zM rfl zY)))⟩)

theorem F_plot_scaled_ok (N : Nat) {w : Bs} (p0 : zt) (Ap0_0 : Option Addr) (cp0_0 : Nat) (hp0_0 : Sl w.O w.W zK Ap0_0 cp0_0 p0.Tools) (Ap0_1 : Option Addr) (cp0_1 : Nat) (hp0_1 : Sl w.O w.W zG Ap0_1 cp0_1 p0.Steps) (p1 : Int) (r : (zt × Bool)) (H : F_plot_scaled N p0 p1 = some r) (hE : HF w w.W (LEn [emp, emp])) : Calls Tryz.prog 23 [(.agg #[(iv p0.Unit), (.slice Ap0_0 (p0.Tools).length cp0_0), (.slice Ap0_1 (p0.Steps).length cp0_1)]), (iv p1)].toArray w.W fun e W' => ∃ (w' : Bs) (u : (Option Addr × Nat) × (Option Addr × Nat)), w.Le w' ∧ e = .returned (.tuple #[(.agg #[(iv r.1.Unit), (.slice u.1.1 (r.1.Tools).length u.1.2), (.slice u.2.1 (r.1.Steps).length u.2.2)]), (.bool r.2)]) ∧ (SlF u.1.1 (r.1.Tools).length u.1.2 ∧ SlF u.2.1 (r.1.Steps).length u.2.2) ∧ HF w' W' (LEn [ow u.1.1 u.1.2 64 zK r.1.Tools, ow u.2.1 u.2.2 46 zG r.1.Steps]) := by
 unfold F_plot_scaled at H
 have leB := Bs.Le.refl w
 refine Tr.enter (n := 15) Tryz.func23 rfl rfl rfl hE ?_
 refine Tr.sr ?_
 refine Tr.box 1 (cs := [(iv p0.Unit), (.slice Ap0_0 (p0.Tools).length cp0_0), (.slice Ap0_1 (p0.Steps).length cp0_1)]) (wn rfl) rfl rfl rfl fun b100 => ?_
 refine Tr.box 2 (cs := [(iv p1)]) (wn rfl) rfl rfl rfl fun b101 => ?_
 refine Tr.alloc 3 (wn rfl) rfl ze_25 fun b102 => ?_
 refine Tr.asg rfl rfl ?_
 refine Tr.nil (Tr.zA ?_)
 refine Tr.sr ?_
 refine Tr.alloc 4 (wn rfl) rfl ze_4 fun b103 => ?_
 refine Tr.store 4 (cs := [(.bool true)]) [(.bool true)] (wn rfl) rfl rfl rfl rfl sz_4 rfl rfl rfl ?_
 refine Tr.nil (Tr.zA ?_)
 refine Tr.sr ?_
 refine Tr.va rfl (fun _ _ h1 h2 => zR (cs := [(iv p0.Unit), (.slice Ap0_0 (p0.Tools).length cp0_0), (.slice Ap0_1 (p0.Steps).length cp0_1)]) ag_25 sz_25 (h1.ev rfl) (zL.take (rdb h2 (vs := [(iv p0.Unit), (.slice Ap0_0 (p0.Tools).length cp0_0), (.slice Ap0_1 (p0.Steps).length cp0_1)]) (k := 1) rfl 0) 3) rfl) ?_
 refine Tr.mkFunc (vs := [(.pointer (some ⟨b103, 0, none⟩)), (.pointer (some ⟨b100, 0, none⟩)), (.pointer (some ⟨b101, 0, none⟩))]) (wn rfl) rfl (zF rfl (zF rfl (zF rfl zO))) ?_
 obtain ⟨y104, hy104, H⟩ := bnd H
 refine Tr.callG [4, 5, 6] [bx b103 #[(.bool true)] 4, emp, emp] (U := (Option Addr × Nat) × (Option Addr × Nat)) (fun u => (.agg #[(iv y104.1.Unit), (.slice u.1.1 (y104.1.Tools).length u.1.2), (.slice u.2.1 (y104.1.Steps).length u.2.2)])) (fun O W u => SlF u.1.1 (y104.1.Tools).length u.1.2 ∧ SlF u.2.1 (y104.1.Steps).length u.2.2) (fun u => [bx b103 #[(.bool y104.2)] 4, ow u.1.1 u.1.2 64 zK y104.1.Tools, ow u.2.1 u.2.2 46 zG y104.1.Steps]) rfl (zM rfl (zM rfl (zM rfl zY))) (fun _ => rfl) (wn rfl) rfl Tryz.call38 (zF rfl (zF rfl zO)) (fun W hW hp hE => F_plot_changed__scaled_1_ok N p0 Ap0_0 cp0_0 (hp0_0.extO (hW.extS hp)) Ap0_1 cp0_1 (hp0_1.extO (hW.extS hp)) true b103 p0 Ap0_0 cp0_0 (hp0_0.rl.ext (hW.extS hp)) Ap0_1 cp0_1 (hp0_1.rl.ext (hW.extS hp)) b100 (hW.boxS (k := 1) rfl hp rfl) (hW.boxC (k := 1) rfl) p1 b101 (hW.boxS (k := 2) rfl hp rfl) (hW.boxC (k := 2) rfl) y104 hy104 hE) ?_
 intro w u le105 hu
 obtain ⟨⟨Ay104_0, cy104_0⟩, ⟨Ay104_1, cy104_1⟩⟩ := u
 obtain ⟨gy104_0, gy104_1⟩ := hu
 replace hp0_0 := hp0_0.le le105
 replace hp0_1 := hp0_1.le le105
 replace leB := leB.trans le105
 have hgy104_0 : SlF Ay104_0 (y104.1.Tools).length cy104_0 := gy104_0 --@phi
 have hgy104_1 : SlF Ay104_1 (y104.1.Steps).length cy104_1 := gy104_1 --@phi
 show Tr _ _ (uf _ 10 (.agg #[(iv y104.1.Unit), (.slice Ay104_0 (y104.1.Tools).length cy104_0), (.slice Ay104_1 (y104.1.Steps).length cy104_1)])) (up (up (up _ 6 (ow Ay104_1 cy104_1 46 zG y104.1.Steps)) 5 (ow Ay104_0 cy104_0 64 zK y104.1.Tools)) 4 (bx b103 #[(.bool y104.2)] 4)) _
 refine Tr.alloc 7 (wn rfl) rfl ze_25 fun b106 => ?_
 refine Tr.store 7 (cs := [(iv y104.1.Unit), (.slice Ay104_0 (y104.1.Tools).length cy104_0), (.slice Ay104_1 (y104.1.Steps).length cy104_1)]) [(iv y104.1.Unit), (.slice Ay104_0 (y104.1.Tools).length cy104_0), (.slice Ay104_1 (y104.1.Steps).length cy104_1)] (wn rfl) rfl rfl rfl rfl sz_25 rfl rfl rfl ?_
 refine Tr.nil (Tr.zA ?_)
 refine Tr.sr ?_
 refine Tr.va rfl (fun _ _ h1 h2 => zC ag_3 (h1.ev rfl) (rdb h2 (vs := [(iv p1)]) (k := 2) rfl 0) rfl) ?_
 refine Tr.va rfl (fun _ _ h1 h2 => zB fo_25_0 (h1.ev rfl)) ?_
 refine Tr.store 7 (cs := [(iv p1)]) [(iv p1), (.slice Ay104_0 (y104.1.Tools).length cy104_0), (.slice Ay104_1 (y104.1.Steps).length cy104_1)] (wn rfl) rfl rfl rfl rfl sz_3 rfl rfl rfl ?_
 refine Tr.nil (Tr.zA ?_)
 refine Tr.seq ?_
 refine Tr.drawC 3 [(2, fun x => x = b102)] [] (by kernel_rfl) (by kernel_rfl) fun sz107 hlosz107 hEsz107 => ?_
 refine Dr.quiet 0 [(13, (.agg #[(iv p1), (.slice Ay104_0 (y104.1.Tools).length cy104_0), (.slice Ay104_1 (y104.1.Steps).length cy104_1)]))] (by kernel_rfl) rfl rfl (by kernel_rfl) ?_ rfl rfl ?_
 ·refine Tq.va rfl (fun _ _ h1 h2 => zR (cs := [(iv p1), (.slice Ay104_0 (y104.1.Tools).length cy104_0), (.slice Ay104_1 (y104.1.Steps).length cy104_1)]) ag_25 sz_25 (h1.ev rfl) (zL.take (rdb h2 (vs := [(iv p1), (.slice Ay104_0 (y104.1.Tools).length cy104_0), (.slice Ay104_1 (y104.1.Steps).length cy104_1)]) (k := 7) rfl 0) 3) rfl) ?_
  exact Tq.fin (.cons rfl .nil)
 refine Dr.quietZ 1 [(14, (.bool y104.2))] [2] false (by kernel_rfl) rfl rfl (by kernel_rfl) (fun W W' h2 hsW hk => HF.keepZ (le := [(4, bx b103 #[(.bool y104.2)] 4)]) (ks := [(3, fun x => x = b102)]) (s0 := sz107) false h2 hk (fun h => absurd h (by decide)) (.cons rfl .nil) (fun b hb => hb.elim (fun ⟨p, hp, hf, hb⟩ => by simp only [List.mem_cons, List.not_mem_nil, or_false] at hp; rcases hp with rfl; exact .inl ⟨_, List.mem_cons_self, hb⟩) (fun hb => absurd hb.1 (by decide))) (List.forall_mem_cons.2 ⟨fun b hb => hb, (fun _ h => nomatch h)⟩) rfl) ?_ rfl rfl ?_
 ·refine Tq.va rfl (fun _ _ h1 h2 => zC ag_4 (h1.ev rfl) (rdb h2 (vs := [(.bool y104.2)]) (k := 4) rfl 0) rfl) ?_
  exact Tq.fin (.cons rfl .nil)
 refine Dr.one 2 (by kernel_rfl) ?_
 refine St.store 2 3 (cs := [(iv p1), (.slice Ay104_0 (y104.1.Tools).length cy104_0), (.slice Ay104_1 (y104.1.Steps).length cy104_1)]) [(iv p1), (.slice Ay104_0 (y104.1.Tools).length cy104_0), (.slice Ay104_1 (y104.1.Steps).length cy104_1)] rfl (wn rfl) (.inl ⟨_, List.mem_cons_self, rfl, rfl⟩) rfl rfl rfl rfl sz_25 rfl rfl rfl ?_
 refine Dr.tail (by kernel_rfl) ?_
 refine Tr.asg rfl rfl ?_
 refine Tr.nil (Tr.zA ?_)
 refine Tr.ret ?_
 obtain rfl := Option.some.inj H
 exact Tr.out (m := [(.agg #[(iv p1), (.slice Ay104_0 (y104.1.Tools).length cy104_0), (.slice Ay104_1 (y104.1.Steps).length cy104_1)]), (.bool y104.2)]) [3] (res_cell rfl rfl ag_25 sz_25 (zP rfl zQ)) (fun W hW => ⟨w, ((Ay104_0, cy104_0), (Ay104_1, cy104_1)), leB, rfl, ⟨hgy104_0, hgy104_1⟩, hW.pick (ks := [5, 6]) (by decide) (zM rfl (zM rfl zY))⟩)

theorem F_plot_told_ok (N : Nat) {w : Bs} (p0 : zt) (Ap0_0 : Option Addr) (cp0_0 : Nat) (hp0_0 : Sl w.O w.W zK Ap0_0 cp0_0 p0.Tools) (Ap0_1 : Option Addr) (cp0_1 : Nat) (hp0_1 : Sl w.O w.W zG Ap0_1 cp0_1 p0.Steps) (r : (zt × Int)) (H : F_plot_told N p0 = some r) (hE : HF w w.W (LEn [])) : Calls Tryz.prog 24 [(.agg #[(iv p0.Unit), (.slice Ap0_0 (p0.Tools).length cp0_0), (.slice Ap0_1 (p0.Steps).length cp0_1)])].toArray w.W fun e W' => ∃ (w' : Bs) (u : (Option Addr × Nat) × (Option Addr × Nat)), w.Le w' ∧ e = .returned (.tuple #[(.agg #[(iv r.1.Unit), (.slice u.1.1 (r.1.Tools).length u.1.2), (.slice u.2.1 (r.1.Steps).length u.2.2)]), (iv r.2)]) ∧ (Sl w'.O w'.W zK u.1.1 u.1.2 r.1.Tools ∧ Sl w'.O w'.W zG u.2.1 u.2.2 r.1.Steps) ∧ HF w' W' (LEn []) := by
 unfold F_plot_told at H
 have leB := Bs.Le.refl w
 refine Tr.enter (n := 12) Tryz.func24 rfl rfl rfl hE ?_
 refine Tr.sr ?_
 refine Tr.box 1 (cs := [(iv p0.Unit), (.slice Ap0_0 (p0.Tools).length cp0_0), (.slice Ap0_1 (p0.Steps).length cp0_1)]) (wn rfl) rfl rfl rfl fun b100 => ?_
 refine Tr.alloc 2 (wn rfl) rfl ze_25 fun b101 => ?_
 refine Tr.asg rfl rfl ?_
 refine Tr.nil (Tr.zA ?_)
 refine Tr.seq ?_
 refine Tr.sr ?_
 refine Tr.va rfl (fun _ _ h1 h2 => zR (cs := [(iv p0.Unit), (.slice Ap0_0 (p0.Tools).length cp0_0), (.slice Ap0_1 (p0.Steps).length cp0_1)]) ag_25 sz_25 (h1.ev rfl) (zL.take (rdb h2 (vs := [(iv p0.Unit), (.slice Ap0_0 (p0.Tools).length cp0_0), (.slice Ap0_1 (p0.Steps).length cp0_1)]) (k := 1) rfl 0) 3) rfl) ?_
 obtain ⟨y102, hy102, H⟩ := bnd H
 refine Tr.call0 (r := (iv y102)) (wn rfl) rfl Tryz.call21 (zF rfl zO) (fun W hW => F_plot_CheckPlot_ok N p0 Ap0_0 cp0_0 (hp0_0.rl.ext hW.extAll) Ap0_1 cp0_1 (hp0_1.rl.ext hW.extAll) y102 hy102 (HF.start _)) ?_
 refine Tr.asg rfl rfl ?_
 refine Tr.nil (Tr.zA ?_)
 refine Tr.sr ?_
 refine Tr.mv rfl rfl ?_
 refine Tr.va rfl (fun _ _ h1 h2 => run_neq (h1.ev rfl) (h1.ev rfl)) ?_
 refine Tr.nil (Tr.zA ?_)
 refine Tr.cond rfl H (fun H => ?_) (fun H => ?_)
 ·refine Tr.sr ?_
  refine Tr.build (vs := []) (cs := [(iv 0), (.slice none 0 0), (.slice none 0 0)]) (wn rfl) rfl evs_nil (by kernel_rfl) ?_
  refine Tr.mv rfl rfl ?_
  refine Tr.store 2 (cs := [(iv 0), (.slice none 0 0), (.slice none 0 0)]) [(iv 0), (.slice none 0 0), (.slice none 0 0)] (wn rfl) rfl rfl rfl rfl sz_25 rfl rfl rfl ?_
  refine Tr.asg rfl rfl ?_
  refine Tr.nil (Tr.zA ?_)
  refine Tr.ret (Tr.zU ?_)
  obtain rfl := Option.some.inj H
  exact Tr.out (m := [(.agg #[(iv 0), (.slice none 0 0), (.slice none 0 0)]), (iv y102)]) [2] (res_cell rfl rfl ag_25 sz_25 (zP rfl zQ)) (fun W hW => ⟨w, ((none, 0), (none, 0)), leB, rfl, ⟨(Sl.nil _ _ _), (Sl.nil _ _ _)⟩, hW.pick (ks := []) (by decide) zY⟩)
 ·refine Tr.skip (Tr.zA ?_)
  refine Tr.sr ?_
  refine Tr.va rfl (fun _ _ h1 h2 => zR (cs := [(iv p0.Unit), (.slice Ap0_0 (p0.Tools).length cp0_0), (.slice Ap0_1 (p0.Steps).length cp0_1)]) ag_25 sz_25 (h1.ev rfl) (zL.take (rdb h2 (vs := [(iv p0.Unit), (.slice Ap0_0 (p0.Tools).length cp0_0), (.slice Ap0_1 (p0.Steps).length cp0_1)]) (k := 1) rfl 0) 3) rfl) ?_
  refine Tr.store 2 (cs := [(iv p0.Unit), (.slice Ap0_0 (p0.Tools).length cp0_0), (.slice Ap0_1 (p0.Steps).length cp0_1)]) [(iv p0.Unit), (.slice Ap0_0 (p0.Tools).length cp0_0), (.slice Ap0_1 (p0.Steps).length cp0_1)] (wn rfl) rfl rfl rfl rfl sz_25 rfl rfl rfl ?_
  refine Tr.asg rfl rfl ?_
  refine Tr.nil (Tr.zA ?_)
  refine Tr.ret ?_
  obtain rfl := Option.some.inj H
  exact Tr.out (m := [(.agg #[(iv p0.Unit), (.slice Ap0_0 (p0.Tools).length cp0_0), (.slice Ap0_1 (p0.Steps).length cp0_1)]), (iv 0)]) [2] (res_cell rfl rfl ag_25 sz_25 (zP rfl zQ)) (fun W hW => ⟨w, ((Ap0_0, cp0_0), (Ap0_1, cp0_1)), leB, rfl, ⟨hp0_0, hp0_1⟩, hW.pick (ks := []) (by decide) zY⟩)

theorem F_plot_Scaled_ok (N : Nat) {w : Bs} (p0 : zt) (Ap0_0 : Option Addr) (cp0_0 : Nat) (hp0_0 : Sl w.O w.W zK Ap0_0 cp0_0 p0.Tools) (Ap0_1 : Option Addr) (cp0_1 : Nat) (hp0_1 : Sl w.O w.W zG Ap0_1 cp0_1 p0.Steps) (p1 : Int) (r : (zt × Bool × Int)) (H : F_plot_Scaled N p0 p1 = some r) (hE : HF w w.W (LEn [])) : Calls Tryz.prog 7 [(.agg #[(iv p0.Unit), (.slice Ap0_0 (p0.Tools).length cp0_0), (.slice Ap0_1 (p0.Steps).length cp0_1)]), (iv p1)].toArray w.W fun e W' => ∃ (w' : Bs) (u : (Option Addr × Nat) × (Option Addr × Nat)), w.Le w' ∧ e = .returned (.tuple #[(.agg #[(iv r.1.Unit), (.slice u.1.1 (r.1.Tools).length u.1.2), (.slice u.2.1 (r.1.Steps).length u.2.2)]), (.bool r.2.1), (iv r.2.2)]) ∧ (Sl w'.O w'.W zK u.1.1 u.1.2 r.1.Tools ∧ Sl w'.O w'.W zG u.2.1 u.2.2 r.1.Steps) ∧ HF w' W' (LEn []) := by
 unfold F_plot_Scaled at H
 have leB := Bs.Le.refl w
 refine Tr.enter (n := 39) Tryz.func7 rfl rfl rfl hE ?_
 refine Tr.sr ?_
 refine Tr.box 1 (cs := [(iv p0.Unit), (.slice Ap0_0 (p0.Tools).length cp0_0), (.slice Ap0_1 (p0.Steps).length cp0_1)]) (wn rfl) rfl rfl rfl fun b100 => ?_
 refine Tr.alloc 2 (wn rfl) rfl ze_25 fun b101 => ?_
 refine Tr.asg rfl rfl ?_
 refine Tr.asg rfl rfl ?_
 refine Tr.nil (Tr.zA ?_)
 refine Tr.seq ?_
 refine Tr.sr ?_
 refine Tr.va rfl (fun _ _ h1 h2 => zR (cs := [(iv p0.Unit), (.slice Ap0_0 (p0.Tools).length cp0_0), (.slice Ap0_1 (p0.Steps).length cp0_1)]) ag_25 sz_25 (h1.ev rfl) (zL.take (rdb h2 (vs := [(iv p0.Unit), (.slice Ap0_0 (p0.Tools).length cp0_0), (.slice Ap0_1 (p0.Steps).length cp0_1)]) (k := 1) rfl 0) 3) rfl) ?_
 obtain ⟨y102, hy102, H⟩ := bnd H
 refine Tr.call0 (r := (iv y102)) (wn rfl) rfl Tryz.call21 (zF rfl zO) (fun W hW => F_plot_CheckPlot_ok N p0 Ap0_0 cp0_0 (hp0_0.rl.ext hW.extAll) Ap0_1 cp0_1 (hp0_1.rl.ext hW.extAll) y102 hy102 (HF.start _)) ?_
 refine Tr.asg rfl rfl ?_
 refine Tr.nil (Tr.zA ?_)
 refine Tr.sr ?_
 refine Tr.mv rfl rfl ?_
 refine Tr.va rfl (fun _ _ h1 h2 => run_neq (h1.ev rfl) (h1.ev rfl)) ?_
 refine Tr.nil (Tr.zA ?_)
 refine Tr.cond rfl H (fun H => ?_) (fun H => ?_)
 ·refine Tr.sr ?_
  refine Tr.build (vs := []) (cs := [(iv 0), (.slice none 0 0), (.slice none 0 0)]) (wn rfl) rfl evs_nil (by kernel_rfl) ?_
  refine Tr.mv rfl rfl ?_
  refine Tr.store 2 (cs := [(iv 0), (.slice none 0 0), (.slice none 0 0)]) [(iv 0), (.slice none 0 0), (.slice none 0 0)] (wn rfl) rfl rfl rfl rfl sz_25 rfl rfl rfl ?_
  refine Tr.asg rfl rfl ?_
  refine Tr.asg rfl rfl ?_
  refine Tr.nil (Tr.zA ?_)
  refine Tr.ret (Tr.zU ?_)
  obtain rfl := Option.some.inj H
  exact Tr.out (m := [(.agg #[(iv 0), (.slice none 0 0), (.slice none 0 0)]), (.bool false), (iv y102)]) [2] (res_cell rfl rfl ag_25 sz_25 (zP rfl (zP rfl zQ))) (fun W hW => ⟨w, ((none, 0), (none, 0)), leB, rfl, ⟨(Sl.nil _ _ _), (Sl.nil _ _ _)⟩, hW.pick (ks := []) (by decide) zY⟩)
 ·refine Tr.skip (Tr.zA ?_)
  refine Tr.seq ?_
  refine Tr.sr ?_
  refine Tr.mv rfl rfl ?_
  obtain ⟨y103, hy103, H⟩ := bnd H
  refine Tr.call0 (r := (.bool y103)) (wn rfl) rfl Tryz.call22 (zF rfl (zF rfl (zF rfl zO))) (fun W hW => F_plot_within_ok p1 1 1000 y103 hy103 (HF.start _)) ?_
  refine Tr.va rfl (fun _ _ h1 h2 => run_not (h1.ev rfl)) ?_
  refine Tr.nil (Tr.zA ?_)
  refine Tr.cond rfl H (fun H => ?_) (fun H => ?_)
  ·refine Tr.sr ?_
   refine Tr.build (vs := []) (cs := [(iv 0), (.slice none 0 0), (.slice none 0 0)]) (wn rfl) rfl evs_nil (by kernel_rfl) ?_
   refine Tr.store 2 (cs := [(iv 0), (.slice none 0 0), (.slice none 0 0)]) [(iv 0), (.slice none 0 0), (.slice none 0 0)] (wn rfl) rfl rfl rfl rfl sz_25 rfl rfl rfl ?_
   refine Tr.asg rfl rfl ?_
   refine Tr.asg rfl rfl ?_
   refine Tr.nil (Tr.zA ?_)
   refine Tr.ret (Tr.zU ?_)
   obtain rfl := Option.some.inj H
   exact Tr.out (m := [(.agg #[(iv 0), (.slice none 0 0), (.slice none 0 0)]), (.bool false), (iv 1)]) [2] (res_cell rfl rfl ag_25 sz_25 (zP rfl (zP rfl zQ))) (fun W hW => ⟨w, ((none, 0), (none, 0)), leB, rfl, ⟨(Sl.nil _ _ _), (Sl.nil _ _ _)⟩, hW.pick (ks := []) (by decide) zY⟩)
  ·refine Tr.skip (Tr.zA ?_)
   refine Tr.sr ?_
   refine Tr.va rfl (fun _ _ h1 h2 => zR (cs := [(iv p0.Unit), (.slice Ap0_0 (p0.Tools).length cp0_0), (.slice Ap0_1 (p0.Steps).length cp0_1)]) ag_25 sz_25 (h1.ev rfl) (zL.take (rdb h2 (vs := [(iv p0.Unit), (.slice Ap0_0 (p0.Tools).length cp0_0), (.slice Ap0_1 (p0.Steps).length cp0_1)]) (k := 1) rfl 0) 3) rfl) ?_
   refine Tr.mv rfl rfl ?_
   obtain ⟨y104, hy104, H⟩ := bnd H
   refine Tr.callG [3, 4] [emp, emp] (U := (Option Addr × Nat) × (Option Addr × Nat)) (fun u => (.tuple #[(.agg #[(iv y104.1.Unit), (.slice u.1.1 (y104.1.Tools).length u.1.2), (.slice u.2.1 (y104.1.Steps).length u.2.2)]), (.bool y104.2)])) (fun O W u => SlF u.1.1 (y104.1.Tools).length u.1.2 ∧ SlF u.2.1 (y104.1.Steps).length u.2.2) (fun u => [ow u.1.1 u.1.2 64 zK y104.1.Tools, ow u.2.1 u.2.2 46 zG y104.1.Steps]) rfl (zM rfl (zM rfl zY)) (fun _ => rfl) (wn rfl) rfl Tryz.call23 (zF rfl (zF rfl zO)) (fun W hW hp hE => F_plot_scaled_ok N p0 Ap0_0 cp0_0 (hp0_0.extO (hW.extS hp)) Ap0_1 cp0_1 (hp0_1.extO (hW.extS hp)) p1 y104 hy104 hE) ?_
   intro w u le105 hu
   obtain ⟨⟨Ay104_0, cy104_0⟩, ⟨Ay104_1, cy104_1⟩⟩ := u
   obtain ⟨gy104_0, gy104_1⟩ := hu
   replace hp0_0 := hp0_0.le le105
   replace hp0_1 := hp0_1.le le105
   replace leB := leB.trans le105
   have hgy104_0 : SlF Ay104_0 (y104.1.Tools).length cy104_0 := gy104_0 --@phi
   have hgy104_1 : SlF Ay104_1 (y104.1.Steps).length cy104_1 := gy104_1 --@phi
   show Tr _ _ (uf _ 24 (.tuple #[(.agg #[(iv y104.1.Unit), (.slice Ay104_0 (y104.1.Tools).length cy104_0), (.slice Ay104_1 (y104.1.Steps).length cy104_1)]), (.bool y104.2)])) (up (up _ 4 (ow Ay104_1 cy104_1 46 zG y104.1.Steps)) 3 (ow Ay104_0 cy104_0 64 zK y104.1.Tools)) _
   refine Tr.mv rfl rfl ?_
   refine Tr.va rfl (fun _ _ h1 h2 => run_extract (h1.ev rfl) rfl) ?_
   refine Tr.va rfl (fun _ _ h1 h2 => run_extract (h1.ev rfl) rfl) ?_
   refine Tr.alloc 5 (wn rfl) rfl ze_25 fun b106 => ?_
   refine Tr.store 5 (cs := [(iv y104.1.Unit), (.slice Ay104_0 (y104.1.Tools).length cy104_0), (.slice Ay104_1 (y104.1.Steps).length cy104_1)]) [(iv y104.1.Unit), (.slice Ay104_0 (y104.1.Tools).length cy104_0), (.slice Ay104_1 (y104.1.Steps).length cy104_1)] (wn rfl) rfl rfl rfl rfl sz_25 rfl rfl rfl ?_
   refine Tr.asg rfl rfl ?_
   refine Tr.nil (Tr.zA ?_)
   refine Tr.seq ?_
   refine Tr.sr ?_
   refine Tr.mv rfl rfl ?_
   refine Tr.va rfl (fun _ _ h1 h2 => run_not (h1.ev rfl)) ?_
   refine Tr.nil (Tr.zA ?_)
   refine Tr.cond rfl H (fun H => ?_) (fun H => ?_)
   ·refine Tr.sr ?_
    refine Tr.build (vs := []) (cs := [(iv 0), (.slice none 0 0), (.slice none 0 0)]) (wn rfl) rfl evs_nil (by kernel_rfl) ?_
    refine Tr.store 2 (cs := [(iv 0), (.slice none 0 0), (.slice none 0 0)]) [(iv 0), (.slice none 0 0), (.slice none 0 0)] (wn rfl) rfl rfl rfl rfl sz_25 rfl rfl rfl ?_
    refine Tr.asg rfl rfl ?_
    refine Tr.asg rfl rfl ?_
    refine Tr.nil (Tr.zA ?_)
    refine Tr.ret (Tr.zU ?_)
    obtain rfl := Option.some.inj H
    exact Tr.out (m := [(.agg #[(iv 0), (.slice none 0 0), (.slice none 0 0)]), (.bool false), (iv 0)]) [2] (res_cell rfl rfl ag_25 sz_25 (zP rfl (zP rfl zQ))) (fun W hW => ⟨w, ((none, 0), (none, 0)), leB, rfl, ⟨(Sl.nil _ _ _), (Sl.nil _ _ _)⟩, hW.pick (ks := []) (by decide) zY⟩)
   ·refine Tr.skip (Tr.zA ?_)
    refine Tr.sr ?_
    refine Tr.va rfl (fun _ _ h1 h2 => zR (cs := [(iv y104.1.Unit), (.slice Ay104_0 (y104.1.Tools).length cy104_0), (.slice Ay104_1 (y104.1.Steps).length cy104_1)]) ag_25 sz_25 (h1.ev rfl) (zL.take (rdb h2 (vs := [(iv y104.1.Unit), (.slice Ay104_0 (y104.1.Tools).length cy104_0), (.slice Ay104_1 (y104.1.Steps).length cy104_1)]) (k := 5) rfl 0) 3) rfl) ?_
    refine Tr.freeze 3 rfl fun w le108 hz107 => ?_
    replace hp0_0 := hp0_0.le le108
    replace hp0_1 := hp0_1.le le108
    replace leB := leB.trans le108
    refine Tr.freeze 4 rfl fun w le110 hz109 => ?_
    replace hp0_0 := hp0_0.le le110
    replace hp0_1 := hp0_1.le le110
    replace hz107 := hz107.le le110
    replace leB := leB.trans le110
    obtain ⟨y111, hy111, H⟩ := bnd H
    refine Tr.callG [] [] (U := (Option Addr × Nat) × (Option Addr × Nat)) (fun u => (.tuple #[(.agg #[(iv y111.1.Unit), (.slice u.1.1 (y111.1.Tools).length u.1.2), (.slice u.2.1 (y111.1.Steps).length u.2.2)]), (iv y111.2)])) (fun O W u => Sl O W zK u.1.1 u.1.2 y111.1.Tools ∧ Sl O W zG u.2.1 u.2.2 y111.1.Steps) (fun u => []) rfl zY (fun _ => rfl) (wn rfl) rfl Tryz.call24 (zF rfl zO) (fun W hW hp hE => F_plot_told_ok N y104.1 Ay104_0 cy104_0 (hz107.extO (hW.extS hp)) Ay104_1 cy104_1 (hz109.extO (hW.extS hp)) y111 hy111 hE) ?_
    intro w u le112 hu
    obtain ⟨⟨Ay111_0, cy111_0⟩, ⟨Ay111_1, cy111_1⟩⟩ := u
    obtain ⟨gy111_0, gy111_1⟩ := hu
    replace hp0_0 := hp0_0.le le112
    replace hp0_1 := hp0_1.le le112
    replace hz107 := hz107.le le112
    replace hz109 := hz109.le le112
    replace leB := leB.trans le112
    have hgy111_0 : Sl w.O w.W zK Ay111_0 cy111_0 y111.1.Tools := gy111_0 --@phi
    have hgy111_1 : Sl w.O w.W zG Ay111_1 cy111_1 y111.1.Steps := gy111_1 --@phi
    show Tr _ _ (uf _ 32 (.tuple #[(.agg #[(iv y111.1.Unit), (.slice Ay111_0 (y111.1.Tools).length cy111_0), (.slice Ay111_1 (y111.1.Steps).length cy111_1)]), (iv y111.2)])) (_) _
    refine Tr.mv rfl rfl ?_
    refine Tr.va rfl (fun _ _ h1 h2 => run_extract (h1.ev rfl) rfl) ?_
    refine Tr.va rfl (fun _ _ h1 h2 => run_extract (h1.ev rfl) rfl) ?_
    refine Tr.store 5 (cs := [(iv y111.1.Unit), (.slice Ay111_0 (y111.1.Tools).length cy111_0), (.slice Ay111_1 (y111.1.Steps).length cy111_1)]) [(iv y111.1.Unit), (.slice Ay111_0 (y111.1.Tools).length cy111_0), (.slice Ay111_1 (y111.1.Steps).length cy111_1)] (wn rfl) rfl rfl rfl rfl sz_25 rfl rfl rfl ?_
    refine Tr.asg rfl rfl ?_
    refine Tr.nil (Tr.zA ?_)
    refine Tr.sr ?_
    refine Tr.va rfl (fun _ _ h1 h2 => zR (cs := [(iv y111.1.Unit), (.slice Ay111_0 (y111.1.Tools).length cy111_0), (.slice Ay111_1 (y111.1.Steps).length cy111_1)]) ag_25 sz_25 (h1.ev rfl) (zL.take (rdb h2 (vs := [(iv y111.1.Unit), (.slice Ay111_0 (y111.1.Tools).length cy111_0), (.slice Ay111_1 (y111.1.Steps).length cy111_1)]) (k := 5) rfl 0) 3) rfl) ?_
    refine Tr.mv rfl rfl ?_
    refine Tr.va rfl (fun _ _ h1 h2 => run_eql (h1.ev rfl) (h1.ev rfl)) ?_
    refine Tr.mv rfl rfl ?_
    refine Tr.store 2 (cs := [(iv y111.1.Unit), (.slice Ay111_0 (y111.1.Tools).length cy111_0), (.slice Ay111_1 (y111.1.Steps).length cy111_1)]) [(iv y111.1.Unit), (.slice Ay111_0 (y111.1.Tools).length cy111_0), (.slice Ay111_1 (y111.1.Steps).length cy111_1)] (wn rfl) rfl rfl rfl rfl sz_25 rfl rfl rfl ?_
    refine Tr.asg rfl rfl ?_
    refine Tr.asg rfl rfl ?_
    refine Tr.nil (Tr.zA ?_)
    refine Tr.ret ?_
    obtain rfl := Option.some.inj H
    exact Tr.out (m := [(.agg #[(iv y111.1.Unit), (.slice Ay111_0 (y111.1.Tools).length cy111_0), (.slice Ay111_1 (y111.1.Steps).length cy111_1)]), (.bool (y111.2 == 0)), (iv y111.2)]) [2] (res_cell rfl rfl ag_25 sz_25 (zP rfl (zP rfl zQ))) (fun W hW => ⟨w, ((Ay111_0, cy111_0), (Ay111_1, cy111_1)), leB, rfl, ⟨hgy111_0, hgy111_1⟩, hW.pick (ks := []) (by decide) zY⟩)

theorem F_strconv_Itoa_ok {w : Bs} (p0 : Int) (r : ByteArray) (H : itoaS p0 = some r) (hE : HF w w.W E0) : Calls Tryz.prog 46 [(iv p0)].toArray w.W fun e W' => e = .returned (sv r) ∧ HF w W' E0 :=
 itoaS_rule (ρ := Tryz.itoa46_ren) Tryz.itoa46 H hE

end Go.Proofs.YtoageaoknnnfbaaGreatDoor
namespace Go.Proofs
open Go.Shelf
def Tryz.bld45_ren : Go.Shelf.Ren := ⟨fun | 166 => 45 | 240 => 75 | 276 => 101 | n => n, fun | 5 => 5 | 37 => 93 | 70 => 92 | 72 => 95 | 75 => 97 | 80 => 104 | 164 => 157 | n => n, fun n => n⟩
theorem Tryz.bld45 : Go.Proofs.Lays.n166 Tryz.prog Tryz.bld45_ren := {
 mixed := by kernel_rfl
 f166 := Tryz.func45.trans (congrArg some (by kernel_rfl))
 f240 := Tryz.func75.trans (congrArg some (by kernel_rfl))
 f276 := Tryz.func101.trans (congrArg some (by kernel_rfl))
 t0 := Tryz.underlying0
 a0 := Tryz.isAgg0
 z0 := Tryz.sizeOf0
 v0 := Tryz.zeroValue0
 t3 := Tryz.underlying3
 a3 := Tryz.isAgg3
 z3 := Tryz.sizeOf3
 v3 := Tryz.zeroValue3
 t4 := Tryz.underlying4
 a4 := Tryz.isAgg4
 z4 := Tryz.sizeOf4
 v4 := Tryz.zeroValue4
 t9 := Tryz.underlying9
 a9 := Tryz.isAgg9
 z9 := Tryz.sizeOf9
 v9 := Tryz.zeroValue9
 t20 := Tryz.underlying20
 a20 := Tryz.isAgg20
 z20 := Tryz.sizeOf20
 v20 := Tryz.zeroValue20
 t37 := Tryz.underlying93
 a37 := Tryz.isAgg93
 z37 := Tryz.sizeOf93
 v37 := Tryz.zeroValue93
 t70 := Tryz.underlying92
 a70 := Tryz.isAgg92
 z70 := Tryz.sizeOf92
 v70 := Tryz.zeroValue92
 t72 := Tryz.underlying95
 a72 := Tryz.isAgg95
 z72 := Tryz.sizeOf95
 v72 := Tryz.zeroValue95
 t75 := Tryz.underlying97
 a75 := Tryz.isAgg97
 z75 := Tryz.sizeOf97
 v75 := Tryz.zeroValue97
 t164 := Tryz.underlying157
 a164 := Tryz.isAgg157
 z164 := Tryz.sizeOf157
 v164 := Tryz.zeroValue157
}
end Go.Proofs
namespace Go.Proofs.YtoageaoknnnfbaaGreatDoor
open Go.RowKit
theorem bX45 : Builder.Extra Tryz.prog Tryz.bld45_ren where
 sizeBuilder := by kernel_rfl
 liesBuilder := by kernel_rfl
 t5 := Tryz.underlying5
 a5 := Tryz.isAgg5
 z5 := Tryz.sizeOf5
 v5 := Tryz.zeroValue5
 infoByte := by kernel_rfl
 cellsByte := by kernel_rfl
 sizeByte := by kernel_rfl
 neB5 := by decide
theorem zg {w : Bs} (p0 : ByteArray) (Ap0_0 : Option Addr) (cp0_0 : Nat) (bp0 : Nat) (p1 : ByteArray) (r : ByteArray) (H : sbW p0 p1 = some r) (hE : HF w w.W (LEn [sb 95 5 bp0 Ap0_0 cp0_0 p0])) : Calls Tryz.prog 45 [(.pointer (some ⟨bp0, 0, none⟩)), .string p1].toArray w.W fun e W' => ∃ u : (Option Addr × Nat), e = .returned (.tuple #[.int .i64 p1.size, .nilIface]) ∧ (True) ∧ HF w W' (LEn [sb 95 5 bp0 u.1 u.2 r]) :=
 sb_write (ρ := Tryz.bld45_ren) Tryz.bld45 bX45 H hE

theorem F_plot_points_ok {w : Bs} (p0 : (List zI)) (Ap0_0 : Option Addr) (cp0_0 : Nat) (hp0_0 : Sl w.R w.W zy Ap0_0 cp0_0 p0) (r : ByteArray) (H : F_plot_points p0 = some r) (hE : HF w w.W E0) : Calls Tryz.prog 47 [(.slice Ap0_0 (p0).length cp0_0)].toArray w.W fun e W' => e = .returned (sv r) ∧ HF w W' E0 := by
 unfold F_plot_points at H
 have leB := Bs.Le.refl w
 refine Tr.enter (n := 25) Tryz.func47 rfl rfl rfl hE ?_
 refine Tr.sr ?_
 refine Tr.asg rfl rfl ?_
 refine Tr.nil (Tr.zA ?_)
 refine Tr.sr ?_
 refine Tr.asg rfl rfl ?_
 refine Tr.nil (Tr.zA ?_)
 refine Tr.seq ?_
 refine Tr.sr ?_
 refine Tr.mv rfl rfl ?_
 refine Tr.va rfl (fun _ _ h1 h2 => zq un_44 (h1.ev rfl)) ?_
 refine Tr.mv rfl rfl ?_
 refine Tr.nil (Tr.zA ?_)
 refine Tr.block ?_
 refine Tr.loop (σ := (List zI) × Nat × ByteArray) (fun m w s => m = s.1.length + 1 ∧ s.1 = List.drop s.2.1 p0 ∧ s.2.1 ≤ p0.length ∧ F_plot_points_L1 s.1 s.2.1 s.2.2 = some r) (fun s => [(3, (sv s.2.2)), (6, (.slice Ap0_0 (p0).length cp0_0)), (7, (iv (p0.length : Int))), (8, (iv (s.2.1 : Int)))]) (fun s => []) (p0.length + 1) (p0, 0, ByteArray.empty) ⟨rfl, rfl, Nat.zero_le _, H⟩ (.cons rfl (.cons rfl (.cons rfl (.cons rfl .nil)))) .nil (fun _ _ h => absurd h.1 (by simp)) ?_
 intro w leL1 m s hs
 obtain ⟨restL1, iL1, x122⟩ := s
 obtain ⟨hmL1, hdL1, hiL1, H⟩ := hs
 replace hdL1 : restL1 = List.drop iL1 p0 := hdL1
 replace H : F_plot_points_L1 restL1 iL1 x122 = some r := H
 replace hmL1 : m + 1 = restL1.length + 1 := hmL1
 replace hp0_0 := hp0_0.leR leL1
 replace leB := leB.trans leL1
 obtain rfl : m = restL1.length := by omega
 clear hmL1
 show Tr _ _ (LF [(3, (sv x122)), (6, (.slice Ap0_0 (p0).length cp0_0)), (7, (iv (p0.length : Int))), (8, (iv (iL1 : Int)))]) (LE []) _
 cases restL1 with
 | nil =>
  rw [F_plot_points_L1.eq_1] at H
  refine Tr.sr ?_
  refine Tr.va rfl (fun _ _ h1 h2 => zz (h1.ev rfl) (h1.ev rfl)) ?_
  refine Tr.nil (Tr.zA ?_)
  refine Tr.seq ?_
  refine Tr.condF rfl (range_nil hdL1) ?_
  refine Tr.exit (Tr.zX (Tr.zX (Tr.zAC (Tr.zA ?_))))
  refine Tr.sr ?_
  refine Tr.mv rfl rfl ?_
  refine Tr.asg rfl rfl ?_
  refine Tr.nil (Tr.zA ?_)
  refine Tr.ret ?_
  obtain rfl := Option.some.inj H
  exact Tr.out (m := [(sv x122)]) [] (zP rfl zQ) (fun W hW => ⟨rfl, hW.low leB⟩)
 | cons xL1 restL1 =>
  rw [F_plot_points_L1.eq_2] at H
  refine Tr.sr ?_
  refine Tr.va rfl (fun _ _ h1 h2 => zz (h1.ev rfl) (h1.ev rfl)) ?_
  refine Tr.nil (Tr.zA ?_)
  refine Tr.seq ?_
  refine Tr.condT rfl (range_on hdL1) ?_
  refine Tr.skip (Tr.zA ?_)
  refine Tr.seq ?_
  refine Tr.block ?_
  refine Tr.sr ?_
  refine Tr.va rfl (fun _ _ h1 h2 => zH el_44 (h1.ev rfl) hp0_0.form (h1.ev rfl) (Int.natCast_nonneg _) (zo hdL1)) ?_
  refine Tr.va rfl (fun _ _ h1 h2 => zR (cs := [(iv xL1.X), (iv xL1.Y)]) ag_43 sz_43 (h1.ev rfl) (zL.take (rdF ef_TPoint hp0_0 (range_at hdL1) h2) 2) rfl) ?_
  refine Tr.alloc 3 (wn rfl) rfl ze_43 fun b123 => ?_
  refine Tr.store 3 (cs := [(iv xL1.X), (iv xL1.Y)]) [(iv xL1.X), (iv xL1.Y)] (wn rfl) rfl rfl rfl rfl sz_43 rfl rfl rfl ?_
  refine Tr.nil (Tr.zA ?_)
  refine Tr.draw (by kernel_rfl) (by kernel_rfl) ?_
  refine Tq.mv rfl rfl ?_
  refine Tq.va rfl (fun _ _ h1 h2 => zB fo_43_0 (h1.ev rfl)) ?_
  refine Tq.va rfl (fun _ _ h1 h2 => zC ag_3 (h1.ev rfl) (rdb h2 (vs := [(iv xL1.X), (iv xL1.Y)]) (k := 3) rfl 0) rfl) ?_
  obtain ⟨y124, hy124, H⟩ := bnd H
  refine Tq.call0 (r := (sv y124)) (wn rfl) rfl Tryz.call46 (zF rfl zO) (fun W hW => F_strconv_Itoa_ok xL1.X y124 hy124 (HF.start _)) ?_
  obtain ⟨t125, ht125, H⟩ := bnd H
  refine Tq.va rfl (fun _ _ h1 h2 => run_catS (h1.ev rfl) (h1.ev rfl) ht125) ?_
  obtain ⟨t126, ht126, H⟩ := bnd H
  refine Tq.va rfl (fun _ _ h1 h2 => run_catS (h1.ev rfl) (h1.ev rfl) ht126) ?_
  refine Tq.va rfl (fun _ _ h1 h2 => zB fo_43_1 (h1.ev rfl)) ?_
  refine Tq.va rfl (fun _ _ h1 h2 => zC ag_3 (h1.ev rfl) (rdb h2 (vs := [(iv xL1.X), (iv xL1.Y)]) (k := 3) rfl 1) rfl) ?_
  obtain ⟨y127, hy127, H⟩ := bnd H
  refine Tq.call0 (r := (sv y127)) (wn rfl) rfl Tryz.call46 (zF rfl zO) (fun W hW => F_strconv_Itoa_ok xL1.Y y127 hy127 (HF.start _)) ?_
  obtain ⟨t128, ht128, H⟩ := bnd H
  refine Tq.va rfl (fun _ _ h1 h2 => run_catS (h1.ev rfl) (h1.ev rfl) ht128) ?_
  obtain ⟨t129, ht129, H⟩ := bnd H
  refine Tq.va rfl (fun _ _ h1 h2 => run_catS (h1.ev rfl) (h1.ev rfl) ht129) ?_
  refine Tq.asg rfl rfl ?_
  refine Tq.nil (Tr.zW (Tr.zA ?_))
  refine Tr.region ?_
  refine Tr.va rfl (fun _ _ h1 h2 => zx (h1.ev rfl) (h1.ev rfl)) ?_
  refine Tr.mv rfl rfl ?_
  refine Tr.nil ?_
  exact Tr.zZ leL1 (restL1, (iL1 + 1), t129) ⟨rfl, range_tl hdL1, zo hdL1, H⟩ (.cons rfl (.cons rfl (.cons rfl (.cons (congrArg (fun z => some (Value.int .i64 z)) (range_up hdL1 hp0_0.form)) .nil)))) .nil

theorem F_plot_writeSteps_b_ok (N : Nat) (rec : ByteArray → (List zD) → Option ByteArray) (hrec : ∀ {w : Bs} (p0 : ByteArray) (Ap0_0 : Option Addr) (cp0_0 : Nat) (bp0 : Nat) (p1 : (List zD)) (Ap1_0 : Option Addr) (cp1_0 : Nat) (hp1_0 : Sl w.R w.W zG Ap1_0 cp1_0 p1) (r : ByteArray) (H : rec p0 p1 = some r) (hE : HF w w.W (LEn [sb 95 5 bp0 Ap0_0 cp0_0 p0])), Calls Tryz.prog 48 [(.pointer (some ⟨bp0, 0, none⟩)), (.slice Ap1_0 (p1).length cp1_0)].toArray w.W fun e W' => ∃ u : (Option Addr × Nat), e = .returned (.tuple #[]) ∧ (True) ∧ HF w W' (LEn [sb 95 5 bp0 u.1 u.2 r])) {w : Bs} (p0 : ByteArray) (Ap0_0 : Option Addr) (cp0_0 : Nat) (bp0 : Nat) (p1 : (List zD)) (Ap1_0 : Option Addr) (cp1_0 : Nat) (hp1_0 : Sl w.R w.W zG Ap1_0 cp1_0 p1) (r : ByteArray) (H : F_plot_writeSteps_b N rec p0 p1 = some r) (hE : HF w w.W (LEn [sb 95 5 bp0 Ap0_0 cp0_0 p0])) : Calls Tryz.prog 48 [(.pointer (some ⟨bp0, 0, none⟩)), (.slice Ap1_0 (p1).length cp1_0)].toArray w.W fun e W' => ∃ u : (Option Addr × Nat), e = .returned (.tuple #[]) ∧ (True) ∧ HF w W' (LEn [sb 95 5 bp0 u.1 u.2 r]) := by
 unfold F_plot_writeSteps_b at H
 have leB := Bs.Le.refl w
 refine Tr.enter (n := 91) Tryz.func48 rfl rfl rfl hE ?_
 refine Tr.sr ?_
 refine Tr.mv rfl rfl ?_
 refine Tr.va rfl (fun _ _ h1 h2 => zq un_23 (h1.ev rfl)) ?_
 refine Tr.mv rfl rfl ?_
 refine Tr.nil (Tr.zA ?_)
 refine Tr.block ?_
 refine Tr.loop (σ := (List zD) × Nat × ByteArray × (Option Addr) × Nat) (fun m w s => m = s.1.length + 1 ∧ s.1 = List.drop s.2.1 p1 ∧ s.2.1 ≤ p1.length ∧ zAE rec s.1 s.2.1 s.2.2.1 = some r) (fun s => [(0, (.pointer (some ⟨bp0, 0, none⟩))), (6, (.slice Ap1_0 (p1).length cp1_0)), (7, (iv (p1.length : Int))), (8, (iv (s.2.1 : Int)))]) (fun s => [(0, sb 95 5 bp0 s.2.2.2.1 s.2.2.2.2 s.2.2.1)]) (p1.length + 1) (p1, 0, p0, Ap0_0, cp0_0) ⟨rfl, rfl, Nat.zero_le _, H⟩ (.cons rfl (.cons rfl (.cons rfl (.cons rfl .nil)))) (.cons rfl .nil) (fun _ _ h => absurd h.1 (by simp)) ?_
 intro w leL1 m s hs
 obtain ⟨restL1, iL1, m194, Am194, cm194⟩ := s
 obtain ⟨hmL1, hdL1, hiL1, H⟩ := hs
 replace hdL1 : restL1 = List.drop iL1 p1 := hdL1
 replace H : zAE rec restL1 iL1 m194 = some r := H
 replace hmL1 : m + 1 = restL1.length + 1 := hmL1
 replace hp1_0 := hp1_0.leR leL1
 replace leB := leB.trans leL1
 obtain rfl : m = restL1.length := by omega
 clear hmL1
 show Tr _ _ (LF [(0, (.pointer (some ⟨bp0, 0, none⟩))), (6, (.slice Ap1_0 (p1).length cp1_0)), (7, (iv (p1.length : Int))), (8, (iv (iL1 : Int)))]) (LE [(0, sb 95 5 bp0 Am194 cm194 m194)]) _
 cases restL1 with
 | nil =>
  rw [zAE.eq_1] at H
  refine Tr.sr ?_
  refine Tr.va rfl (fun _ _ h1 h2 => zz (h1.ev rfl) (h1.ev rfl)) ?_
  refine Tr.nil (Tr.zA ?_)
  refine Tr.seq ?_
  refine Tr.condF rfl (range_nil hdL1) ?_
  refine Tr.exit (Tr.zX (Tr.zX (Tr.zAC (Tr.offEnd ?_))))
  obtain rfl := Option.some.inj H
  exact Tr.out (m := []) [] zQ (fun W hW => ⟨(Am194, cm194), rfl, trivial, HF.lowE leB (hW.pick (ks := [0]) (by decide) (zM rfl zY)) ⟨sb_any, trivial⟩⟩)
 | cons xL1 restL1 =>
  rw [zAE.eq_2] at H
  refine Tr.sr ?_
  refine Tr.va rfl (fun _ _ h1 h2 => zz (h1.ev rfl) (h1.ev rfl)) ?_
  refine Tr.nil (Tr.zA ?_)
  refine Tr.seq ?_
  refine Tr.condT rfl (range_on hdL1) ?_
  refine Tr.skip (Tr.zA ?_)
  refine Tr.seq ?_
  refine Tr.block ?_
  refine Tr.sr ?_
  obtain ⟨u195, hRu195, hoku195, hcu195⟩ := (hp1_0).el (range_at hdL1)
  obtain ⟨⟨Au195_0, cu195_0⟩, ⟨Au195_1, cu195_1⟩⟩ := u195
  obtain ⟨hoku195_0, hoku195_1⟩ := TPlotStep_ok.1 hoku195
  replace hoku195_0 : Sl w.R w.W zy Au195_0 cu195_0 xL1.Points := hoku195_0
  replace hoku195_1 : Sl w.R w.W zG Au195_1 cu195_1 xL1.Steps := hoku195_1
  refine Tr.va rfl (fun _ _ h1 h2 => zH el_23 (h1.ev rfl) hp1_0.form (h1.ev rfl) (Int.natCast_nonneg _) (zo hdL1)) ?_
  refine Tr.va rfl (fun _ _ h1 h2 => zR (cs := [(iv xL1.Kind), (sv xL1.Name), (iv xL1.At.X), (iv xL1.At.Y), (.slice Au195_0 (xL1.Points).length cu195_0), (iv xL1.NX), (iv xL1.NY), (.slice Au195_1 (xL1.Steps).length cu195_1)]) ag_46 sz_46 (h1.ev rfl) (zL.take (rdR hRu195 hcu195 h2) 8) rfl) ?_
  refine Tr.alloc 11 (wn rfl) rfl ze_46 fun b196 => ?_
  refine Tr.store 11 (cs := [(iv xL1.Kind), (sv xL1.Name), (iv xL1.At.X), (iv xL1.At.Y), (.slice Au195_0 (xL1.Points).length cu195_0), (iv xL1.NX), (iv xL1.NY), (.slice Au195_1 (xL1.Steps).length cu195_1)]) [(iv xL1.Kind), (sv xL1.Name), (iv xL1.At.X), (iv xL1.At.Y), (.slice Au195_0 (xL1.Points).length cu195_0), (iv xL1.NX), (iv xL1.NY), (.slice Au195_1 (xL1.Steps).length cu195_1)] (wn rfl) rfl rfl rfl rfl sz_46 rfl rfl rfl ?_
  refine Tr.nil (Tr.zA ?_)
  refine Tr.sr ?_
  refine Tr.va rfl (fun _ _ h1 h2 => zB fo_46_0 (h1.ev rfl)) ?_
  refine Tr.va rfl (fun _ _ h1 h2 => zC ag_3 (h1.ev rfl) (rdb h2 (vs := [(iv xL1.Kind), (sv xL1.Name), (iv xL1.At.X), (iv xL1.At.Y), (.slice Au195_0 (xL1.Points).length cu195_0), (iv xL1.NX), (iv xL1.NY), (.slice Au195_1 (xL1.Steps).length cu195_1)]) (k := 11) rfl 0) rfl) ?_
  refine Tr.nil (Tr.zA ?_)
  refine Tr.block ?_
  refine Tr.sr ?_
  refine Tr.va rfl (fun _ _ h1 h2 => run_eql (h1.ev rfl) (h1.ev rfl)) ?_
  refine Tr.asg rfl rfl ?_
  refine Tr.nil (Tr.zA ?_)
  refine Tr.cond rfl H (fun H => ?_) (fun H => ?_)
  ·refine Tr.region ?_
   refine Tr.mv rfl rfl ?_
   obtain ⟨y197, hy197, H⟩ := bnd H
   refine Tr.callM [0] [sb 95 5 bp0 Am194 cm194 m194] (U := (Option Addr × Nat)) (fun u => (.tuple #[(iv (((⟨#[100, 97, 114, 107, 10]⟩) : ByteArray).size : Int)), .nilIface])) (fun u => True) (fun u => [sb 95 5 bp0 u.1 u.2 y197]) rfl (zM rfl zY) (fun _ => rfl) (wn rfl) rfl Tryz.call45 (zF rfl (zF rfl zO)) (fun W hW hp hE => zg m194 Am194 cm194 bp0 (⟨#[100, 97, 114, 107, 10]⟩) y197 hy197 hE) ?_
   intro u hu
   obtain ⟨Ay197_0, cy197_0⟩ := u
   have gy197_0 := hu
   have hgy197_0 : True := gy197_0 --@phi
   show Tr _ _ (uf _ 17 (.tuple #[(iv (((⟨#[100, 97, 114, 107, 10]⟩) : ByteArray).size : Int)), .nilIface])) (up _ 0 (sb 95 5 bp0 Ay197_0 cy197_0 y197)) _
   refine Tr.nil (Tr.zW (Tr.zW (Tr.zA ?_)))
   refine Tr.region ?_
   refine Tr.va rfl (fun _ _ h1 h2 => zx (h1.ev rfl) (h1.ev rfl)) ?_
   refine Tr.mv rfl rfl ?_
   refine Tr.nil ?_
   exact Tr.zZ leL1 (restL1, (iL1 + 1), y197, Ay197_0, cy197_0) ⟨rfl, range_tl hdL1, zo hdL1, H⟩ (.cons rfl (.cons rfl (.cons rfl (.cons (congrArg (fun z => some (Value.int .i64 z)) (range_up hdL1 hp1_0.form)) .nil)))) (.cons rfl .nil)
  ·refine Tr.sr ?_
   refine Tr.va rfl (fun _ _ h1 h2 => run_eql (h1.ev rfl) (h1.ev rfl)) ?_
   refine Tr.asg rfl rfl ?_
   refine Tr.nil (Tr.zA ?_)
   refine Tr.cond rfl H (fun H => ?_) (fun H => ?_)
   ·refine Tr.region ?_
    refine Tr.mv rfl rfl ?_
    obtain ⟨y199, hy199, H⟩ := bnd H
    refine Tr.callM [0] [sb 95 5 bp0 Am194 cm194 m194] (U := (Option Addr × Nat)) (fun u => (.tuple #[(iv (((⟨#[99, 108, 101, 97, 114, 10]⟩) : ByteArray).size : Int)), .nilIface])) (fun u => True) (fun u => [sb 95 5 bp0 u.1 u.2 y199]) rfl (zM rfl zY) (fun _ => rfl) (wn rfl) rfl Tryz.call45 (zF rfl (zF rfl zO)) (fun W hW hp hE => zg m194 Am194 cm194 bp0 (⟨#[99, 108, 101, 97, 114, 10]⟩) y199 hy199 hE) ?_
    intro u hu
    obtain ⟨Ay199_0, cy199_0⟩ := u
    have gy199_0 := hu
    have hgy199_0 : True := gy199_0 --@phi
    show Tr _ _ (uf _ 21 (.tuple #[(iv (((⟨#[99, 108, 101, 97, 114, 10]⟩) : ByteArray).size : Int)), .nilIface])) (up _ 0 (sb 95 5 bp0 Ay199_0 cy199_0 y199)) _
    refine Tr.nil (Tr.zW (Tr.zW (Tr.zA ?_)))
    refine Tr.region ?_
    refine Tr.va rfl (fun _ _ h1 h2 => zx (h1.ev rfl) (h1.ev rfl)) ?_
    refine Tr.mv rfl rfl ?_
    refine Tr.nil ?_
    exact Tr.zZ leL1 (restL1, (iL1 + 1), y199, Ay199_0, cy199_0) ⟨rfl, range_tl hdL1, zo hdL1, H⟩ (.cons rfl (.cons rfl (.cons rfl (.cons (congrArg (fun z => some (Value.int .i64 z)) (range_up hdL1 hp1_0.form)) .nil)))) (.cons rfl .nil)
   ·refine Tr.sr ?_
    refine Tr.va rfl (fun _ _ h1 h2 => run_eql (h1.ev rfl) (h1.ev rfl)) ?_
    refine Tr.asg rfl rfl ?_
    refine Tr.nil (Tr.zA ?_)
    refine Tr.cond rfl H (fun H => ?_) (fun H => ?_)
    ·refine Tr.region ?_
     refine Tr.mv rfl rfl ?_
     refine Tr.va rfl (fun _ _ h1 h2 => zB fo_46_1 (h1.ev rfl)) ?_
     refine Tr.va rfl (fun _ _ h1 h2 => zC ag_9 (h1.ev rfl) (rdb h2 (vs := [(iv xL1.Kind), (sv xL1.Name), (iv xL1.At.X), (iv xL1.At.Y), (.slice Au195_0 (xL1.Points).length cu195_0), (iv xL1.NX), (iv xL1.NY), (.slice Au195_1 (xL1.Steps).length cu195_1)]) (k := 11) rfl 1) rfl) ?_
     obtain ⟨t201, ht201, H⟩ := bnd H
     refine Tr.va rfl (fun _ _ h1 h2 => run_catS (h1.ev rfl) (h1.ev rfl) ht201) ?_
     obtain ⟨t202, ht202, H⟩ := bnd H
     refine Tr.va rfl (fun _ _ h1 h2 => run_catS (h1.ev rfl) (h1.ev rfl) ht202) ?_
     obtain ⟨y203, hy203, H⟩ := bnd H
     refine Tr.callM [0] [sb 95 5 bp0 Am194 cm194 m194] (U := (Option Addr × Nat)) (fun u => (.tuple #[(iv ((t202 : ByteArray).size : Int)), .nilIface])) (fun u => True) (fun u => [sb 95 5 bp0 u.1 u.2 y203]) rfl (zM rfl zY) (fun _ => rfl) (wn rfl) rfl Tryz.call45 (zF rfl (zF rfl zO)) (fun W hW hp hE => zg m194 Am194 cm194 bp0 t202 y203 hy203 hE) ?_
     intro u hu
     obtain ⟨Ay203_0, cy203_0⟩ := u
     have gy203_0 := hu
     have hgy203_0 : True := gy203_0 --@phi
     show Tr _ _ (uf _ 29 (.tuple #[(iv ((t202 : ByteArray).size : Int)), .nilIface])) (up _ 0 (sb 95 5 bp0 Ay203_0 cy203_0 y203)) _
     refine Tr.nil (Tr.zW (Tr.zW (Tr.zA ?_)))
     refine Tr.region ?_
     refine Tr.va rfl (fun _ _ h1 h2 => zx (h1.ev rfl) (h1.ev rfl)) ?_
     refine Tr.mv rfl rfl ?_
     refine Tr.nil ?_
     exact Tr.zZ leL1 (restL1, (iL1 + 1), y203, Ay203_0, cy203_0) ⟨rfl, range_tl hdL1, zo hdL1, H⟩ (.cons rfl (.cons rfl (.cons rfl (.cons (congrArg (fun z => some (Value.int .i64 z)) (range_up hdL1 hp1_0.form)) .nil)))) (.cons rfl .nil)
    ·refine Tr.sr ?_
     refine Tr.va rfl (fun _ _ h1 h2 => run_eql (h1.ev rfl) (h1.ev rfl)) ?_
     refine Tr.asg rfl rfl ?_
     refine Tr.nil (Tr.zA ?_)
     refine Tr.cond rfl H (fun H => ?_) (fun H => ?_)
     ·refine Tr.region ?_
      refine Tr.mv rfl rfl ?_
      refine Tr.va rfl (fun _ _ h1 h2 => zB fo_46_2 (h1.ev rfl)) ?_
      refine Tr.va rfl (fun _ _ h1 h2 => zR (cs := [(iv xL1.At.X), (iv xL1.At.Y)]) ag_43 sz_43 (h1.ev rfl) (zL.take (rdb h2 (vs := [(iv xL1.Kind), (sv xL1.Name), (iv xL1.At.X), (iv xL1.At.Y), (.slice Au195_0 (xL1.Points).length cu195_0), (iv xL1.NX), (iv xL1.NY), (.slice Au195_1 (xL1.Steps).length cu195_1)]) (k := 11) rfl 2) 2) rfl) ?_
      refine Tr.buildSlice 12 (e := 43) (vs := [(0, (.agg #[(iv xL1.At.X), (iv xL1.At.Y)]))]) (cs := [(iv xL1.At.X), (iv xL1.At.Y)]) (wn rfl) rfl (zi rfl evs_nil) (by kernel_rfl) fun b205 => ?_
      refine Tr.own 12 zy [xL1.At] (css := [[(iv xL1.At.X), (iv xL1.At.Y)]]) rfl (.cons ⟨(), trivial, rfl⟩ .nil) rfl (by decide) (lit_max rfl) ?_
      obtain ⟨y206, hy206, H⟩ := bnd H
      refine Tr.call0 (r := (sv y206)) (wn rfl) rfl Tryz.call47 (zF rfl zO) (fun W hW => F_plot_points_ok [xL1.At] (some ⟨b205, 0, none⟩) 1 (hW.slCall (k := 12) rfl) y206 hy206 (HF.start _)) ?_
      obtain ⟨t207, ht207, H⟩ := bnd H
      refine Tr.va rfl (fun _ _ h1 h2 => run_catS (h1.ev rfl) (h1.ev rfl) ht207) ?_
      obtain ⟨t208, ht208, H⟩ := bnd H
      refine Tr.va rfl (fun _ _ h1 h2 => run_catS (h1.ev rfl) (h1.ev rfl) ht208) ?_
      obtain ⟨y209, hy209, H⟩ := bnd H
      refine Tr.callM [0] [sb 95 5 bp0 Am194 cm194 m194] (U := (Option Addr × Nat)) (fun u => (.tuple #[(iv ((t208 : ByteArray).size : Int)), .nilIface])) (fun u => True) (fun u => [sb 95 5 bp0 u.1 u.2 y209]) rfl (zM rfl zY) (fun _ => rfl) (wn rfl) rfl Tryz.call45 (zF rfl (zF rfl zO)) (fun W hW hp hE => zg m194 Am194 cm194 bp0 t208 y209 hy209 hE) ?_
      intro u hu
      obtain ⟨Ay209_0, cy209_0⟩ := u
      have gy209_0 := hu
      have hgy209_0 : True := gy209_0 --@phi
      show Tr _ _ (uf _ 39 (.tuple #[(iv ((t208 : ByteArray).size : Int)), .nilIface])) (up _ 0 (sb 95 5 bp0 Ay209_0 cy209_0 y209)) _
      refine Tr.nil (Tr.zW (Tr.zW (Tr.zA ?_)))
      refine Tr.region ?_
      refine Tr.va rfl (fun _ _ h1 h2 => zx (h1.ev rfl) (h1.ev rfl)) ?_
      refine Tr.mv rfl rfl ?_
      refine Tr.nil ?_
      exact Tr.zZ leL1 (restL1, (iL1 + 1), y209, Ay209_0, cy209_0) ⟨rfl, range_tl hdL1, zo hdL1, H⟩ (.cons rfl (.cons rfl (.cons rfl (.cons (congrArg (fun z => some (Value.int .i64 z)) (range_up hdL1 hp1_0.form)) .nil)))) (.cons rfl .nil)
     ·refine Tr.sr ?_
      refine Tr.va rfl (fun _ _ h1 h2 => run_eql (h1.ev rfl) (h1.ev rfl)) ?_
      refine Tr.asg rfl rfl ?_
      refine Tr.nil (Tr.zA ?_)
      refine Tr.cond rfl H (fun H => ?_) (fun H => ?_)
      ·refine Tr.region ?_
       refine Tr.mv rfl rfl ?_
       refine Tr.va rfl (fun _ _ h1 h2 => zB fo_46_2 (h1.ev rfl)) ?_
       refine Tr.va rfl (fun _ _ h1 h2 => zR (cs := [(iv xL1.At.X), (iv xL1.At.Y)]) ag_43 sz_43 (h1.ev rfl) (zL.take (rdb h2 (vs := [(iv xL1.Kind), (sv xL1.Name), (iv xL1.At.X), (iv xL1.At.Y), (.slice Au195_0 (xL1.Points).length cu195_0), (iv xL1.NX), (iv xL1.NY), (.slice Au195_1 (xL1.Steps).length cu195_1)]) (k := 11) rfl 2) 2) rfl) ?_
       refine Tr.buildSlice 13 (e := 43) (vs := [(0, (.agg #[(iv xL1.At.X), (iv xL1.At.Y)]))]) (cs := [(iv xL1.At.X), (iv xL1.At.Y)]) (wn rfl) rfl (zi rfl evs_nil) (by kernel_rfl) fun b211 => ?_
       refine Tr.own 13 zy [xL1.At] (css := [[(iv xL1.At.X), (iv xL1.At.Y)]]) rfl (.cons ⟨(), trivial, rfl⟩ .nil) rfl (by decide) (lit_max rfl) ?_
       obtain ⟨y212, hy212, H⟩ := bnd H
       refine Tr.call0 (r := (sv y212)) (wn rfl) rfl Tryz.call47 (zF rfl zO) (fun W hW => F_plot_points_ok [xL1.At] (some ⟨b211, 0, none⟩) 1 (hW.slCall (k := 13) rfl) y212 hy212 (HF.start _)) ?_
       obtain ⟨t213, ht213, H⟩ := bnd H
       refine Tr.va rfl (fun _ _ h1 h2 => run_catS (h1.ev rfl) (h1.ev rfl) ht213) ?_
       obtain ⟨t214, ht214, H⟩ := bnd H
       refine Tr.va rfl (fun _ _ h1 h2 => run_catS (h1.ev rfl) (h1.ev rfl) ht214) ?_
       obtain ⟨y215, hy215, H⟩ := bnd H
       refine Tr.callM [0] [sb 95 5 bp0 Am194 cm194 m194] (U := (Option Addr × Nat)) (fun u => (.tuple #[(iv ((t214 : ByteArray).size : Int)), .nilIface])) (fun u => True) (fun u => [sb 95 5 bp0 u.1 u.2 y215]) rfl (zM rfl zY) (fun _ => rfl) (wn rfl) rfl Tryz.call45 (zF rfl (zF rfl zO)) (fun W hW hp hE => zg m194 Am194 cm194 bp0 t214 y215 hy215 hE) ?_
       intro u hu
       obtain ⟨Ay215_0, cy215_0⟩ := u
       have gy215_0 := hu
       have hgy215_0 : True := gy215_0 --@phi
       show Tr _ _ (uf _ 49 (.tuple #[(iv ((t214 : ByteArray).size : Int)), .nilIface])) (up _ 0 (sb 95 5 bp0 Ay215_0 cy215_0 y215)) _
       refine Tr.nil (Tr.zW (Tr.zW (Tr.zA ?_)))
       refine Tr.region ?_
       refine Tr.va rfl (fun _ _ h1 h2 => zx (h1.ev rfl) (h1.ev rfl)) ?_
       refine Tr.mv rfl rfl ?_
       refine Tr.nil ?_
       exact Tr.zZ leL1 (restL1, (iL1 + 1), y215, Ay215_0, cy215_0) ⟨rfl, range_tl hdL1, zo hdL1, H⟩ (.cons rfl (.cons rfl (.cons rfl (.cons (congrArg (fun z => some (Value.int .i64 z)) (range_up hdL1 hp1_0.form)) .nil)))) (.cons rfl .nil)
      ·refine Tr.sr ?_
       refine Tr.va rfl (fun _ _ h1 h2 => run_eql (h1.ev rfl) (h1.ev rfl)) ?_
       refine Tr.asg rfl rfl ?_
       refine Tr.nil (Tr.zA ?_)
       refine Tr.cond rfl H (fun H => ?_) (fun H => ?_)
       ·refine Tr.region ?_
        refine Tr.mv rfl rfl ?_
        refine Tr.va rfl (fun _ _ h1 h2 => zB fo_46_2 (h1.ev rfl)) ?_
        refine Tr.va rfl (fun _ _ h1 h2 => zR (cs := [(iv xL1.At.X), (iv xL1.At.Y)]) ag_43 sz_43 (h1.ev rfl) (zL.take (rdb h2 (vs := [(iv xL1.Kind), (sv xL1.Name), (iv xL1.At.X), (iv xL1.At.Y), (.slice Au195_0 (xL1.Points).length cu195_0), (iv xL1.NX), (iv xL1.NY), (.slice Au195_1 (xL1.Steps).length cu195_1)]) (k := 11) rfl 2) 2) rfl) ?_
        refine Tr.buildSlice 14 (e := 43) (vs := [(0, (.agg #[(iv xL1.At.X), (iv xL1.At.Y)]))]) (cs := [(iv xL1.At.X), (iv xL1.At.Y)]) (wn rfl) rfl (zi rfl evs_nil) (by kernel_rfl) fun b217 => ?_
        refine Tr.own 14 zy [xL1.At] (css := [[(iv xL1.At.X), (iv xL1.At.Y)]]) rfl (.cons ⟨(), trivial, rfl⟩ .nil) rfl (by decide) (lit_max rfl) ?_
        obtain ⟨y218, hy218, H⟩ := bnd H
        refine Tr.call0 (r := (sv y218)) (wn rfl) rfl Tryz.call47 (zF rfl zO) (fun W hW => F_plot_points_ok [xL1.At] (some ⟨b217, 0, none⟩) 1 (hW.slCall (k := 14) rfl) y218 hy218 (HF.start _)) ?_
        obtain ⟨t219, ht219, H⟩ := bnd H
        refine Tr.va rfl (fun _ _ h1 h2 => run_catS (h1.ev rfl) (h1.ev rfl) ht219) ?_
        obtain ⟨t220, ht220, H⟩ := bnd H
        refine Tr.va rfl (fun _ _ h1 h2 => run_catS (h1.ev rfl) (h1.ev rfl) ht220) ?_
        obtain ⟨y221, hy221, H⟩ := bnd H
        refine Tr.callM [0] [sb 95 5 bp0 Am194 cm194 m194] (U := (Option Addr × Nat)) (fun u => (.tuple #[(iv ((t220 : ByteArray).size : Int)), .nilIface])) (fun u => True) (fun u => [sb 95 5 bp0 u.1 u.2 y221]) rfl (zM rfl zY) (fun _ => rfl) (wn rfl) rfl Tryz.call45 (zF rfl (zF rfl zO)) (fun W hW hp hE => zg m194 Am194 cm194 bp0 t220 y221 hy221 hE) ?_
        intro u hu
        obtain ⟨Ay221_0, cy221_0⟩ := u
        have gy221_0 := hu
        have hgy221_0 : True := gy221_0 --@phi
        show Tr _ _ (uf _ 59 (.tuple #[(iv ((t220 : ByteArray).size : Int)), .nilIface])) (up _ 0 (sb 95 5 bp0 Ay221_0 cy221_0 y221)) _
        refine Tr.nil (Tr.zW (Tr.zW (Tr.zA ?_)))
        refine Tr.region ?_
        refine Tr.va rfl (fun _ _ h1 h2 => zx (h1.ev rfl) (h1.ev rfl)) ?_
        refine Tr.mv rfl rfl ?_
        refine Tr.nil ?_
        exact Tr.zZ leL1 (restL1, (iL1 + 1), y221, Ay221_0, cy221_0) ⟨rfl, range_tl hdL1, zo hdL1, H⟩ (.cons rfl (.cons rfl (.cons rfl (.cons (congrArg (fun z => some (Value.int .i64 z)) (range_up hdL1 hp1_0.form)) .nil)))) (.cons rfl .nil)
       ·refine Tr.sr ?_
        refine Tr.va rfl (fun _ _ h1 h2 => run_eql (h1.ev rfl) (h1.ev rfl)) ?_
        refine Tr.asg rfl rfl ?_
        refine Tr.nil (Tr.zA ?_)
        refine Tr.cond rfl H (fun H => ?_) (fun H => ?_)
        ·refine Tr.region ?_
         refine Tr.mv rfl rfl ?_
         refine Tr.va rfl (fun _ _ h1 h2 => zB fo_46_3 (h1.ev rfl)) ?_
         refine Tr.va rfl (fun _ _ h1 h2 => zC ag_44 (h1.ev rfl) (rdb h2 (vs := [(iv xL1.Kind), (sv xL1.Name), (iv xL1.At.X), (iv xL1.At.Y), (.slice Au195_0 (xL1.Points).length cu195_0), (iv xL1.NX), (iv xL1.NY), (.slice Au195_1 (xL1.Steps).length cu195_1)]) (k := 11) rfl 4) rfl) ?_
         obtain ⟨y223, hy223, H⟩ := bnd H
         refine Tr.call0 (r := (sv y223)) (wn rfl) rfl Tryz.call47 (zF rfl zO) (fun W hW => F_plot_points_ok xL1.Points Au195_0 cu195_0 (hoku195_0.ext hW.extAll) y223 hy223 (HF.start _)) ?_
         obtain ⟨t224, ht224, H⟩ := bnd H
         refine Tr.va rfl (fun _ _ h1 h2 => run_catS (h1.ev rfl) (h1.ev rfl) ht224) ?_
         obtain ⟨t225, ht225, H⟩ := bnd H
         refine Tr.va rfl (fun _ _ h1 h2 => run_catS (h1.ev rfl) (h1.ev rfl) ht225) ?_
         obtain ⟨y226, hy226, H⟩ := bnd H
         refine Tr.callM [0] [sb 95 5 bp0 Am194 cm194 m194] (U := (Option Addr × Nat)) (fun u => (.tuple #[(iv ((t225 : ByteArray).size : Int)), .nilIface])) (fun u => True) (fun u => [sb 95 5 bp0 u.1 u.2 y226]) rfl (zM rfl zY) (fun _ => rfl) (wn rfl) rfl Tryz.call45 (zF rfl (zF rfl zO)) (fun W hW hp hE => zg m194 Am194 cm194 bp0 t225 y226 hy226 hE) ?_
         intro u hu
         obtain ⟨Ay226_0, cy226_0⟩ := u
         have gy226_0 := hu
         have hgy226_0 : True := gy226_0 --@phi
         show Tr _ _ (uf _ 68 (.tuple #[(iv ((t225 : ByteArray).size : Int)), .nilIface])) (up _ 0 (sb 95 5 bp0 Ay226_0 cy226_0 y226)) _
         refine Tr.nil (Tr.zW (Tr.zW (Tr.zA ?_)))
         refine Tr.region ?_
         refine Tr.va rfl (fun _ _ h1 h2 => zx (h1.ev rfl) (h1.ev rfl)) ?_
         refine Tr.mv rfl rfl ?_
         refine Tr.nil ?_
         exact Tr.zZ leL1 (restL1, (iL1 + 1), y226, Ay226_0, cy226_0) ⟨rfl, range_tl hdL1, zo hdL1, H⟩ (.cons rfl (.cons rfl (.cons rfl (.cons (congrArg (fun z => some (Value.int .i64 z)) (range_up hdL1 hp1_0.form)) .nil)))) (.cons rfl .nil)
        ·refine Tr.sr ?_
         refine Tr.va rfl (fun _ _ h1 h2 => run_eql (h1.ev rfl) (h1.ev rfl)) ?_
         refine Tr.asg rfl rfl ?_
         refine Tr.nil (Tr.zA ?_)
         refine Tr.cond rfl H (fun H => ?_) (fun H => ?_)
         ·refine Tr.sr ?_
          refine Tr.mv rfl rfl ?_
          refine Tr.va rfl (fun _ _ h1 h2 => zB fo_46_4 (h1.ev rfl)) ?_
          refine Tr.va rfl (fun _ _ h1 h2 => zC ag_3 (h1.ev rfl) (rdb h2 (vs := [(iv xL1.Kind), (sv xL1.Name), (iv xL1.At.X), (iv xL1.At.Y), (.slice Au195_0 (xL1.Points).length cu195_0), (iv xL1.NX), (iv xL1.NY), (.slice Au195_1 (xL1.Steps).length cu195_1)]) (k := 11) rfl 5) rfl) ?_
          refine Tr.va rfl (fun _ _ h1 h2 => zB fo_46_5 (h1.ev rfl)) ?_
          refine Tr.va rfl (fun _ _ h1 h2 => zC ag_3 (h1.ev rfl) (rdb h2 (vs := [(iv xL1.Kind), (sv xL1.Name), (iv xL1.At.X), (iv xL1.At.Y), (.slice Au195_0 (xL1.Points).length cu195_0), (iv xL1.NX), (iv xL1.NY), (.slice Au195_1 (xL1.Steps).length cu195_1)]) (k := 11) rfl 6) rfl) ?_
          refine Tr.build (vs := [(0, (iv xL1.NX)), (1, (iv xL1.NY))]) (cs := [(iv xL1.NX), (iv xL1.NY)]) (wn rfl) rfl (zi rfl (zi rfl evs_nil)) (by kernel_rfl) ?_
          refine Tr.va rfl (fun _ _ h1 h2 => zB fo_46_2 (h1.ev rfl)) ?_
          refine Tr.va rfl (fun _ _ h1 h2 => zR (cs := [(iv xL1.At.X), (iv xL1.At.Y)]) ag_43 sz_43 (h1.ev rfl) (zL.take (rdb h2 (vs := [(iv xL1.Kind), (sv xL1.Name), (iv xL1.At.X), (iv xL1.At.Y), (.slice Au195_0 (xL1.Points).length cu195_0), (iv xL1.NX), (iv xL1.NY), (.slice Au195_1 (xL1.Steps).length cu195_1)]) (k := 11) rfl 2) 2) rfl) ?_
          refine Tr.buildSlice 15 (e := 43) (vs := [(0, (.agg #[(iv xL1.NX), (iv xL1.NY)])), (1, (.agg #[(iv xL1.At.X), (iv xL1.At.Y)]))]) (cs := [(iv xL1.NX), (iv xL1.NY), (iv xL1.At.X), (iv xL1.At.Y)]) (wn rfl) rfl (zi rfl (zi rfl evs_nil)) (by kernel_rfl) fun b228 => ?_
          refine Tr.own 15 zy [(zI.mk xL1.NX xL1.NY), xL1.At] (css := [[(iv xL1.NX), (iv xL1.NY)], [(iv xL1.At.X), (iv xL1.At.Y)]]) rfl (.cons ⟨(), trivial, rfl⟩ (.cons ⟨(), trivial, rfl⟩ .nil)) rfl (by decide) (lit_max rfl) ?_
          obtain ⟨y229, hy229, H⟩ := bnd H
          refine Tr.call0 (r := (sv y229)) (wn rfl) rfl Tryz.call47 (zF rfl zO) (fun W hW => F_plot_points_ok [(zI.mk xL1.NX xL1.NY), xL1.At] (some ⟨b228, 0, none⟩) 2 (hW.slCall (k := 15) rfl) y229 hy229 (HF.start _)) ?_
          obtain ⟨t230, ht230, H⟩ := bnd H
          refine Tr.va rfl (fun _ _ h1 h2 => run_catS (h1.ev rfl) (h1.ev rfl) ht230) ?_
          obtain ⟨t231, ht231, H⟩ := bnd H
          refine Tr.va rfl (fun _ _ h1 h2 => run_catS (h1.ev rfl) (h1.ev rfl) ht231) ?_
          obtain ⟨y232, hy232, H⟩ := bnd H
          refine Tr.callM [0] [sb 95 5 bp0 Am194 cm194 m194] (U := (Option Addr × Nat)) (fun u => (.tuple #[(iv ((t231 : ByteArray).size : Int)), .nilIface])) (fun u => True) (fun u => [sb 95 5 bp0 u.1 u.2 y232]) rfl (zM rfl zY) (fun _ => rfl) (wn rfl) rfl Tryz.call45 (zF rfl (zF rfl zO)) (fun W hW hp hE => zg m194 Am194 cm194 bp0 t231 y232 hy232 hE) ?_
          intro u hu
          obtain ⟨Ay232_0, cy232_0⟩ := u
          have gy232_0 := hu
          have hgy232_0 : True := gy232_0 --@phi
          show Tr _ _ (uf _ 83 (.tuple #[(iv ((t231 : ByteArray).size : Int)), .nilIface])) (up _ 0 (sb 95 5 bp0 Ay232_0 cy232_0 y232)) _
          refine Tr.nil (Tr.zA ?_)
          refine Tr.sr ?_
          refine Tr.mv rfl rfl ?_
          refine Tr.va rfl (fun _ _ h1 h2 => zB fo_46_6 (h1.ev rfl)) ?_
          refine Tr.va rfl (fun _ _ h1 h2 => zC ag_23 (h1.ev rfl) (rdb h2 (vs := [(iv xL1.Kind), (sv xL1.Name), (iv xL1.At.X), (iv xL1.At.Y), (.slice Au195_0 (xL1.Points).length cu195_0), (iv xL1.NX), (iv xL1.NY), (.slice Au195_1 (xL1.Steps).length cu195_1)]) (k := 11) rfl 7) rfl) ?_
          obtain ⟨y234, hy234, H⟩ := bnd H
          refine Tr.callM [0] [sb 95 5 bp0 Ay232_0 cy232_0 y232] (U := (Option Addr × Nat)) (fun u => (.tuple #[])) (fun u => True) (fun u => [sb 95 5 bp0 u.1 u.2 y234]) rfl (zM rfl zY) (fun _ => rfl) (wn rfl) rfl Tryz.call48 (zF rfl (zF rfl zO)) (fun W hW hp hE => hrec y232 Ay232_0 cy232_0 bp0 xL1.Steps Au195_1 cu195_1 (hoku195_1.ext (hW.extS hp)) y234 hy234 hE) ?_
          intro u hu
          obtain ⟨Ay234_0, cy234_0⟩ := u
          have gy234_0 := hu
          have hgy234_0 : True := gy234_0 --@phi
          show Tr _ _ (uf _ 87 (.tuple #[])) (up _ 0 (sb 95 5 bp0 Ay234_0 cy234_0 y234)) _
          refine Tr.nil (Tr.zA ?_)
          refine Tr.region ?_
          refine Tr.mv rfl rfl ?_
          obtain ⟨y236, hy236, H⟩ := bnd H
          refine Tr.callM [0] [sb 95 5 bp0 Ay234_0 cy234_0 y234] (U := (Option Addr × Nat)) (fun u => (.tuple #[(iv (((⟨#[100, 111, 110, 101, 10]⟩) : ByteArray).size : Int)), .nilIface])) (fun u => True) (fun u => [sb 95 5 bp0 u.1 u.2 y236]) rfl (zM rfl zY) (fun _ => rfl) (wn rfl) rfl Tryz.call45 (zF rfl (zF rfl zO)) (fun W hW hp hE => zg y234 Ay234_0 cy234_0 bp0 (⟨#[100, 111, 110, 101, 10]⟩) y236 hy236 hE) ?_
          intro u hu
          obtain ⟨Ay236_0, cy236_0⟩ := u
          have gy236_0 := hu
          have hgy236_0 : True := gy236_0 --@phi
          show Tr _ _ (uf _ 89 (.tuple #[(iv (((⟨#[100, 111, 110, 101, 10]⟩) : ByteArray).size : Int)), .nilIface])) (up _ 0 (sb 95 5 bp0 Ay236_0 cy236_0 y236)) _
          refine Tr.nil (Tr.zW (Tr.zW (Tr.zA ?_)))
          refine Tr.region ?_
          refine Tr.va rfl (fun _ _ h1 h2 => zx (h1.ev rfl) (h1.ev rfl)) ?_
          refine Tr.mv rfl rfl ?_
          refine Tr.nil ?_
          exact Tr.zZ leL1 (restL1, (iL1 + 1), y236, Ay236_0, cy236_0) ⟨rfl, range_tl hdL1, zo hdL1, H⟩ (.cons rfl (.cons rfl (.cons rfl (.cons (congrArg (fun z => some (Value.int .i64 z)) (range_up hdL1 hp1_0.form)) .nil)))) (.cons rfl .nil)
         ·refine Tr.skip (Tr.zW (Tr.zW (Tr.zA ?_)))
          refine Tr.region ?_
          refine Tr.va rfl (fun _ _ h1 h2 => zx (h1.ev rfl) (h1.ev rfl)) ?_
          refine Tr.mv rfl rfl ?_
          refine Tr.nil ?_
          exact Tr.zZ leL1 (restL1, (iL1 + 1), m194, Am194, cm194) ⟨rfl, range_tl hdL1, zo hdL1, H⟩ (.cons rfl (.cons rfl (.cons rfl (.cons (congrArg (fun z => some (Value.int .i64 z)) (range_up hdL1 hp1_0.form)) .nil)))) (.cons rfl .nil)
theorem F_plot_writeSteps_ok : ∀ (N : Nat) {w : Bs} (p0 : ByteArray) (Ap0_0 : Option Addr) (cp0_0 : Nat) (bp0 : Nat) (p1 : (List zD)) (Ap1_0 : Option Addr) (cp1_0 : Nat) (hp1_0 : Sl w.R w.W zG Ap1_0 cp1_0 p1) (r : ByteArray) (H : F_plot_writeSteps N p0 p1 = some r) (hE : HF w w.W (LEn [sb 95 5 bp0 Ap0_0 cp0_0 p0])), Calls Tryz.prog 48 [(.pointer (some ⟨bp0, 0, none⟩)), (.slice Ap1_0 (p1).length cp1_0)].toArray w.W fun e W' => ∃ u : (Option Addr × Nat), e = .returned (.tuple #[]) ∧ (True) ∧ HF w W' (LEn [sb 95 5 bp0 u.1 u.2 r])
 | 0 => by intros; rename_i H _; cases H
 | N + 1 => F_plot_writeSteps_b_ok N (F_plot_writeSteps N) (F_plot_writeSteps_ok N)

theorem F_strings_Builder_Len_ok {w : Bs} (p0 : ByteArray) (Ap0_0 : Option Addr) (cp0_0 : Nat) (bp0 : Nat) (r : (Int × ByteArray)) (H : sbL p0 = some r) (hE : HF w w.W (LEn [sb 95 5 bp0 Ap0_0 cp0_0 p0])) : Calls Tryz.prog 49 [(.pointer (some ⟨bp0, 0, none⟩))].toArray w.W fun e W' => ∃ u : (Option Addr × Nat), e = .returned (iv r.1) ∧ (True) ∧ HF w W' (LEn [sb 95 5 bp0 u.1 u.2 r.2]) :=
 sb_len (ρ := Tryz.bld49_ren) Tryz.bld49 H hE

end Go.Proofs.YtoageaoknnnfbaaGreatDoor
namespace Go.Proofs
open Go.Shelf
def Tryz.bld50_ren : Go.Shelf.Ren := ⟨fun | 169 => 50 | n => n, fun | 5 => 5 | 37 => 93 | 70 => 92 | 72 => 95 | 127 => 132 | n => n, fun n => n⟩
theorem Tryz.bld50 : Go.Proofs.Lays.n169 Tryz.prog Tryz.bld50_ren := {
 mixed := by kernel_rfl
 f169 := Tryz.func50.trans (congrArg some (by kernel_rfl))
 t0 := Tryz.underlying0
 a0 := Tryz.isAgg0
 z0 := Tryz.sizeOf0
 v0 := Tryz.zeroValue0
 t3 := Tryz.underlying3
 a3 := Tryz.isAgg3
 z3 := Tryz.sizeOf3
 v3 := Tryz.zeroValue3
 t9 := Tryz.underlying9
 a9 := Tryz.isAgg9
 z9 := Tryz.sizeOf9
 v9 := Tryz.zeroValue9
 t37 := Tryz.underlying93
 a37 := Tryz.isAgg93
 z37 := Tryz.sizeOf93
 v37 := Tryz.zeroValue93
 t70 := Tryz.underlying92
 a70 := Tryz.isAgg92
 z70 := Tryz.sizeOf92
 v70 := Tryz.zeroValue92
 t72 := Tryz.underlying95
 a72 := Tryz.isAgg95
 z72 := Tryz.sizeOf95
 v72 := Tryz.zeroValue95
 t127 := Tryz.underlying132
 a127 := Tryz.isAgg132
 z127 := Tryz.sizeOf132
 v127 := Tryz.zeroValue132
}
end Go.Proofs
namespace Go.Proofs.YtoageaoknnnfbaaGreatDoor
open Go.RowKit
theorem bX50 : Builder.Extra Tryz.prog Tryz.bld50_ren where
 sizeBuilder := by kernel_rfl
 liesBuilder := by kernel_rfl
 t5 := Tryz.underlying5
 a5 := Tryz.isAgg5
 z5 := Tryz.sizeOf5
 v5 := Tryz.zeroValue5
 infoByte := by kernel_rfl
 cellsByte := by kernel_rfl
 sizeByte := by kernel_rfl
 neB5 := by decide
theorem F_strings_Builder_String_ok {w : Bs} (p0 : ByteArray) (Ap0_0 : Option Addr) (cp0_0 : Nat) (bp0 : Nat) (r : (ByteArray × ByteArray)) (H : sbS p0 = some r) (hE : HF w w.W (LEn [sb 95 5 bp0 Ap0_0 cp0_0 p0])) : Calls Tryz.prog 50 [(.pointer (some ⟨bp0, 0, none⟩))].toArray w.W fun e W' => ∃ u : (Option Addr × Nat), e = .returned (sv r.1) ∧ (True) ∧ HF w W' (LEn [sb 95 5 bp0 u.1 u.2 r.2]) :=
 sb_string (ρ := Tryz.bld50_ren) Tryz.bld50 bX50 H hE

theorem F_plot_Text_ok (N : Nat) {w : Bs} (p0 : zt) (Ap0_0 : Option Addr) (cp0_0 : Nat) (hp0_0 : Sl w.R w.W zK Ap0_0 cp0_0 p0.Tools) (Ap0_1 : Option Addr) (cp0_1 : Nat) (hp0_1 : Sl w.R w.W zG Ap0_1 cp0_1 p0.Steps) (r : (ByteArray × Int)) (H : F_plot_Text N p0 = some r) (hE : HF w w.W E0) : Calls Tryz.prog 25 [(.agg #[(iv p0.Unit), (.slice Ap0_0 (p0.Tools).length cp0_0), (.slice Ap0_1 (p0.Steps).length cp0_1)])].toArray w.W fun e W' => e = .returned (.tuple #[(sv r.1), (iv r.2)]) ∧ HF w W' E0 := by
 unfold F_plot_Text at H
 have leB := Bs.Le.refl w
 refine Tr.enter (n := 61) Tryz.func25 rfl rfl rfl hE ?_
 refine Tr.sr ?_
 refine Tr.box 1 (cs := [(iv p0.Unit), (.slice Ap0_0 (p0.Tools).length cp0_0), (.slice Ap0_1 (p0.Steps).length cp0_1)]) (wn rfl) rfl rfl rfl fun b100 => ?_
 refine Tr.asg rfl rfl ?_
 refine Tr.asg rfl rfl ?_
 refine Tr.nil (Tr.zA ?_)
 refine Tr.seq ?_
 refine Tr.sr ?_
 refine Tr.va rfl (fun _ _ h1 h2 => zR (cs := [(iv p0.Unit), (.slice Ap0_0 (p0.Tools).length cp0_0), (.slice Ap0_1 (p0.Steps).length cp0_1)]) ag_25 sz_25 (h1.ev rfl) (zL.take (rdb h2 (vs := [(iv p0.Unit), (.slice Ap0_0 (p0.Tools).length cp0_0), (.slice Ap0_1 (p0.Steps).length cp0_1)]) (k := 1) rfl 0) 3) rfl) ?_
 obtain ⟨y101, hy101, H⟩ := bnd H
 refine Tr.call0 (r := (iv y101)) (wn rfl) rfl Tryz.call21 (zF rfl zO) (fun W hW => F_plot_CheckPlot_ok N p0 Ap0_0 cp0_0 (hp0_0.ext hW.extAll) Ap0_1 cp0_1 (hp0_1.ext hW.extAll) y101 hy101 (HF.start _)) ?_
 refine Tr.asg rfl rfl ?_
 refine Tr.nil (Tr.zA ?_)
 refine Tr.sr ?_
 refine Tr.mv rfl rfl ?_
 refine Tr.va rfl (fun _ _ h1 h2 => run_neq (h1.ev rfl) (h1.ev rfl)) ?_
 refine Tr.nil (Tr.zA ?_)
 refine Tr.cond rfl H (fun H => ?_) (fun H => ?_)
 ·refine Tr.sr ?_
  refine Tr.mv rfl rfl ?_
  refine Tr.asg rfl rfl ?_
  refine Tr.asg rfl rfl ?_
  refine Tr.nil (Tr.zA ?_)
  refine Tr.ret (Tr.zU ?_)
  obtain rfl := Option.some.inj H
  exact Tr.out (m := [(sv ByteArray.empty), (iv y101)]) [] (zP rfl (zP rfl zQ)) (fun W hW => ⟨rfl, hW.low leB⟩)
 ·refine Tr.skip (Tr.zA ?_)
  refine Tr.sr ?_
  refine Tr.sbNew (e := 5) 2 (wn rfl) rfl zb_95 fun b102 => ?_
  refine Tr.nil (Tr.zA ?_)
  refine Tr.sr ?_
  refine Tr.va rfl (fun _ _ h1 h2 => zB fo_25_0 (h1.ev rfl)) ?_
  refine Tr.va rfl (fun _ _ h1 h2 => zC ag_3 (h1.ev rfl) (rdb h2 (vs := [(iv p0.Unit), (.slice Ap0_0 (p0.Tools).length cp0_0), (.slice Ap0_1 (p0.Steps).length cp0_1)]) (k := 1) rfl 0) rfl) ?_
  obtain ⟨y103, hy103, H⟩ := bnd H
  refine Tr.call0 (r := (sv y103)) (wn rfl) rfl Tryz.call46 (zF rfl zO) (fun W hW => F_strconv_Itoa_ok p0.Unit y103 hy103 (HF.start _)) ?_
  obtain ⟨t104, ht104, H⟩ := bnd H
  refine Tr.va rfl (fun _ _ h1 h2 => run_catS (h1.ev rfl) (h1.ev rfl) ht104) ?_
  obtain ⟨t105, ht105, H⟩ := bnd H
  refine Tr.va rfl (fun _ _ h1 h2 => run_catS (h1.ev rfl) (h1.ev rfl) ht105) ?_
  obtain ⟨y106, hy106, H⟩ := bnd H
  refine Tr.callM [2] [sb 95 5 b102 none 0 ByteArray.empty] (U := (Option Addr × Nat)) (fun u => (.tuple #[(iv ((t105 : ByteArray).size : Int)), .nilIface])) (fun u => True) (fun u => [sb 95 5 b102 u.1 u.2 y106]) rfl (zM rfl zY) (fun _ => rfl) (wn rfl) rfl Tryz.call45 (zF rfl (zF rfl zO)) (fun W hW hp hE => zg ByteArray.empty none 0 b102 t105 y106 hy106 hE) ?_
  intro u hu
  obtain ⟨Ay106_0, cy106_0⟩ := u
  have gy106_0 := hu
  have hgy106_0 : True := gy106_0 --@phi
  show Tr _ _ (uf _ 20 (.tuple #[(iv ((t105 : ByteArray).size : Int)), .nilIface])) (up _ 2 (sb 95 5 b102 Ay106_0 cy106_0 y106)) _
  refine Tr.nil (Tr.zA ?_)
  refine Tr.seq ?_
  refine Tr.sr ?_
  refine Tr.va rfl (fun _ _ h1 h2 => zB fo_25_1 (h1.ev rfl)) ?_
  refine Tr.va rfl (fun _ _ h1 h2 => zC ag_22 (h1.ev rfl) (rdb h2 (vs := [(iv p0.Unit), (.slice Ap0_0 (p0.Tools).length cp0_0), (.slice Ap0_1 (p0.Steps).length cp0_1)]) (k := 1) rfl 1) rfl) ?_
  refine Tr.va rfl (fun _ _ h1 h2 => zq un_22 (h1.ev rfl)) ?_
  refine Tr.mv rfl rfl ?_
  refine Tr.nil (Tr.zA ?_)
  refine Tr.block ?_
  refine Tr.loop (σ := (List zS) × Nat × ByteArray × (Option Addr) × Nat) (fun m w s => m = s.1.length + 1 ∧ s.1 = List.drop s.2.1 p0.Tools ∧ s.2.1 ≤ p0.Tools.length ∧ F_plot_Text_L3 N p0 s.1 s.2.1 s.2.2.1 = some r) (fun s => [(1, (.pointer (some ⟨b100, 0, none⟩))), (5, (.pointer (some ⟨b102, 0, none⟩))), (22, (.slice Ap0_0 (p0.Tools).length cp0_0)), (23, (iv (p0.Tools.length : Int))), (24, (iv (s.2.1 : Int)))]) (fun s => [(1, bx b100 #[(iv p0.Unit), (.slice Ap0_0 (p0.Tools).length cp0_0), (.slice Ap0_1 (p0.Steps).length cp0_1)] 25), (2, sb 95 5 b102 s.2.2.2.1 s.2.2.2.2 s.2.2.1)]) (p0.Tools.length + 1) (p0.Tools, 0, y106, Ay106_0, cy106_0) ⟨rfl, rfl, Nat.zero_le _, H⟩ (.cons rfl (.cons rfl (.cons rfl (.cons rfl (.cons rfl .nil))))) (.cons rfl (.cons rfl .nil)) (fun _ _ h => absurd h.1 (by simp)) ?_
  intro w leL3 m s hs
  obtain ⟨restL3, iL3, m178, Am178, cm178⟩ := s
  obtain ⟨hmL3, hdL3, hiL3, H⟩ := hs
  replace hdL3 : restL3 = List.drop iL3 p0.Tools := hdL3
  replace H : F_plot_Text_L3 N p0 restL3 iL3 m178 = some r := H
  replace hmL3 : m + 1 = restL3.length + 1 := hmL3
  replace hp0_0 := hp0_0.leR leL3
  replace hp0_1 := hp0_1.leR leL3
  replace leB := leB.trans leL3
  obtain rfl : m = restL3.length := by omega
  clear hmL3
  show Tr _ _ (LF [(1, (.pointer (some ⟨b100, 0, none⟩))), (5, (.pointer (some ⟨b102, 0, none⟩))), (22, (.slice Ap0_0 (p0.Tools).length cp0_0)), (23, (iv (p0.Tools.length : Int))), (24, (iv (iL3 : Int)))]) (LE [(1, bx b100 #[(iv p0.Unit), (.slice Ap0_0 (p0.Tools).length cp0_0), (.slice Ap0_1 (p0.Steps).length cp0_1)] 25), (2, sb 95 5 b102 Am178 cm178 m178)]) _
  cases restL3 with
  | nil =>
   rw [F_plot_Text_L3.eq_1] at H
   refine Tr.sr ?_
   refine Tr.va rfl (fun _ _ h1 h2 => zz (h1.ev rfl) (h1.ev rfl)) ?_
   refine Tr.nil (Tr.zA ?_)
   refine Tr.seq ?_
   refine Tr.condF rfl (range_nil hdL3) ?_
   refine Tr.exit (Tr.zX (Tr.zX (Tr.zAC (Tr.zA ?_))))
   refine Tr.sr ?_
   refine Tr.va rfl (fun _ _ h1 h2 => zB fo_25_2 (h1.ev rfl)) ?_
   refine Tr.va rfl (fun _ _ h1 h2 => zC ag_23 (h1.ev rfl) (rdb h2 (vs := [(iv p0.Unit), (.slice Ap0_0 (p0.Tools).length cp0_0), (.slice Ap0_1 (p0.Steps).length cp0_1)]) (k := 1) rfl 2) rfl) ?_
   obtain ⟨y179, hy179, H⟩ := bnd H
   refine Tr.callM [2] [sb 95 5 b102 Am178 cm178 m178] (U := (Option Addr × Nat)) (fun u => (.tuple #[])) (fun u => True) (fun u => [sb 95 5 b102 u.1 u.2 y179]) rfl (zM rfl zY) (fun _ => rfl) (wn rfl) rfl Tryz.call48 (zF rfl (zF rfl zO)) (fun W hW hp hE => F_plot_writeSteps_ok N m178 Am178 cm178 b102 p0.Steps Ap0_1 cp0_1 (hp0_1.ext (hW.extS hp)) y179 hy179 hE) ?_
   intro u hu
   obtain ⟨Ay179_0, cy179_0⟩ := u
   have gy179_0 := hu
   have hgy179_0 : True := gy179_0 --@phi
   show Tr _ _ (uf _ 57 (.tuple #[])) (up _ 2 (sb 95 5 b102 Ay179_0 cy179_0 y179)) _
   refine Tr.nil (Tr.zA ?_)
   refine Tr.seq ?_
   refine Tr.sr ?_
   obtain ⟨y181, hy181, H⟩ := bnd H
   refine Tr.callM [2] [sb 95 5 b102 Ay179_0 cy179_0 y179] (U := (Option Addr × Nat)) (fun u => (iv y181.1)) (fun u => True) (fun u => [sb 95 5 b102 u.1 u.2 y181.2]) rfl (zM rfl zY) (fun _ => rfl) (wn rfl) rfl Tryz.call49 (zF rfl zO) (fun W hW hp hE => F_strings_Builder_Len_ok y179 Ay179_0 cy179_0 b102 y181 hy181 hE) ?_
   intro u hu
   obtain ⟨Ay181_0, cy181_0⟩ := u
   have gy181_0 := hu
   have hgy181_0 : True := gy181_0 --@phi
   show Tr _ _ (uf _ 58 (iv y181.1)) (up _ 2 (sb 95 5 b102 Ay181_0 cy181_0 y181.2)) _
   refine Tr.va rfl (fun _ _ h1 h2 => run_gtr (h1.ev rfl) (h1.ev rfl)) ?_
   refine Tr.nil (Tr.zA ?_)
   refine Tr.cond rfl H (fun H => ?_) (fun H => ?_)
   ·refine Tr.sr ?_
    refine Tr.asg rfl rfl ?_
    refine Tr.asg rfl rfl ?_
    refine Tr.nil (Tr.zA ?_)
    refine Tr.ret (Tr.zU ?_)
    obtain rfl := Option.some.inj H
    exact Tr.out (m := [(sv ByteArray.empty), (iv 2)]) [] (zP rfl (zP rfl zQ)) (fun W hW => ⟨rfl, hW.low leB⟩)
   ·refine Tr.skip (Tr.zA ?_)
    refine Tr.sr ?_
    obtain ⟨y183, hy183, H⟩ := bnd H
    refine Tr.callM [2] [sb 95 5 b102 Ay181_0 cy181_0 y181.2] (U := (Option Addr × Nat)) (fun u => (sv y183.1)) (fun u => True) (fun u => [sb 95 5 b102 u.1 u.2 y183.2]) rfl (zM rfl zY) (fun _ => rfl) (wn rfl) rfl Tryz.call50 (zF rfl zO) (fun W hW hp hE => F_strings_Builder_String_ok y181.2 Ay181_0 cy181_0 b102 y183 hy183 hE) ?_
    intro u hu
    obtain ⟨Ay183_0, cy183_0⟩ := u
    have gy183_0 := hu
    have hgy183_0 : True := gy183_0 --@phi
    show Tr _ _ (uf _ 60 (sv y183.1)) (up _ 2 (sb 95 5 b102 Ay183_0 cy183_0 y183.2)) _
    refine Tr.asg rfl rfl ?_
    refine Tr.asg rfl rfl ?_
    refine Tr.nil (Tr.zA ?_)
    refine Tr.ret ?_
    obtain rfl := Option.some.inj H
    exact Tr.out (m := [(sv y183.1), (iv 0)]) [] (zP rfl (zP rfl zQ)) (fun W hW => ⟨rfl, hW.low leB⟩)
  | cons xL3 restL3 =>
   rw [F_plot_Text_L3.eq_2] at H
   refine Tr.sr ?_
   refine Tr.va rfl (fun _ _ h1 h2 => zz (h1.ev rfl) (h1.ev rfl)) ?_
   refine Tr.nil (Tr.zA ?_)
   refine Tr.seq ?_
   refine Tr.condT rfl (range_on hdL3) ?_
   refine Tr.skip (Tr.zA ?_)
   refine Tr.seq ?_
   refine Tr.block ?_
   refine Tr.sr ?_
   obtain ⟨u185, hRu185, hoku185, hcu185⟩ := (hp0_0).el (range_at hdL3)
   obtain ⟨Au185_0, cu185_0⟩ := u185
   have hoku185_0 := hoku185
   replace hoku185_0 : Sl w.R w.W zN Au185_0 cu185_0 xL3.Rects := hoku185_0
   refine Tr.va rfl (fun _ _ h1 h2 => zH el_22 (h1.ev rfl) hp0_0.form (h1.ev rfl) (Int.natCast_nonneg _) (zo hdL3)) ?_
   refine Tr.va rfl (fun _ _ h1 h2 => zR (cs := [(sv xL3.Name), (.slice Au185_0 (xL3.Rects).length cu185_0)]) ag_64 sz_64 (h1.ev rfl) (zL.take (rdR hRu185 hcu185 h2) 2) rfl) ?_
   refine Tr.alloc 17 (wn rfl) rfl ze_64 fun b186 => ?_
   refine Tr.store 17 (cs := [(sv xL3.Name), (.slice Au185_0 (xL3.Rects).length cu185_0)]) [(sv xL3.Name), (.slice Au185_0 (xL3.Rects).length cu185_0)] (wn rfl) rfl rfl rfl rfl sz_64 rfl rfl rfl ?_
   refine Tr.nil (Tr.zA ?_)
   refine Tr.sr ?_
   refine Tr.va rfl (fun _ _ h1 h2 => zB fo_64_0 (h1.ev rfl)) ?_
   refine Tr.va rfl (fun _ _ h1 h2 => zC ag_9 (h1.ev rfl) (rdb h2 (vs := [(sv xL3.Name), (.slice Au185_0 (xL3.Rects).length cu185_0)]) (k := 17) rfl 0) rfl) ?_
   obtain ⟨t187, ht187, H⟩ := bnd H
   refine Tr.va rfl (fun _ _ h1 h2 => run_catS (h1.ev rfl) (h1.ev rfl) ht187) ?_
   obtain ⟨y188, hy188, H⟩ := bnd H
   refine Tr.callM [2] [sb 95 5 b102 Am178 cm178 m178] (U := (Option Addr × Nat)) (fun u => (.tuple #[(iv ((t187 : ByteArray).size : Int)), .nilIface])) (fun u => True) (fun u => [sb 95 5 b102 u.1 u.2 y188]) rfl (zM rfl zY) (fun _ => rfl) (wn rfl) rfl Tryz.call45 (zF rfl (zF rfl zO)) (fun W hW hp hE => zg m178 Am178 cm178 b102 t187 y188 hy188 hE) ?_
   intro u hu
   obtain ⟨Ay188_0, cy188_0⟩ := u
   have gy188_0 := hu
   have hgy188_0 : True := gy188_0 --@phi
   show Tr _ _ (uf _ 31 (.tuple #[(iv ((t187 : ByteArray).size : Int)), .nilIface])) (up _ 2 (sb 95 5 b102 Ay188_0 cy188_0 y188)) _
   refine Tr.nil (Tr.zA ?_)
   refine Tr.seq ?_
   refine Tr.sr ?_
   refine Tr.va rfl (fun _ _ h1 h2 => zB fo_64_1 (h1.ev rfl)) ?_
   refine Tr.va rfl (fun _ _ h1 h2 => zC ag_31 (h1.ev rfl) (rdb h2 (vs := [(sv xL3.Name), (.slice Au185_0 (xL3.Rects).length cu185_0)]) (k := 17) rfl 1) rfl) ?_
   refine Tr.va rfl (fun _ _ h1 h2 => zq un_31 (h1.ev rfl)) ?_
   refine Tr.mv rfl rfl ?_
   refine Tr.nil (Tr.zA ?_)
   refine Tr.block ?_
   refine Tr.loop (σ := (List zT) × Nat × ByteArray × (Option Addr) × Nat) (fun m w s => m = s.1.length + 1 ∧ s.1 = List.drop s.2.1 xL3.Rects ∧ s.2.1 ≤ xL3.Rects.length ∧ F_plot_Text_L4 (F_plot_Text_L3 N p0 restL3 (iL3 + 1)) s.1 s.2.1 s.2.2.1 = some r) (fun s => [(1, (.pointer (some ⟨b100, 0, none⟩))), (5, (.pointer (some ⟨b102, 0, none⟩))), (22, (.slice Ap0_0 (p0.Tools).length cp0_0)), (23, (iv (p0.Tools.length : Int))), (24, (iv (iL3 : Int))), (33, (.slice Au185_0 (xL3.Rects).length cu185_0)), (34, (iv (xL3.Rects.length : Int))), (35, (iv (s.2.1 : Int)))]) (fun s => [(1, bx b100 #[(iv p0.Unit), (.slice Ap0_0 (p0.Tools).length cp0_0), (.slice Ap0_1 (p0.Steps).length cp0_1)] 25), (2, sb 95 5 b102 s.2.2.2.1 s.2.2.2.2 s.2.2.1)]) (xL3.Rects.length + 1) (xL3.Rects, 0, y188, Ay188_0, cy188_0) ⟨rfl, rfl, Nat.zero_le _, H⟩ (.cons rfl (.cons rfl (.cons rfl (.cons rfl (.cons rfl (.cons rfl (.cons rfl (.cons rfl .nil)))))))) (.cons rfl (.cons rfl .nil)) (fun _ _ h => absurd h.1 (by simp)) ?_
   intro w leL4 m s hs
   obtain ⟨restL4, iL4, m208, Am208, cm208⟩ := s
   obtain ⟨hmL4, hdL4, hiL4, H⟩ := hs
   replace hdL4 : restL4 = List.drop iL4 xL3.Rects := hdL4
   replace H : F_plot_Text_L4 (F_plot_Text_L3 N p0 restL3 (iL3 + 1)) restL4 iL4 m208 = some r := H
   replace hmL4 : m + 1 = restL4.length + 1 := hmL4
   replace hp0_0 := hp0_0.leR leL4
   replace hp0_1 := hp0_1.leR leL4
   replace hoku185_0 := hoku185_0.leR leL4
   replace leB := leB.trans leL4
   replace leL3 := leL3.trans leL4
   obtain rfl : m = restL4.length := by omega
   clear hmL4
   show Tr _ _ (LF [(1, (.pointer (some ⟨b100, 0, none⟩))), (5, (.pointer (some ⟨b102, 0, none⟩))), (22, (.slice Ap0_0 (p0.Tools).length cp0_0)), (23, (iv (p0.Tools.length : Int))), (24, (iv (iL3 : Int))), (33, (.slice Au185_0 (xL3.Rects).length cu185_0)), (34, (iv (xL3.Rects.length : Int))), (35, (iv (iL4 : Int)))]) (LE [(1, bx b100 #[(iv p0.Unit), (.slice Ap0_0 (p0.Tools).length cp0_0), (.slice Ap0_1 (p0.Steps).length cp0_1)] 25), (2, sb 95 5 b102 Am208 cm208 m208)]) _
   cases restL4 with
   | nil =>
    rw [F_plot_Text_L4.eq_1] at H
    refine Tr.sr ?_
    refine Tr.va rfl (fun _ _ h1 h2 => zz (h1.ev rfl) (h1.ev rfl)) ?_
    refine Tr.nil (Tr.zA ?_)
    refine Tr.seq ?_
    refine Tr.condF rfl (range_nil hdL4) ?_
    refine Tr.exit (Tr.zX (Tr.zX (Tr.zAC (Tr.zA ?_))))
    refine Tr.region ?_
    obtain ⟨y209, hy209, H⟩ := bnd H
    refine Tr.callM [2] [sb 95 5 b102 Am208 cm208 m208] (U := (Option Addr × Nat)) (fun u => (.tuple #[(iv (((⟨#[10]⟩) : ByteArray).size : Int)), .nilIface])) (fun u => True) (fun u => [sb 95 5 b102 u.1 u.2 y209]) rfl (zM rfl zY) (fun _ => rfl) (wn rfl) rfl Tryz.call45 (zF rfl (zF rfl zO)) (fun W hW hp hE => zg m208 Am208 cm208 b102 (⟨#[10]⟩) y209 hy209 hE) ?_
    intro u hu
    obtain ⟨Ay209_0, cy209_0⟩ := u
    have gy209_0 := hu
    have hgy209_0 : True := gy209_0 --@phi
    show Tr _ _ (uf _ 53 (.tuple #[(iv (((⟨#[10]⟩) : ByteArray).size : Int)), .nilIface])) (up _ 2 (sb 95 5 b102 Ay209_0 cy209_0 y209)) _
    refine Tr.nil (Tr.zW (Tr.zA ?_))
    refine Tr.region ?_
    refine Tr.va rfl (fun _ _ h1 h2 => zx (h1.ev rfl) (h1.ev rfl)) ?_
    refine Tr.mv rfl rfl ?_
    refine Tr.nil ?_
    exact Tr.zZ leL3 (restL3, (iL3 + 1), y209, Ay209_0, cy209_0) ⟨rfl, range_tl hdL3, zo hdL3, H⟩ (.cons rfl (.cons rfl (.cons rfl (.cons rfl (.cons (congrArg (fun z => some (Value.int .i64 z)) (range_up hdL3 hp0_0.form)) .nil))))) (.cons rfl (.cons rfl .nil))
   | cons xL4 restL4 =>
    rw [F_plot_Text_L4.eq_2] at H
    refine Tr.sr ?_
    refine Tr.va rfl (fun _ _ h1 h2 => zz (h1.ev rfl) (h1.ev rfl)) ?_
    refine Tr.nil (Tr.zA ?_)
    refine Tr.seq ?_
    refine Tr.condT rfl (range_on hdL4) ?_
    refine Tr.skip (Tr.zA ?_)
    refine Tr.seq ?_
    refine Tr.block ?_
    refine Tr.sr ?_
    refine Tr.va rfl (fun _ _ h1 h2 => zH el_31 (h1.ev rfl) hoku185_0.form (h1.ev rfl) (Int.natCast_nonneg _) (zo hdL4)) ?_
    refine Tr.va rfl (fun _ _ h1 h2 => zR (cs := [(iv xL4.X0), (iv xL4.Y0), (iv xL4.X1), (iv xL4.Y1)]) ag_36 sz_36 (h1.ev rfl) (zL.take (rdF ef_TRect hoku185_0 (range_at hdL4) h2) 4) rfl) ?_
    refine Tr.alloc 22 (wn rfl) rfl ze_36 fun b211 => ?_
    refine Tr.store 22 (cs := [(iv xL4.X0), (iv xL4.Y0), (iv xL4.X1), (iv xL4.Y1)]) [(iv xL4.X0), (iv xL4.Y0), (iv xL4.X1), (iv xL4.Y1)] (wn rfl) rfl rfl rfl rfl sz_36 rfl rfl rfl ?_
    refine Tr.nil (Tr.zA ?_)
    refine Tr.region ?_
    refine Tr.va rfl (fun _ _ h1 h2 => zB fo_36_0 (h1.ev rfl)) ?_
    refine Tr.va rfl (fun _ _ h1 h2 => zC ag_3 (h1.ev rfl) (rdb h2 (vs := [(iv xL4.X0), (iv xL4.Y0), (iv xL4.X1), (iv xL4.Y1)]) (k := 22) rfl 0) rfl) ?_
    refine Tr.va rfl (fun _ _ h1 h2 => zB fo_36_1 (h1.ev rfl)) ?_
    refine Tr.va rfl (fun _ _ h1 h2 => zC ag_3 (h1.ev rfl) (rdb h2 (vs := [(iv xL4.X0), (iv xL4.Y0), (iv xL4.X1), (iv xL4.Y1)]) (k := 22) rfl 1) rfl) ?_
    refine Tr.build (vs := [(0, (iv xL4.X0)), (1, (iv xL4.Y0))]) (cs := [(iv xL4.X0), (iv xL4.Y0)]) (wn rfl) rfl (zi rfl (zi rfl evs_nil)) (by kernel_rfl) ?_
    refine Tr.va rfl (fun _ _ h1 h2 => zB fo_36_2 (h1.ev rfl)) ?_
    refine Tr.va rfl (fun _ _ h1 h2 => zC ag_3 (h1.ev rfl) (rdb h2 (vs := [(iv xL4.X0), (iv xL4.Y0), (iv xL4.X1), (iv xL4.Y1)]) (k := 22) rfl 2) rfl) ?_
    refine Tr.va rfl (fun _ _ h1 h2 => zB fo_36_3 (h1.ev rfl)) ?_
    refine Tr.va rfl (fun _ _ h1 h2 => zC ag_3 (h1.ev rfl) (rdb h2 (vs := [(iv xL4.X0), (iv xL4.Y0), (iv xL4.X1), (iv xL4.Y1)]) (k := 22) rfl 3) rfl) ?_
    refine Tr.build (vs := [(0, (iv xL4.X1)), (1, (iv xL4.Y1))]) (cs := [(iv xL4.X1), (iv xL4.Y1)]) (wn rfl) rfl (zi rfl (zi rfl evs_nil)) (by kernel_rfl) ?_
    refine Tr.buildSlice 23 (e := 43) (vs := [(0, (.agg #[(iv xL4.X0), (iv xL4.Y0)])), (1, (.agg #[(iv xL4.X1), (iv xL4.Y1)]))]) (cs := [(iv xL4.X0), (iv xL4.Y0), (iv xL4.X1), (iv xL4.Y1)]) (wn rfl) rfl (zi rfl (zi rfl evs_nil)) (by kernel_rfl) fun b212 => ?_
    refine Tr.own 23 zy [(zI.mk xL4.X0 xL4.Y0), (zI.mk xL4.X1 xL4.Y1)] (css := [[(iv xL4.X0), (iv xL4.Y0)], [(iv xL4.X1), (iv xL4.Y1)]]) rfl (.cons ⟨(), trivial, rfl⟩ (.cons ⟨(), trivial, rfl⟩ .nil)) rfl (by decide) (lit_max rfl) ?_
    obtain ⟨y213, hy213, H⟩ := bnd H
    refine Tr.call0 (r := (sv y213)) (wn rfl) rfl Tryz.call47 (zF rfl zO) (fun W hW => F_plot_points_ok [(zI.mk xL4.X0 xL4.Y0), (zI.mk xL4.X1 xL4.Y1)] (some ⟨b212, 0, none⟩) 2 (hW.slCall (k := 23) rfl) y213 hy213 (HF.start _)) ?_
    obtain ⟨y214, hy214, H⟩ := bnd H
    refine Tr.callM [2] [sb 95 5 b102 Am208 cm208 m208] (U := (Option Addr × Nat)) (fun u => (.tuple #[(iv ((y213 : ByteArray).size : Int)), .nilIface])) (fun u => True) (fun u => [sb 95 5 b102 u.1 u.2 y214]) rfl (zM rfl zY) (fun _ => rfl) (wn rfl) rfl Tryz.call45 (zF rfl (zF rfl zO)) (fun W hW hp hE => zg m208 Am208 cm208 b102 y213 y214 hy214 hE) ?_
    intro u hu
    obtain ⟨Ay214_0, cy214_0⟩ := u
    have gy214_0 := hu
    have hgy214_0 : True := gy214_0 --@phi
    show Tr _ _ (uf _ 51 (.tuple #[(iv ((y213 : ByteArray).size : Int)), .nilIface])) (up _ 2 (sb 95 5 b102 Ay214_0 cy214_0 y214)) _
    refine Tr.nil (Tr.zW (Tr.zA ?_))
    refine Tr.region ?_
    refine Tr.va rfl (fun _ _ h1 h2 => zx (h1.ev rfl) (h1.ev rfl)) ?_
    refine Tr.mv rfl rfl ?_
    refine Tr.nil ?_
    exact Tr.zZ leL4 (restL4, (iL4 + 1), y214, Ay214_0, cy214_0) ⟨rfl, range_tl hdL4, zo hdL4, H⟩ (.cons rfl (.cons rfl (.cons rfl (.cons rfl (.cons rfl (.cons rfl (.cons rfl (.cons (congrArg (fun z => some (Value.int .i64 z)) (range_up hdL4 hoku185_0.form)) .nil)))))))) (.cons rfl (.cons rfl .nil))

theorem F_etchhouselaw3_awake_ok (N : Nat) {w : Bs}  (r : Bool) (H : F_etchhouselaw3_awake N = some r) (hE : HF w w.W E0) : Calls Tryz.prog 8 [].toArray w.W fun e W' => e = .returned (.bool r) ∧ HF w W' E0 := by
 unfold F_etchhouselaw3_awake at H
 have leB := Bs.Le.refl w
 refine Tr.enter (n := 14) Tryz.func8 rfl rfl rfl hE ?_
 refine Tr.sr ?_
 refine Tr.asg rfl rfl ?_
 refine Tr.nil (Tr.zA ?_)
 refine Tr.sr ?_
 refine Tr.build (vs := [(0, (iv 7))]) (cs := [(iv 7), (.slice none 0 0), (.slice none 0 0)]) (wn rfl) rfl (zi rfl evs_nil) (by kernel_rfl) ?_
 obtain ⟨y100, hy100, H⟩ := bnd H
 refine Tr.call0 (r := (.tuple #[(sv y100.1), (iv y100.2)])) (wn rfl) rfl Tryz.call25 (zF rfl zO) (fun W hW => F_plot_Text_ok N (zt.mk 7 [] []) none 0 (Sl.nil _ _ _) none 0 (Sl.nil _ _ _) y100 hy100 (HF.start _)) ?_
 refine Tr.mv rfl rfl ?_
 refine Tr.va rfl (fun _ _ h1 h2 => run_extract (h1.ev rfl) rfl) ?_
 refine Tr.va rfl (fun _ _ h1 h2 => run_extract (h1.ev rfl) rfl) ?_
 refine Tr.asg rfl rfl ?_
 refine Tr.asg rfl rfl ?_
 refine Tr.nil (Tr.zA ?_)
 refine Tr.sr ?_
 refine Tr.mv rfl rfl ?_
 refine Tr.va rfl (fun _ _ h1 h2 => run_eql (h1.ev rfl) (h1.ev rfl)) ?_
 refine Tr.mv rfl rfl ?_
 refine Tr.mid0 3 [(13, (.bool ((y100.2 == 0) && (sEq y100.1 (⟨#[117, 110, 105, 116, 32, 55, 10]⟩)))))] [] ?_ ?_
 ·cases hg100 : (y100.2 == 0)
  ·refine Tr.pass rfl rfl rfl rfl rfl (by decide) ?_
   refine Tr.pass rfl rfl rfl rfl rfl (by decide) ?_
   refine Tr.va rfl (fun _ _ h1 h2 => zf (h1.ev rfl) (h1.ev rfl)) ?_
   exact Tr.nil (Tr.fin0 (.cons rfl .nil) .nil)
  ·refine Tr.val (wg rfl rfl rfl) rfl (fun _ _ h1 h2 => run_move (h1.ev rfl)) ?_
   refine Tr.val (wg rfl rfl rfl) rfl (fun _ _ h1 h2 => run_eqlS (h1.ev rfl) (h1.ev rfl)) ?_
   refine Tr.va rfl (fun _ _ h1 h2 => ze (h1.ev rfl) (h1.ev rfl)) ?_
   exact Tr.nil (Tr.fin0 (.cons rfl .nil) .nil)
 ·show Tr _ _ (LF [(13, (.bool ((y100.2 == 0) && (sEq y100.1 (⟨#[117, 110, 105, 116, 32, 55, 10]⟩)))))]) (LE []) _
  refine Tr.asg rfl rfl ?_
  refine Tr.nil (Tr.zA ?_)
  refine Tr.ret ?_
  obtain rfl := Option.some.inj H
  exact Tr.out (m := [(.bool ((y100.2 == 0) && (sEq y100.1 (⟨#[117, 110, 105, 116, 32, 55, 10]⟩))))]) [] (zP rfl zQ) (fun W hW => ⟨rfl, hW.low leB⟩)

theorem F_etchhouseref3_samePoints_ok (N : Nat) {w : Bs} (p0 : (List zI)) (Ap0_0 : Option Addr) (cp0_0 : Nat) (hp0_0 : Sl w.R w.W zy Ap0_0 cp0_0 p0) (p1 : (List zI)) (Ap1_0 : Option Addr) (cp1_0 : Nat) (hp1_0 : Sl w.R w.W zy Ap1_0 cp1_0 p1) (r : Bool) (H : F_etchhouseref3_samePoints N p0 p1 = some r) (hE : HF w w.W E0) : Calls Tryz.prog 51 [(.slice Ap0_0 (p0).length cp0_0), (.slice Ap1_0 (p1).length cp1_0)].toArray w.W fun e W' => e = .returned (.bool r) ∧ HF w W' E0 := by
 unfold F_etchhouseref3_samePoints at H
 have leB := Bs.Le.refl w
 refine Tr.enter (n := 26) Tryz.func51 rfl rfl rfl hE ?_
 refine Tr.sr ?_
 refine Tr.asg rfl rfl ?_
 refine Tr.nil (Tr.zA ?_)
 refine Tr.seq ?_
 refine Tr.sr ?_
 refine Tr.mv rfl rfl ?_
 refine Tr.va rfl (fun _ _ h1 h2 => zq un_44 (h1.ev rfl)) ?_
 refine Tr.mv rfl rfl ?_
 refine Tr.va rfl (fun _ _ h1 h2 => zq un_44 (h1.ev rfl)) ?_
 refine Tr.va rfl (fun _ _ h1 h2 => run_neq (h1.ev rfl) (h1.ev rfl)) ?_
 refine Tr.nil (Tr.zA ?_)
 refine Tr.cond rfl H (fun H => ?_) (fun H => ?_)
 ·refine Tr.sr ?_
  refine Tr.asg rfl rfl ?_
  refine Tr.nil (Tr.zA ?_)
  refine Tr.ret (Tr.zU ?_)
  obtain rfl := Option.some.inj H
  exact Tr.out (m := [(.bool false)]) [] (zP rfl zQ) (fun W hW => ⟨rfl, hW.low leB⟩)
 ·refine Tr.skip (Tr.zA ?_)
  refine Tr.seq ?_
  refine Tr.sr ?_
  refine Tr.asg rfl rfl ?_
  refine Tr.nil (Tr.zA ?_)
  refine Tr.block ?_
  refine Tr.loop (σ := Int) (fun m w s => zAM p0 p1 m s = some r) (fun s => [(0, (.slice Ap0_0 (p0).length cp0_0)), (1, (.slice Ap1_0 (p1).length cp1_0)), (5, (iv s))]) (fun s => []) N 0 H (.cons rfl (.cons rfl (.cons rfl .nil))) .nil (fun _ _ h => noSome (h)) ?_
  intro w leL1 mL1 x107 hs
  have H := hs
  replace H : zAM p0 p1 (mL1 + 1) x107 = some r := H
  replace hp0_0 := hp0_0.leR leL1
  replace hp1_0 := hp1_0.leR leL1
  replace leB := leB.trans leL1
  rw [zAM.eq_2] at H
  show Tr _ _ (LF [(0, (.slice Ap0_0 (p0).length cp0_0)), (1, (.slice Ap1_0 (p1).length cp1_0)), (5, (iv x107))]) (LE []) _
  refine Tr.seq ?_
  refine Tr.sr ?_
  refine Tr.mv rfl rfl ?_
  refine Tr.mv rfl rfl ?_
  refine Tr.va rfl (fun _ _ h1 h2 => zq un_44 (h1.ev rfl)) ?_
  refine Tr.va rfl (fun _ _ h1 h2 => zz (h1.ev rfl) (h1.ev rfl)) ?_
  refine Tr.nil (Tr.zA ?_)
  refine Tr.cond rfl H (fun H => ?_) (fun H => ?_)
  ·refine Tr.skip (Tr.zA ?_)
   refine Tr.seq ?_
   refine Tr.block ?_
   refine Tr.seq ?_
   refine Tr.draw (by kernel_rfl) (by kernel_rfl) ?_
   refine Tq.mv rfl rfl ?_
   refine Tq.mv rfl rfl ?_
   obtain ⟨x108, hx108, H⟩ := bnd H
   obtain ⟨hx1080, hx1081, hx1082⟩ := zh hx108
   refine Tq.va rfl (fun _ _ h1 h2 => zH el_44 (h1.ev rfl) hp0_0.form (h1.ev rfl) hx1080 hx1081) ?_
   refine Tq.va rfl (fun _ _ h1 h2 => zR (cs := [(iv x108.X), (iv x108.Y)]) ag_43 sz_43 (h1.ev rfl) (zL.take (rdF ef_TPoint hp0_0 hx1082 h2) 2) rfl) ?_
   refine Tq.mv rfl rfl ?_
   refine Tq.mv rfl rfl ?_
   obtain ⟨x109, hx109, H⟩ := bnd H
   obtain ⟨hx1090, hx1091, hx1092⟩ := zh hx109
   refine Tq.va rfl (fun _ _ h1 h2 => zH el_44 (h1.ev rfl) hp1_0.form (h1.ev rfl) hx1090 hx1091) ?_
   refine Tq.va rfl (fun _ _ h1 h2 => zR (cs := [(iv x109.X), (iv x109.Y)]) ag_43 sz_43 (h1.ev rfl) (zL.take (rdF ef_TPoint hp1_0 hx1092 h2) 2) rfl) ?_
   refine Tq.va rfl (fun _ _ h1 h2 => run_neq_43 x108 x109 (h1.ev rfl) (h1.ev rfl)) ?_
   refine Tq.nil (Tr.zA ?_)
   refine Tr.cond rfl H (fun H => ?_) (fun H => ?_)
   ·refine Tr.sr ?_
    refine Tr.asg rfl rfl ?_
    refine Tr.nil (Tr.zA ?_)
    refine Tr.ret (Tr.zAB (Tr.zU (Tr.zU (Tr.zAB (Tr.zU ?_)))))
    obtain rfl := Option.some.inj H
    exact Tr.out (m := [(.bool false)]) [] (zP rfl zQ) (fun W hW => ⟨rfl, hW.low leB⟩)
   ·refine Tr.skip (Tr.zW (Tr.zA ?_))
    refine Tr.region ?_
    refine Tr.mv rfl rfl ?_
    refine Tr.va rfl (fun _ _ h1 h2 => zx (h1.ev rfl) (h1.ev rfl)) ?_
    refine Tr.asg rfl rfl ?_
    refine Tr.nil ?_
    exact Tr.zZ leL1 (w64 (x107 + 1)) H (.cons rfl (.cons rfl (.cons rfl .nil))) .nil
  ·refine Tr.exit (Tr.zX (Tr.zX (Tr.zAC (Tr.zA ?_))))
   refine Tr.sr ?_
   refine Tr.asg rfl rfl ?_
   refine Tr.nil (Tr.zA ?_)
   refine Tr.ret ?_
   obtain rfl := Option.some.inj H
   exact Tr.out (m := [(.bool true)]) [] (zP rfl zQ) (fun W hW => ⟨rfl, hW.low leB⟩)

theorem F_etchhouseref3_sameSteps_b_ok (N : Nat) (rec : (List zD) → (List zD) → Option Bool) (hrec : ∀ {w : Bs} (p0 : (List zD)) (Ap0_0 : Option Addr) (cp0_0 : Nat) (hp0_0 : Sl w.R w.W zG Ap0_0 cp0_0 p0) (p1 : (List zD)) (Ap1_0 : Option Addr) (cp1_0 : Nat) (hp1_0 : Sl w.R w.W zG Ap1_0 cp1_0 p1) (r : Bool) (H : rec p0 p1 = some r) (hE : HF w w.W E0), Calls Tryz.prog 26 [(.slice Ap0_0 (p0).length cp0_0), (.slice Ap1_0 (p1).length cp1_0)].toArray w.W fun e W' => e = .returned (.bool r) ∧ HF w W' E0) {w : Bs} (p0 : (List zD)) (Ap0_0 : Option Addr) (cp0_0 : Nat) (hp0_0 : Sl w.R w.W zG Ap0_0 cp0_0 p0) (p1 : (List zD)) (Ap1_0 : Option Addr) (cp1_0 : Nat) (hp1_0 : Sl w.R w.W zG Ap1_0 cp1_0 p1) (r : Bool) (H : F_etchhouseref3_sameSteps_b N rec p0 p1 = some r) (hE : HF w w.W E0) : Calls Tryz.prog 26 [(.slice Ap0_0 (p0).length cp0_0), (.slice Ap1_0 (p1).length cp1_0)].toArray w.W fun e W' => e = .returned (.bool r) ∧ HF w W' E0 := by
 unfold F_etchhouseref3_sameSteps_b at H
 have leB := Bs.Le.refl w
 refine Tr.enter (n := 76) Tryz.func26 rfl rfl rfl hE ?_
 refine Tr.sr ?_
 refine Tr.asg rfl rfl ?_
 refine Tr.nil (Tr.zA ?_)
 refine Tr.seq ?_
 refine Tr.sr ?_
 refine Tr.mv rfl rfl ?_
 refine Tr.va rfl (fun _ _ h1 h2 => zq un_23 (h1.ev rfl)) ?_
 refine Tr.mv rfl rfl ?_
 refine Tr.va rfl (fun _ _ h1 h2 => zq un_23 (h1.ev rfl)) ?_
 refine Tr.va rfl (fun _ _ h1 h2 => run_neq (h1.ev rfl) (h1.ev rfl)) ?_
 refine Tr.nil (Tr.zA ?_)
 refine Tr.cond rfl H (fun H => ?_) (fun H => ?_)
 ·refine Tr.sr ?_
  refine Tr.asg rfl rfl ?_
  refine Tr.nil (Tr.zA ?_)
  refine Tr.ret (Tr.zU ?_)
  obtain rfl := Option.some.inj H
  exact Tr.out (m := [(.bool false)]) [] (zP rfl zQ) (fun W hW => ⟨rfl, hW.low leB⟩)
 ·refine Tr.skip (Tr.zA ?_)
  refine Tr.seq ?_
  refine Tr.sr ?_
  refine Tr.asg rfl rfl ?_
  refine Tr.nil (Tr.zA ?_)
  refine Tr.block ?_
  refine Tr.loop (σ := Int) (fun m w s => zAN N p0 p1 rec m s = some r) (fun s => [(0, (.slice Ap0_0 (p0).length cp0_0)), (1, (.slice Ap1_0 (p1).length cp1_0)), (5, (iv s))]) (fun s => []) N 0 H (.cons rfl (.cons rfl (.cons rfl .nil))) .nil (fun _ _ h => noSome (h)) ?_
  intro w leL1 mL1 x131 hs
  have H := hs
  replace H : zAN N p0 p1 rec (mL1 + 1) x131 = some r := H
  replace hp0_0 := hp0_0.leR leL1
  replace hp1_0 := hp1_0.leR leL1
  replace leB := leB.trans leL1
  rw [zAN.eq_2] at H
  show Tr _ _ (LF [(0, (.slice Ap0_0 (p0).length cp0_0)), (1, (.slice Ap1_0 (p1).length cp1_0)), (5, (iv x131))]) (LE []) _
  refine Tr.seq ?_
  refine Tr.sr ?_
  refine Tr.mv rfl rfl ?_
  refine Tr.mv rfl rfl ?_
  refine Tr.va rfl (fun _ _ h1 h2 => zq un_23 (h1.ev rfl)) ?_
  refine Tr.va rfl (fun _ _ h1 h2 => zz (h1.ev rfl) (h1.ev rfl)) ?_
  refine Tr.nil (Tr.zA ?_)
  refine Tr.cond rfl H (fun H => ?_) (fun H => ?_)
  ·refine Tr.skip (Tr.zA ?_)
   refine Tr.seq ?_
   refine Tr.block ?_
   refine Tr.seq ?_
   refine Tr.drawC 11 [] [10] (by kernel_rfl) (by kernel_rfl) fun sz132 hlosz132 hEsz132 => ?_
   refine Dr.quiet 0 [(19, (.slice Ap0_0 (p0).length cp0_0))] (by kernel_rfl) rfl rfl (by kernel_rfl) ?_ rfl rfl ?_
   ·refine Tq.mv rfl rfl ?_
    exact Tq.fin (.cons rfl .nil)
   refine Dr.quiet 1 [(20, (iv x131))] (by kernel_rfl) rfl rfl (by kernel_rfl) ?_ rfl rfl ?_
   ·refine Tq.mv rfl rfl ?_
    exact Tq.fin (.cons rfl .nil)
   obtain ⟨x133, hx133, H⟩ := bnd H
   obtain ⟨hx1330, hx1331, hx1332⟩ := zh hx133
   obtain ⟨u134, hRu134, hoku134, hcu134⟩ := (hp0_0).el hx1332
   obtain ⟨⟨Au134_0, cu134_0⟩, ⟨Au134_1, cu134_1⟩⟩ := u134
   obtain ⟨hoku134_0, hoku134_1⟩ := TPlotStep_ok.1 hoku134
   refine Dr.quiet 2 [(21, (.pointer (some ⟨adB Ap0_0, adO Ap0_0 + (x131).toNat * 8, none⟩)))] (by kernel_rfl) rfl rfl (by kernel_rfl) ?_ rfl rfl ?_
   ·replace hoku134_0 : Sl w.R w.W zy Au134_0 cu134_0 x133.Points := hoku134_0
    replace hoku134_1 : Sl w.R w.W zG Au134_1 cu134_1 x133.Steps := hoku134_1
    refine Tq.va rfl (fun _ _ h1 h2 => zH el_23 (h1.ev rfl) hp0_0.form (h1.ev rfl) hx1330 hx1331) ?_
    exact Tq.fin (.cons rfl .nil)
   refine Dr.quiet 3 [(22, (.agg #[(iv x133.Kind), (sv x133.Name), (iv x133.At.X), (iv x133.At.Y), (.slice Au134_0 (x133.Points).length cu134_0), (iv x133.NX), (iv x133.NY), (.slice Au134_1 (x133.Steps).length cu134_1)]))] (by kernel_rfl) rfl rfl (by kernel_rfl) ?_ rfl rfl ?_
   ·refine Tq.va rfl (fun _ _ h1 h2 => zR (cs := [(iv x133.Kind), (sv x133.Name), (iv x133.At.X), (iv x133.At.Y), (.slice Au134_0 (x133.Points).length cu134_0), (iv x133.NX), (iv x133.NY), (.slice Au134_1 (x133.Steps).length cu134_1)]) ag_46 sz_46 (h1.ev rfl) (zL.take (rdR hRu134 hcu134 h2) 8) rfl) ?_
    exact Tq.fin (.cons rfl .nil)
   refine Dr.quietP 4 (by kernel_rfl) rfl (wn rfl) rfl (by kernel_rfl) (fun _ _ h1 => run_move (h1.ev rfl)) rfl ?_
   refine Dr.quietP 5 (by kernel_rfl) rfl (wn rfl) rfl (by kernel_rfl) (fun _ _ h1 => run_move (h1.ev rfl)) rfl ?_
   obtain ⟨x135, hx135, H⟩ := bnd H
   obtain ⟨hx1350, hx1351, hx1352⟩ := zh hx135
   obtain ⟨u136, hRu136, hoku136, hcu136⟩ := (hp1_0).el hx1352
   obtain ⟨⟨Au136_0, cu136_0⟩, ⟨Au136_1, cu136_1⟩⟩ := u136
   obtain ⟨hoku136_0, hoku136_1⟩ := TPlotStep_ok.1 hoku136
   refine Dr.quietZ 6 [(25, (.pointer (some ⟨adB Ap1_0, adO Ap1_0 + (x131).toNat * 8, none⟩)))] [] true (by kernel_rfl) rfl rfl (by kernel_rfl) (fun W W' h2 hsW hk => HF.keepZ (le := []) (ks := []) (s0 := sz132) true h2 hk (fun _ => hlosz132) .nil (fun b hb => hb.elim (fun ⟨_, hp, _⟩ => nomatch hp) (fun hb => .inr ⟨rfl, hb.2, (fun _ h => nomatch h)⟩)) (fun _ h => nomatch h) rfl) ?_ rfl rfl ?_
   ·replace hoku136_0 : Sl w.R w.W zy Au136_0 cu136_0 x135.Points := hoku136_0
    replace hoku136_1 : Sl w.R w.W zG Au136_1 cu136_1 x135.Steps := hoku136_1
    refine Tq.va rfl (fun _ _ h1 h2 => zH el_23 (h1.ev rfl) hp1_0.form (h1.ev rfl) hx1350 hx1351) ?_
    exact Tq.fin (.cons rfl .nil)
   refine Dr.quietZ 7 [(26, (.agg #[(iv x135.Kind), (sv x135.Name), (iv x135.At.X), (iv x135.At.Y), (.slice Au136_0 (x135.Points).length cu136_0), (iv x135.NX), (iv x135.NY), (.slice Au136_1 (x135.Steps).length cu136_1)]))] [] true (by kernel_rfl) rfl rfl (by kernel_rfl) (fun W W' h2 hsW hk => HF.keepZ (le := []) (ks := []) (s0 := sz132) true h2 hk (fun _ => hlosz132) .nil (fun b hb => hb.elim (fun ⟨_, hp, _⟩ => nomatch hp) (fun hb => .inr ⟨rfl, hb.2, (fun _ h => nomatch h)⟩)) (fun _ h => nomatch h) rfl) ?_ rfl rfl ?_
   ·refine Tq.va rfl (fun _ _ h1 h2 => zR (cs := [(iv x135.Kind), (sv x135.Name), (iv x135.At.X), (iv x135.At.Y), (.slice Au136_0 (x135.Points).length cu136_0), (iv x135.NX), (iv x135.NY), (.slice Au136_1 (x135.Steps).length cu136_1)]) ag_46 sz_46 (h1.ev rfl) (zL.take (rdR hRu136 hcu136 h2) 8) rfl) ?_
    exact Tq.fin (.cons rfl .nil)
   refine Dr.cut (U := Nat × Nat) [8, 9] 1 (fun u => sz132 ≤ u.1 ∧ sz132 ≤ u.2) (fun u => [(0, (.slice Ap0_0 (p0).length cp0_0)), (1, (.slice Ap1_0 (p1).length cp1_0)), (5, (iv x131)), (6, (.pointer (some ⟨u.1, 0, none⟩))), (7, (.pointer (some ⟨u.2, 0, none⟩))), (13, (iv x131)), (14, (.slice Ap0_0 (p0).length cp0_0)), (15, (iv (p0.length : Int))), (16, (.bool (decide (x131 < (p0.length : Int))))), (19, (.slice Ap0_0 (p0).length cp0_0)), (20, (iv x131)), (21, (.pointer (some ⟨adB Ap0_0, adO Ap0_0 + (x131).toNat * 8, none⟩))), (22, (.agg #[(iv x133.Kind), (sv x133.Name), (iv x133.At.X), (iv x133.At.Y), (.slice Au134_0 (x133.Points).length cu134_0), (iv x133.NX), (iv x133.NY), (.slice Au134_1 (x133.Steps).length cu134_1)])), (23, (.slice Ap1_0 (p1).length cp1_0)), (24, (iv x131)), (25, (.pointer (some ⟨adB Ap1_0, adO Ap1_0 + (x131).toNat * 8, none⟩))), (26, (.agg #[(iv x135.Kind), (sv x135.Name), (iv x135.At.X), (iv x135.At.Y), (.slice Au136_0 (x135.Points).length cu136_0), (iv x135.NX), (iv x135.NY), (.slice Au136_1 (x135.Steps).length cu136_1)]))]) (fun u => [(5, bx u.1 #[(iv 0), (sv ⟨#[]⟩), (iv 0), (iv 0), (.slice none 0 0), (iv 0), (iv 0), (.slice none 0 0)] 46), (6, bx u.2 #[(iv 0), (sv ⟨#[]⟩), (iv 0), (iv 0), (.slice none 0 0), (iv 0), (iv 0), (.slice none 0 0)] 46)]) ?_ ?_
   ·intro hC
    refine Dr.pair 8 9 (by kernel_rfl) ?_ ?_
    ·refine St.alloc 8 5 rfl (wn rfl) rfl ze_46 fun b137 hb137 => ?_
     refine Dr.one 9 (by kernel_rfl) ?_
     refine St.alloc 9 6 rfl (wn rfl) rfl ze_46 fun b138 hb138 => ?_
     exact (hC ⟨b137, b138⟩ ⟨hb137, hb138⟩).use (by kernel_rfl) (.cons rfl (.cons rfl (.cons rfl (.cons rfl (.cons rfl (.cons rfl (.cons rfl (.cons rfl (.cons rfl (.cons rfl (.cons rfl (.cons rfl (.cons rfl (.cons rfl (.cons rfl (.cons rfl (.cons rfl .nil))))))))))))))))) (.cons rfl (.cons rfl .nil))
    ·refine St.alloc 9 6 rfl (wn rfl) rfl ze_46 fun b138 hb138 => ?_
     refine Dr.one 8 (by kernel_rfl) ?_
     refine St.alloc 8 5 rfl (wn rfl) rfl ze_46 fun b137 hb137 => ?_
     exact (hC ⟨b137, b138⟩ ⟨hb137, hb138⟩).use (by kernel_rfl) (.cons rfl (.cons rfl (.cons rfl (.cons rfl (.cons rfl (.cons rfl (.cons rfl (.cons rfl (.cons rfl (.cons rfl (.cons rfl (.cons rfl (.cons rfl (.cons rfl (.cons rfl (.cons rfl (.cons rfl .nil))))))))))))))))) (.cons rfl (.cons rfl .nil))
   intro u hu
   obtain ⟨b137, b138⟩ := u
   obtain ⟨hb137, hb138⟩ := hu
   replace hb137 : sz132 ≤ b137 := hb137
   replace hb138 : sz132 ≤ b138 := hb138
   show Dr _ _ _ _ _ _ _ _ _ (LF [(0, (.slice Ap0_0 (p0).length cp0_0)), (1, (.slice Ap1_0 (p1).length cp1_0)), (5, (iv x131)), (6, (.pointer (some ⟨b137, 0, none⟩))), (7, (.pointer (some ⟨b138, 0, none⟩))), (13, (iv x131)), (14, (.slice Ap0_0 (p0).length cp0_0)), (15, (iv (p0.length : Int))), (16, (.bool (decide (x131 < (p0.length : Int))))), (19, (.slice Ap0_0 (p0).length cp0_0)), (20, (iv x131)), (21, (.pointer (some ⟨adB Ap0_0, adO Ap0_0 + (x131).toNat * 8, none⟩))), (22, (.agg #[(iv x133.Kind), (sv x133.Name), (iv x133.At.X), (iv x133.At.Y), (.slice Au134_0 (x133.Points).length cu134_0), (iv x133.NX), (iv x133.NY), (.slice Au134_1 (x133.Steps).length cu134_1)])), (23, (.slice Ap1_0 (p1).length cp1_0)), (24, (iv x131)), (25, (.pointer (some ⟨adB Ap1_0, adO Ap1_0 + (x131).toNat * 8, none⟩))), (26, (.agg #[(iv x135.Kind), (sv x135.Name), (iv x135.At.X), (iv x135.At.Y), (.slice Au136_0 (x135.Points).length cu136_0), (iv x135.NX), (iv x135.NY), (.slice Au136_1 (x135.Steps).length cu136_1)]))]) (LE [(5, bx b137 #[(iv 0), (sv ⟨#[]⟩), (iv 0), (iv 0), (.slice none 0 0), (iv 0), (iv 0), (.slice none 0 0)] 46), (6, bx b138 #[(iv 0), (sv ⟨#[]⟩), (iv 0), (iv 0), (.slice none 0 0), (iv 0), (iv 0), (.slice none 0 0)] 46)])
   refine Dr.one 10 (by kernel_rfl) ?_
   refine St.store 10 5 (cs := [(iv x133.Kind), (sv x133.Name), (iv x133.At.X), (iv x133.At.Y), (.slice Au134_0 (x133.Points).length cu134_0), (iv x133.NX), (iv x133.NY), (.slice Au134_1 (x133.Steps).length cu134_1)]) [(iv x133.Kind), (sv x133.Name), (iv x133.At.X), (iv x133.At.Y), (.slice Au134_0 (x133.Points).length cu134_0), (iv x133.NX), (iv x133.NY), (.slice Au134_1 (x133.Steps).length cu134_1)] rfl (wn rfl) (.inr ⟨by simp, hb137⟩) rfl rfl rfl rfl sz_46 rfl rfl rfl ?_
   refine Dr.tail (by kernel_rfl) ?_
   refine Tr.store 6 (cs := [(iv x135.Kind), (sv x135.Name), (iv x135.At.X), (iv x135.At.Y), (.slice Au136_0 (x135.Points).length cu136_0), (iv x135.NX), (iv x135.NY), (.slice Au136_1 (x135.Steps).length cu136_1)]) [(iv x135.Kind), (sv x135.Name), (iv x135.At.X), (iv x135.At.Y), (.slice Au136_0 (x135.Points).length cu136_0), (iv x135.NX), (iv x135.NY), (.slice Au136_1 (x135.Steps).length cu136_1)] (wn rfl) rfl rfl rfl rfl sz_46 rfl rfl rfl ?_
   refine Tr.nil (Tr.zA ?_)
   refine Tr.sr ?_
   refine Tr.va rfl (fun _ _ h1 h2 => zB fo_46_0 (h1.ev rfl)) ?_
   refine Tr.va rfl (fun _ _ h1 h2 => zC ag_3 (h1.ev rfl) (rdb h2 (vs := [(iv x133.Kind), (sv x133.Name), (iv x133.At.X), (iv x133.At.Y), (.slice Au134_0 (x133.Points).length cu134_0), (iv x133.NX), (iv x133.NY), (.slice Au134_1 (x133.Steps).length cu134_1)]) (k := 5) rfl 0) rfl) ?_
   refine Tr.va rfl (fun _ _ h1 h2 => zB fo_46_0 (h1.ev rfl)) ?_
   refine Tr.va rfl (fun _ _ h1 h2 => zC ag_3 (h1.ev rfl) (rdb h2 (vs := [(iv x135.Kind), (sv x135.Name), (iv x135.At.X), (iv x135.At.Y), (.slice Au136_0 (x135.Points).length cu136_0), (iv x135.NX), (iv x135.NY), (.slice Au136_1 (x135.Steps).length cu136_1)]) (k := 6) rfl 0) rfl) ?_
   refine Tr.va rfl (fun _ _ h1 h2 => run_neq (h1.ev rfl) (h1.ev rfl)) ?_
   refine Tr.mv rfl rfl ?_
   refine Tr.mid0 6 [(0, (.slice Ap0_0 (p0).length cp0_0)), (1, (.slice Ap1_0 (p1).length cp1_0)), (5, (iv x131)), (6, (.pointer (some ⟨b137, 0, none⟩))), (7, (.pointer (some ⟨b138, 0, none⟩))), (38, (.bool ((x133.Kind != x135.Kind) || (!sEq x133.Name x135.Name))))] [(5, bx b137 #[(iv x133.Kind), (sv x133.Name), (iv x133.At.X), (iv x133.At.Y), (.slice Au134_0 (x133.Points).length cu134_0), (iv x133.NX), (iv x133.NY), (.slice Au134_1 (x133.Steps).length cu134_1)] 46), (6, bx b138 #[(iv x135.Kind), (sv x135.Name), (iv x135.At.X), (iv x135.At.Y), (.slice Au136_0 (x135.Points).length cu136_0), (iv x135.NX), (iv x135.NY), (.slice Au136_1 (x135.Steps).length cu136_1)] 46)] ?_ ?_
   ·cases hg144 : (x133.Kind != x135.Kind)
    ·refine Tr.val (wg rfl rfl rfl) rfl (fun _ _ h1 h2 => zB fo_46_1 (h1.ev rfl)) ?_
     refine Tr.val (wg rfl rfl rfl) rfl (fun _ _ h1 h2 => zC ag_9 (h1.ev rfl) (rdb h2 (vs := [(iv x133.Kind), (sv x133.Name), (iv x133.At.X), (iv x133.At.Y), (.slice Au134_0 (x133.Points).length cu134_0), (iv x133.NX), (iv x133.NY), (.slice Au134_1 (x133.Steps).length cu134_1)]) (k := 5) rfl 1) rfl) ?_
     refine Tr.val (wg rfl rfl rfl) rfl (fun _ _ h1 h2 => zB fo_46_1 (h1.ev rfl)) ?_
     refine Tr.val (wg rfl rfl rfl) rfl (fun _ _ h1 h2 => zC ag_9 (h1.ev rfl) (rdb h2 (vs := [(iv x135.Kind), (sv x135.Name), (iv x135.At.X), (iv x135.At.Y), (.slice Au136_0 (x135.Points).length cu136_0), (iv x135.NX), (iv x135.NY), (.slice Au136_1 (x135.Steps).length cu136_1)]) (k := 6) rfl 1) rfl) ?_
     refine Tr.val (wg rfl rfl rfl) rfl (fun _ _ h1 h2 => run_neqS (h1.ev rfl) (h1.ev rfl)) ?_
     refine Tr.va rfl (fun _ _ h1 h2 => zf (h1.ev rfl) (h1.ev rfl)) ?_
     exact Tr.nil (Tr.fin0 (.cons rfl (.cons rfl (.cons rfl (.cons rfl (.cons rfl (.cons rfl .nil)))))) (.cons rfl (.cons rfl .nil)))
    ·refine Tr.pass rfl rfl rfl rfl rfl (by decide) ?_
     refine Tr.pass rfl rfl rfl rfl rfl (by decide) ?_
     refine Tr.pass rfl rfl rfl rfl rfl (by decide) ?_
     refine Tr.pass rfl rfl rfl rfl rfl (by decide) ?_
     refine Tr.pass rfl rfl rfl rfl rfl (by decide) ?_
     refine Tr.va rfl (fun _ _ h1 h2 => ze (h1.ev rfl) (h1.ev rfl)) ?_
     exact Tr.nil (Tr.fin0 (.cons rfl (.cons rfl (.cons rfl (.cons rfl (.cons rfl (.cons rfl .nil)))))) (.cons rfl (.cons rfl .nil)))
   ·show Tr _ _ (LF [(0, (.slice Ap0_0 (p0).length cp0_0)), (1, (.slice Ap1_0 (p1).length cp1_0)), (5, (iv x131)), (6, (.pointer (some ⟨b137, 0, none⟩))), (7, (.pointer (some ⟨b138, 0, none⟩))), (38, (.bool ((x133.Kind != x135.Kind) || (!sEq x133.Name x135.Name))))]) (LE [(5, bx b137 #[(iv x133.Kind), (sv x133.Name), (iv x133.At.X), (iv x133.At.Y), (.slice Au134_0 (x133.Points).length cu134_0), (iv x133.NX), (iv x133.NY), (.slice Au134_1 (x133.Steps).length cu134_1)] 46), (6, bx b138 #[(iv x135.Kind), (sv x135.Name), (iv x135.At.X), (iv x135.At.Y), (.slice Au136_0 (x135.Points).length cu136_0), (iv x135.NX), (iv x135.NY), (.slice Au136_1 (x135.Steps).length cu136_1)] 46)]) _
    refine Tr.mv rfl rfl ?_
    refine Tr.mid0 6 [(0, (.slice Ap0_0 (p0).length cp0_0)), (1, (.slice Ap1_0 (p1).length cp1_0)), (5, (iv x131)), (6, (.pointer (some ⟨b137, 0, none⟩))), (7, (.pointer (some ⟨b138, 0, none⟩))), (45, (.bool (((x133.Kind != x135.Kind) || (!sEq x133.Name x135.Name)) || (!(eqTPoint x133.At x135.At)))))] [(5, bx b137 #[(iv x133.Kind), (sv x133.Name), (iv x133.At.X), (iv x133.At.Y), (.slice Au134_0 (x133.Points).length cu134_0), (iv x133.NX), (iv x133.NY), (.slice Au134_1 (x133.Steps).length cu134_1)] 46), (6, bx b138 #[(iv x135.Kind), (sv x135.Name), (iv x135.At.X), (iv x135.At.Y), (.slice Au136_0 (x135.Points).length cu136_0), (iv x135.NX), (iv x135.NY), (.slice Au136_1 (x135.Steps).length cu136_1)] 46)] ?_ ?_
    ·cases hg144 : ((x133.Kind != x135.Kind) || (!sEq x133.Name x135.Name))
     ·refine Tr.val (wg rfl rfl rfl) rfl (fun _ _ h1 h2 => zB fo_46_2 (h1.ev rfl)) ?_
      refine Tr.val (wg rfl rfl rfl) rfl (fun _ _ h1 h2 => zR (cs := [(iv x133.At.X), (iv x133.At.Y)]) ag_43 sz_43 (h1.ev rfl) (zL.take (rdb h2 (vs := [(iv x133.Kind), (sv x133.Name), (iv x133.At.X), (iv x133.At.Y), (.slice Au134_0 (x133.Points).length cu134_0), (iv x133.NX), (iv x133.NY), (.slice Au134_1 (x133.Steps).length cu134_1)]) (k := 5) rfl 2) 2) rfl) ?_
      refine Tr.val (wg rfl rfl rfl) rfl (fun _ _ h1 h2 => zB fo_46_2 (h1.ev rfl)) ?_
      refine Tr.val (wg rfl rfl rfl) rfl (fun _ _ h1 h2 => zR (cs := [(iv x135.At.X), (iv x135.At.Y)]) ag_43 sz_43 (h1.ev rfl) (zL.take (rdb h2 (vs := [(iv x135.Kind), (sv x135.Name), (iv x135.At.X), (iv x135.At.Y), (.slice Au136_0 (x135.Points).length cu136_0), (iv x135.NX), (iv x135.NY), (.slice Au136_1 (x135.Steps).length cu136_1)]) (k := 6) rfl 2) 2) rfl) ?_
      refine Tr.val (wg rfl rfl rfl) rfl (fun _ _ h1 h2 => run_neq_43 x133.At x135.At (h1.ev rfl) (h1.ev rfl)) ?_
      refine Tr.va rfl (fun _ _ h1 h2 => zf (h1.ev rfl) (h1.ev rfl)) ?_
      exact Tr.nil (Tr.fin0 (.cons rfl (.cons rfl (.cons rfl (.cons rfl (.cons rfl (.cons rfl .nil)))))) (.cons rfl (.cons rfl .nil)))
     ·refine Tr.pass rfl rfl rfl rfl rfl (by decide) ?_
      refine Tr.pass rfl rfl rfl rfl rfl (by decide) ?_
      refine Tr.pass rfl rfl rfl rfl rfl (by decide) ?_
      refine Tr.pass rfl rfl rfl rfl rfl (by decide) ?_
      refine Tr.pass rfl rfl rfl rfl rfl (by decide) ?_
      refine Tr.va rfl (fun _ _ h1 h2 => ze (h1.ev rfl) (h1.ev rfl)) ?_
      exact Tr.nil (Tr.fin0 (.cons rfl (.cons rfl (.cons rfl (.cons rfl (.cons rfl (.cons rfl .nil)))))) (.cons rfl (.cons rfl .nil)))
    ·show Tr _ _ (LF [(0, (.slice Ap0_0 (p0).length cp0_0)), (1, (.slice Ap1_0 (p1).length cp1_0)), (5, (iv x131)), (6, (.pointer (some ⟨b137, 0, none⟩))), (7, (.pointer (some ⟨b138, 0, none⟩))), (45, (.bool (((x133.Kind != x135.Kind) || (!sEq x133.Name x135.Name)) || (!(eqTPoint x133.At x135.At)))))]) (LE [(5, bx b137 #[(iv x133.Kind), (sv x133.Name), (iv x133.At.X), (iv x133.At.Y), (.slice Au134_0 (x133.Points).length cu134_0), (iv x133.NX), (iv x133.NY), (.slice Au134_1 (x133.Steps).length cu134_1)] 46), (6, bx b138 #[(iv x135.Kind), (sv x135.Name), (iv x135.At.X), (iv x135.At.Y), (.slice Au136_0 (x135.Points).length cu136_0), (iv x135.NX), (iv x135.NY), (.slice Au136_1 (x135.Steps).length cu136_1)] 46)]) _
     refine Tr.mv rfl rfl ?_
     refine Tr.mid0 6 [(0, (.slice Ap0_0 (p0).length cp0_0)), (1, (.slice Ap1_0 (p1).length cp1_0)), (5, (iv x131)), (6, (.pointer (some ⟨b137, 0, none⟩))), (7, (.pointer (some ⟨b138, 0, none⟩))), (52, (.bool ((((x133.Kind != x135.Kind) || (!sEq x133.Name x135.Name)) || (!(eqTPoint x133.At x135.At))) || (x133.NX != x135.NX))))] [(5, bx b137 #[(iv x133.Kind), (sv x133.Name), (iv x133.At.X), (iv x133.At.Y), (.slice Au134_0 (x133.Points).length cu134_0), (iv x133.NX), (iv x133.NY), (.slice Au134_1 (x133.Steps).length cu134_1)] 46), (6, bx b138 #[(iv x135.Kind), (sv x135.Name), (iv x135.At.X), (iv x135.At.Y), (.slice Au136_0 (x135.Points).length cu136_0), (iv x135.NX), (iv x135.NY), (.slice Au136_1 (x135.Steps).length cu136_1)] 46)] ?_ ?_
     ·cases hg144 : (((x133.Kind != x135.Kind) || (!sEq x133.Name x135.Name)) || (!(eqTPoint x133.At x135.At)))
      ·refine Tr.val (wg rfl rfl rfl) rfl (fun _ _ h1 h2 => zB fo_46_4 (h1.ev rfl)) ?_
       refine Tr.val (wg rfl rfl rfl) rfl (fun _ _ h1 h2 => zC ag_3 (h1.ev rfl) (rdb h2 (vs := [(iv x133.Kind), (sv x133.Name), (iv x133.At.X), (iv x133.At.Y), (.slice Au134_0 (x133.Points).length cu134_0), (iv x133.NX), (iv x133.NY), (.slice Au134_1 (x133.Steps).length cu134_1)]) (k := 5) rfl 5) rfl) ?_
       refine Tr.val (wg rfl rfl rfl) rfl (fun _ _ h1 h2 => zB fo_46_4 (h1.ev rfl)) ?_
       refine Tr.val (wg rfl rfl rfl) rfl (fun _ _ h1 h2 => zC ag_3 (h1.ev rfl) (rdb h2 (vs := [(iv x135.Kind), (sv x135.Name), (iv x135.At.X), (iv x135.At.Y), (.slice Au136_0 (x135.Points).length cu136_0), (iv x135.NX), (iv x135.NY), (.slice Au136_1 (x135.Steps).length cu136_1)]) (k := 6) rfl 5) rfl) ?_
       refine Tr.val (wg rfl rfl rfl) rfl (fun _ _ h1 h2 => run_neq (h1.ev rfl) (h1.ev rfl)) ?_
       refine Tr.va rfl (fun _ _ h1 h2 => zf (h1.ev rfl) (h1.ev rfl)) ?_
       exact Tr.nil (Tr.fin0 (.cons rfl (.cons rfl (.cons rfl (.cons rfl (.cons rfl (.cons rfl .nil)))))) (.cons rfl (.cons rfl .nil)))
      ·refine Tr.pass rfl rfl rfl rfl rfl (by decide) ?_
       refine Tr.pass rfl rfl rfl rfl rfl (by decide) ?_
       refine Tr.pass rfl rfl rfl rfl rfl (by decide) ?_
       refine Tr.pass rfl rfl rfl rfl rfl (by decide) ?_
       refine Tr.pass rfl rfl rfl rfl rfl (by decide) ?_
       refine Tr.va rfl (fun _ _ h1 h2 => ze (h1.ev rfl) (h1.ev rfl)) ?_
       exact Tr.nil (Tr.fin0 (.cons rfl (.cons rfl (.cons rfl (.cons rfl (.cons rfl (.cons rfl .nil)))))) (.cons rfl (.cons rfl .nil)))
     ·show Tr _ _ (LF [(0, (.slice Ap0_0 (p0).length cp0_0)), (1, (.slice Ap1_0 (p1).length cp1_0)), (5, (iv x131)), (6, (.pointer (some ⟨b137, 0, none⟩))), (7, (.pointer (some ⟨b138, 0, none⟩))), (52, (.bool ((((x133.Kind != x135.Kind) || (!sEq x133.Name x135.Name)) || (!(eqTPoint x133.At x135.At))) || (x133.NX != x135.NX))))]) (LE [(5, bx b137 #[(iv x133.Kind), (sv x133.Name), (iv x133.At.X), (iv x133.At.Y), (.slice Au134_0 (x133.Points).length cu134_0), (iv x133.NX), (iv x133.NY), (.slice Au134_1 (x133.Steps).length cu134_1)] 46), (6, bx b138 #[(iv x135.Kind), (sv x135.Name), (iv x135.At.X), (iv x135.At.Y), (.slice Au136_0 (x135.Points).length cu136_0), (iv x135.NX), (iv x135.NY), (.slice Au136_1 (x135.Steps).length cu136_1)] 46)]) _
      refine Tr.mv rfl rfl ?_
      refine Tr.mid0 6 [(0, (.slice Ap0_0 (p0).length cp0_0)), (1, (.slice Ap1_0 (p1).length cp1_0)), (5, (iv x131)), (6, (.pointer (some ⟨b137, 0, none⟩))), (7, (.pointer (some ⟨b138, 0, none⟩))), (59, (.bool (((((x133.Kind != x135.Kind) || (!sEq x133.Name x135.Name)) || (!(eqTPoint x133.At x135.At))) || (x133.NX != x135.NX)) || (x133.NY != x135.NY))))] [(5, bx b137 #[(iv x133.Kind), (sv x133.Name), (iv x133.At.X), (iv x133.At.Y), (.slice Au134_0 (x133.Points).length cu134_0), (iv x133.NX), (iv x133.NY), (.slice Au134_1 (x133.Steps).length cu134_1)] 46), (6, bx b138 #[(iv x135.Kind), (sv x135.Name), (iv x135.At.X), (iv x135.At.Y), (.slice Au136_0 (x135.Points).length cu136_0), (iv x135.NX), (iv x135.NY), (.slice Au136_1 (x135.Steps).length cu136_1)] 46)] ?_ ?_
      ·cases hg144 : ((((x133.Kind != x135.Kind) || (!sEq x133.Name x135.Name)) || (!(eqTPoint x133.At x135.At))) || (x133.NX != x135.NX))
       ·refine Tr.val (wg rfl rfl rfl) rfl (fun _ _ h1 h2 => zB fo_46_5 (h1.ev rfl)) ?_
        refine Tr.val (wg rfl rfl rfl) rfl (fun _ _ h1 h2 => zC ag_3 (h1.ev rfl) (rdb h2 (vs := [(iv x133.Kind), (sv x133.Name), (iv x133.At.X), (iv x133.At.Y), (.slice Au134_0 (x133.Points).length cu134_0), (iv x133.NX), (iv x133.NY), (.slice Au134_1 (x133.Steps).length cu134_1)]) (k := 5) rfl 6) rfl) ?_
        refine Tr.val (wg rfl rfl rfl) rfl (fun _ _ h1 h2 => zB fo_46_5 (h1.ev rfl)) ?_
        refine Tr.val (wg rfl rfl rfl) rfl (fun _ _ h1 h2 => zC ag_3 (h1.ev rfl) (rdb h2 (vs := [(iv x135.Kind), (sv x135.Name), (iv x135.At.X), (iv x135.At.Y), (.slice Au136_0 (x135.Points).length cu136_0), (iv x135.NX), (iv x135.NY), (.slice Au136_1 (x135.Steps).length cu136_1)]) (k := 6) rfl 6) rfl) ?_
        refine Tr.val (wg rfl rfl rfl) rfl (fun _ _ h1 h2 => run_neq (h1.ev rfl) (h1.ev rfl)) ?_
        refine Tr.va rfl (fun _ _ h1 h2 => zf (h1.ev rfl) (h1.ev rfl)) ?_
        exact Tr.nil (Tr.fin0 (.cons rfl (.cons rfl (.cons rfl (.cons rfl (.cons rfl (.cons rfl .nil)))))) (.cons rfl (.cons rfl .nil)))
       ·refine Tr.pass rfl rfl rfl rfl rfl (by decide) ?_
        refine Tr.pass rfl rfl rfl rfl rfl (by decide) ?_
        refine Tr.pass rfl rfl rfl rfl rfl (by decide) ?_
        refine Tr.pass rfl rfl rfl rfl rfl (by decide) ?_
        refine Tr.pass rfl rfl rfl rfl rfl (by decide) ?_
        refine Tr.va rfl (fun _ _ h1 h2 => ze (h1.ev rfl) (h1.ev rfl)) ?_
        exact Tr.nil (Tr.fin0 (.cons rfl (.cons rfl (.cons rfl (.cons rfl (.cons rfl (.cons rfl .nil)))))) (.cons rfl (.cons rfl .nil)))
      ·show Tr _ _ (LF [(0, (.slice Ap0_0 (p0).length cp0_0)), (1, (.slice Ap1_0 (p1).length cp1_0)), (5, (iv x131)), (6, (.pointer (some ⟨b137, 0, none⟩))), (7, (.pointer (some ⟨b138, 0, none⟩))), (59, (.bool (((((x133.Kind != x135.Kind) || (!sEq x133.Name x135.Name)) || (!(eqTPoint x133.At x135.At))) || (x133.NX != x135.NX)) || (x133.NY != x135.NY))))]) (LE [(5, bx b137 #[(iv x133.Kind), (sv x133.Name), (iv x133.At.X), (iv x133.At.Y), (.slice Au134_0 (x133.Points).length cu134_0), (iv x133.NX), (iv x133.NY), (.slice Au134_1 (x133.Steps).length cu134_1)] 46), (6, bx b138 #[(iv x135.Kind), (sv x135.Name), (iv x135.At.X), (iv x135.At.Y), (.slice Au136_0 (x135.Points).length cu136_0), (iv x135.NX), (iv x135.NY), (.slice Au136_1 (x135.Steps).length cu136_1)] 46)]) _
       refine Tr.mv rfl rfl ?_
       obtain ⟨g140, hg140, H⟩ := bnd H
       refine Tr.mid0 7 [(0, (.slice Ap0_0 (p0).length cp0_0)), (1, (.slice Ap1_0 (p1).length cp1_0)), (5, (iv x131)), (6, (.pointer (some ⟨b137, 0, none⟩))), (7, (.pointer (some ⟨b138, 0, none⟩))), (67, (.bool g140))] [(5, bx b137 #[(iv x133.Kind), (sv x133.Name), (iv x133.At.X), (iv x133.At.Y), (.slice Au134_0 (x133.Points).length cu134_0), (iv x133.NX), (iv x133.NY), (.slice Au134_1 (x133.Steps).length cu134_1)] 46), (6, bx b138 #[(iv x135.Kind), (sv x135.Name), (iv x135.At.X), (iv x135.At.Y), (.slice Au136_0 (x135.Points).length cu136_0), (iv x135.NX), (iv x135.NY), (.slice Au136_1 (x135.Steps).length cu136_1)] 46)] ?_ ?_
       ·cases hg144 : (((((x133.Kind != x135.Kind) || (!sEq x133.Name x135.Name)) || (!(eqTPoint x133.At x135.At))) || (x133.NX != x135.NX)) || (x133.NY != x135.NY))
        ·rw [hg144] at hg140
         rw [if_neg (by decide)] at hg140
         have H := hg140
         refine Tr.val (wg rfl rfl rfl) rfl (fun _ _ h1 h2 => zB fo_46_3 (h1.ev rfl)) ?_
         refine Tr.val (wg rfl rfl rfl) rfl (fun _ _ h1 h2 => zC ag_44 (h1.ev rfl) (rdb h2 (vs := [(iv x133.Kind), (sv x133.Name), (iv x133.At.X), (iv x133.At.Y), (.slice Au134_0 (x133.Points).length cu134_0), (iv x133.NX), (iv x133.NY), (.slice Au134_1 (x133.Steps).length cu134_1)]) (k := 5) rfl 4) rfl) ?_
         refine Tr.val (wg rfl rfl rfl) rfl (fun _ _ h1 h2 => zB fo_46_3 (h1.ev rfl)) ?_
         refine Tr.val (wg rfl rfl rfl) rfl (fun _ _ h1 h2 => zC ag_44 (h1.ev rfl) (rdb h2 (vs := [(iv x135.Kind), (sv x135.Name), (iv x135.At.X), (iv x135.At.Y), (.slice Au136_0 (x135.Points).length cu136_0), (iv x135.NX), (iv x135.NY), (.slice Au136_1 (x135.Steps).length cu136_1)]) (k := 6) rfl 4) rfl) ?_
         obtain ⟨y141, hy141, H⟩ := bnd H
         refine Tr.call0 (r := (.bool y141)) (wg rfl rfl rfl) rfl Tryz.call51 (zF rfl (zF rfl zO)) (fun W hW => F_etchhouseref3_samePoints_ok N x133.Points Au134_0 cu134_0 (hoku134_0.ext hW.extAll) x135.Points Au136_0 cu136_0 (hoku136_0.ext hW.extAll) y141 hy141 (HF.start _)) ?_
         refine Tr.val (wg rfl rfl rfl) rfl (fun _ _ h1 h2 => run_not (h1.ev rfl)) ?_
         refine Tr.va rfl (fun _ _ h1 h2 => zf (h1.ev rfl) (h1.ev rfl)) ?_
         obtain rfl := Option.some.inj H
         exact Tr.nil (Tr.fin0 (.cons rfl (.cons rfl (.cons rfl (.cons rfl (.cons rfl (.cons rfl .nil)))))) (.cons rfl (.cons rfl .nil)))
        ·rw [hg144] at hg140
         rw [if_pos rfl] at hg140
         have H := hg140
         obtain rfl := Option.some.inj H
         refine Tr.pass rfl rfl rfl rfl rfl (by decide) ?_
         refine Tr.pass rfl rfl rfl rfl rfl (by decide) ?_
         refine Tr.pass rfl rfl rfl rfl rfl (by decide) ?_
         refine Tr.pass rfl rfl rfl rfl rfl (by decide) ?_
         refine Tr.pass rfl rfl rfl rfl rfl (by decide) ?_
         refine Tr.pass rfl rfl rfl rfl rfl (by decide) ?_
         refine Tr.va rfl (fun _ _ h1 h2 => ze (h1.ev rfl) (h1.ev rfl)) ?_
         exact Tr.nil (Tr.fin0 (.cons rfl (.cons rfl (.cons rfl (.cons rfl (.cons rfl (.cons rfl .nil)))))) (.cons rfl (.cons rfl .nil)))
       ·show Tr _ _ (LF [(0, (.slice Ap0_0 (p0).length cp0_0)), (1, (.slice Ap1_0 (p1).length cp1_0)), (5, (iv x131)), (6, (.pointer (some ⟨b137, 0, none⟩))), (7, (.pointer (some ⟨b138, 0, none⟩))), (67, (.bool g140))]) (LE [(5, bx b137 #[(iv x133.Kind), (sv x133.Name), (iv x133.At.X), (iv x133.At.Y), (.slice Au134_0 (x133.Points).length cu134_0), (iv x133.NX), (iv x133.NY), (.slice Au134_1 (x133.Steps).length cu134_1)] 46), (6, bx b138 #[(iv x135.Kind), (sv x135.Name), (iv x135.At.X), (iv x135.At.Y), (.slice Au136_0 (x135.Points).length cu136_0), (iv x135.NX), (iv x135.NY), (.slice Au136_1 (x135.Steps).length cu136_1)] 46)]) _
        refine Tr.mv rfl rfl ?_
        obtain ⟨g143, hg143, H⟩ := bnd H
        refine Tr.mid0 7 [(0, (.slice Ap0_0 (p0).length cp0_0)), (1, (.slice Ap1_0 (p1).length cp1_0)), (5, (iv x131)), (75, (.bool g143))] [(5, bx b137 #[(iv x133.Kind), (sv x133.Name), (iv x133.At.X), (iv x133.At.Y), (.slice Au134_0 (x133.Points).length cu134_0), (iv x133.NX), (iv x133.NY), (.slice Au134_1 (x133.Steps).length cu134_1)] 46), (6, bx b138 #[(iv x135.Kind), (sv x135.Name), (iv x135.At.X), (iv x135.At.Y), (.slice Au136_0 (x135.Points).length cu136_0), (iv x135.NX), (iv x135.NY), (.slice Au136_1 (x135.Steps).length cu136_1)] 46)] ?_ ?_
        ·cases hg144 : g140
         ·rw [hg144] at hg143
          rw [if_neg (by decide)] at hg143
          have H := hg143
          refine Tr.val (wg rfl rfl rfl) rfl (fun _ _ h1 h2 => zB fo_46_6 (h1.ev rfl)) ?_
          refine Tr.val (wg rfl rfl rfl) rfl (fun _ _ h1 h2 => zC ag_23 (h1.ev rfl) (rdb h2 (vs := [(iv x133.Kind), (sv x133.Name), (iv x133.At.X), (iv x133.At.Y), (.slice Au134_0 (x133.Points).length cu134_0), (iv x133.NX), (iv x133.NY), (.slice Au134_1 (x133.Steps).length cu134_1)]) (k := 5) rfl 7) rfl) ?_
          refine Tr.val (wg rfl rfl rfl) rfl (fun _ _ h1 h2 => zB fo_46_6 (h1.ev rfl)) ?_
          refine Tr.val (wg rfl rfl rfl) rfl (fun _ _ h1 h2 => zC ag_23 (h1.ev rfl) (rdb h2 (vs := [(iv x135.Kind), (sv x135.Name), (iv x135.At.X), (iv x135.At.Y), (.slice Au136_0 (x135.Points).length cu136_0), (iv x135.NX), (iv x135.NY), (.slice Au136_1 (x135.Steps).length cu136_1)]) (k := 6) rfl 7) rfl) ?_
          obtain ⟨y144, hy144, H⟩ := bnd H
          refine Tr.call0 (r := (.bool y144)) (wg rfl rfl rfl) rfl Tryz.call26 (zF rfl (zF rfl zO)) (fun W hW => hrec x133.Steps Au134_1 cu134_1 (hoku134_1.ext hW.extAll) x135.Steps Au136_1 cu136_1 (hoku136_1.ext hW.extAll) y144 hy144 (HF.start _)) ?_
          refine Tr.val (wg rfl rfl rfl) rfl (fun _ _ h1 h2 => run_not (h1.ev rfl)) ?_
          refine Tr.va rfl (fun _ _ h1 h2 => zf (h1.ev rfl) (h1.ev rfl)) ?_
          obtain rfl := Option.some.inj H
          exact Tr.nil (Tr.fin0 (.cons rfl (.cons rfl (.cons rfl (.cons rfl .nil)))) (.cons rfl (.cons rfl .nil)))
         ·rw [hg144] at hg143
          rw [if_pos rfl] at hg143
          have H := hg143
          obtain rfl := Option.some.inj H
          refine Tr.pass rfl rfl rfl rfl rfl (by decide) ?_
          refine Tr.pass rfl rfl rfl rfl rfl (by decide) ?_
          refine Tr.pass rfl rfl rfl rfl rfl (by decide) ?_
          refine Tr.pass rfl rfl rfl rfl rfl (by decide) ?_
          refine Tr.pass rfl rfl rfl rfl rfl (by decide) ?_
          refine Tr.pass rfl rfl rfl rfl rfl (by decide) ?_
          refine Tr.va rfl (fun _ _ h1 h2 => ze (h1.ev rfl) (h1.ev rfl)) ?_
          exact Tr.nil (Tr.fin0 (.cons rfl (.cons rfl (.cons rfl (.cons rfl .nil)))) (.cons rfl (.cons rfl .nil)))
        ·show Tr _ _ (LF [(0, (.slice Ap0_0 (p0).length cp0_0)), (1, (.slice Ap1_0 (p1).length cp1_0)), (5, (iv x131)), (75, (.bool g143))]) (LE [(5, bx b137 #[(iv x133.Kind), (sv x133.Name), (iv x133.At.X), (iv x133.At.Y), (.slice Au134_0 (x133.Points).length cu134_0), (iv x133.NX), (iv x133.NY), (.slice Au134_1 (x133.Steps).length cu134_1)] 46), (6, bx b138 #[(iv x135.Kind), (sv x135.Name), (iv x135.At.X), (iv x135.At.Y), (.slice Au136_0 (x135.Points).length cu136_0), (iv x135.NX), (iv x135.NY), (.slice Au136_1 (x135.Steps).length cu136_1)] 46)]) _
         refine Tr.nil (Tr.zA ?_)
         refine Tr.cond rfl H (fun H => ?_) (fun H => ?_)
         ·refine Tr.sr ?_
          refine Tr.asg rfl rfl ?_
          refine Tr.nil (Tr.zA ?_)
          refine Tr.ret (Tr.zAB (Tr.zU (Tr.zU (Tr.zAB (Tr.zU ?_)))))
          obtain rfl := Option.some.inj H
          exact Tr.out (m := [(.bool false)]) [] (zP rfl zQ) (fun W hW => ⟨rfl, hW.low leB⟩)
         ·refine Tr.skip (Tr.zW (Tr.zA ?_))
          refine Tr.region ?_
          refine Tr.mv rfl rfl ?_
          refine Tr.va rfl (fun _ _ h1 h2 => zx (h1.ev rfl) (h1.ev rfl)) ?_
          refine Tr.asg rfl rfl ?_
          refine Tr.nil ?_
          exact Tr.zZ leL1 (w64 (x131 + 1)) H (.cons rfl (.cons rfl (.cons rfl .nil))) .nil
  ·refine Tr.exit (Tr.zX (Tr.zX (Tr.zAC (Tr.zA ?_))))
   refine Tr.sr ?_
   refine Tr.asg rfl rfl ?_
   refine Tr.nil (Tr.zA ?_)
   refine Tr.ret ?_
   obtain rfl := Option.some.inj H
   exact Tr.out (m := [(.bool true)]) [] (zP rfl zQ) (fun W hW => ⟨rfl, hW.low leB⟩)
theorem F_etchhouseref3_sameSteps_ok : ∀ (N : Nat) {w : Bs} (p0 : (List zD)) (Ap0_0 : Option Addr) (cp0_0 : Nat) (hp0_0 : Sl w.R w.W zG Ap0_0 cp0_0 p0) (p1 : (List zD)) (Ap1_0 : Option Addr) (cp1_0 : Nat) (hp1_0 : Sl w.R w.W zG Ap1_0 cp1_0 p1) (r : Bool) (H : F_etchhouseref3_sameSteps N p0 p1 = some r) (hE : HF w w.W E0), Calls Tryz.prog 26 [(.slice Ap0_0 (p0).length cp0_0), (.slice Ap1_0 (p1).length cp1_0)].toArray w.W fun e W' => e = .returned (.bool r) ∧ HF w W' E0
 | 0 => by intros; rename_i H _; cases H
 | N + 1 => F_etchhouseref3_sameSteps_b_ok N (F_etchhouseref3_sameSteps N) (F_etchhouseref3_sameSteps_ok N)

theorem F_etchhouseref1_SameRects_ok (N : Nat) {w : Bs} (p0 : (List zT)) (Ap0_0 : Option Addr) (cp0_0 : Nat) (hp0_0 : Sl w.R w.W zN Ap0_0 cp0_0 p0) (p1 : (List zT)) (Ap1_0 : Option Addr) (cp1_0 : Nat) (hp1_0 : Sl w.R w.W zN Ap1_0 cp1_0 p1) (r : Bool) (H : F_etchhouseref1_SameRects N p0 p1 = some r) (hE : HF w w.W E0) : Calls Tryz.prog 27 [(.slice Ap0_0 (p0).length cp0_0), (.slice Ap1_0 (p1).length cp1_0)].toArray w.W fun e W' => e = .returned (.bool r) ∧ HF w W' E0 := by
 unfold F_etchhouseref1_SameRects at H
 have leB := Bs.Le.refl w
 refine Tr.enter (n := 26) Tryz.func27 rfl rfl rfl hE ?_
 refine Tr.sr ?_
 refine Tr.asg rfl rfl ?_
 refine Tr.nil (Tr.zA ?_)
 refine Tr.seq ?_
 refine Tr.sr ?_
 refine Tr.mv rfl rfl ?_
 refine Tr.va rfl (fun _ _ h1 h2 => zq un_31 (h1.ev rfl)) ?_
 refine Tr.mv rfl rfl ?_
 refine Tr.va rfl (fun _ _ h1 h2 => zq un_31 (h1.ev rfl)) ?_
 refine Tr.va rfl (fun _ _ h1 h2 => run_neq (h1.ev rfl) (h1.ev rfl)) ?_
 refine Tr.nil (Tr.zA ?_)
 refine Tr.cond rfl H (fun H => ?_) (fun H => ?_)
 ·refine Tr.sr ?_
  refine Tr.asg rfl rfl ?_
  refine Tr.nil (Tr.zA ?_)
  refine Tr.ret (Tr.zU ?_)
  obtain rfl := Option.some.inj H
  exact Tr.out (m := [(.bool false)]) [] (zP rfl zQ) (fun W hW => ⟨rfl, hW.low leB⟩)
 ·refine Tr.skip (Tr.zA ?_)
  refine Tr.seq ?_
  refine Tr.sr ?_
  refine Tr.asg rfl rfl ?_
  refine Tr.nil (Tr.zA ?_)
  refine Tr.block ?_
  refine Tr.loop (σ := Int) (fun m w s => zAO p0 p1 m s = some r) (fun s => [(0, (.slice Ap0_0 (p0).length cp0_0)), (1, (.slice Ap1_0 (p1).length cp1_0)), (5, (iv s))]) (fun s => []) N 0 H (.cons rfl (.cons rfl (.cons rfl .nil))) .nil (fun _ _ h => noSome (h)) ?_
  intro w leL1 mL1 x107 hs
  have H := hs
  replace H : zAO p0 p1 (mL1 + 1) x107 = some r := H
  replace hp0_0 := hp0_0.leR leL1
  replace hp1_0 := hp1_0.leR leL1
  replace leB := leB.trans leL1
  rw [zAO.eq_2] at H
  show Tr _ _ (LF [(0, (.slice Ap0_0 (p0).length cp0_0)), (1, (.slice Ap1_0 (p1).length cp1_0)), (5, (iv x107))]) (LE []) _
  refine Tr.seq ?_
  refine Tr.sr ?_
  refine Tr.mv rfl rfl ?_
  refine Tr.mv rfl rfl ?_
  refine Tr.va rfl (fun _ _ h1 h2 => zq un_31 (h1.ev rfl)) ?_
  refine Tr.va rfl (fun _ _ h1 h2 => zz (h1.ev rfl) (h1.ev rfl)) ?_
  refine Tr.nil (Tr.zA ?_)
  refine Tr.cond rfl H (fun H => ?_) (fun H => ?_)
  ·refine Tr.skip (Tr.zA ?_)
   refine Tr.seq ?_
   refine Tr.block ?_
   refine Tr.seq ?_
   refine Tr.draw (by kernel_rfl) (by kernel_rfl) ?_
   refine Tq.mv rfl rfl ?_
   refine Tq.mv rfl rfl ?_
   obtain ⟨x108, hx108, H⟩ := bnd H
   obtain ⟨hx1080, hx1081, hx1082⟩ := zh hx108
   refine Tq.va rfl (fun _ _ h1 h2 => zH el_31 (h1.ev rfl) hp0_0.form (h1.ev rfl) hx1080 hx1081) ?_
   refine Tq.va rfl (fun _ _ h1 h2 => zR (cs := [(iv x108.X0), (iv x108.Y0), (iv x108.X1), (iv x108.Y1)]) ag_36 sz_36 (h1.ev rfl) (zL.take (rdF ef_TRect hp0_0 hx1082 h2) 4) rfl) ?_
   refine Tq.mv rfl rfl ?_
   refine Tq.mv rfl rfl ?_
   obtain ⟨x109, hx109, H⟩ := bnd H
   obtain ⟨hx1090, hx1091, hx1092⟩ := zh hx109
   refine Tq.va rfl (fun _ _ h1 h2 => zH el_31 (h1.ev rfl) hp1_0.form (h1.ev rfl) hx1090 hx1091) ?_
   refine Tq.va rfl (fun _ _ h1 h2 => zR (cs := [(iv x109.X0), (iv x109.Y0), (iv x109.X1), (iv x109.Y1)]) ag_36 sz_36 (h1.ev rfl) (zL.take (rdF ef_TRect hp1_0 hx1092 h2) 4) rfl) ?_
   refine Tq.va rfl (fun _ _ h1 h2 => run_neq_36 x108 x109 (h1.ev rfl) (h1.ev rfl)) ?_
   refine Tq.nil (Tr.zA ?_)
   refine Tr.cond rfl H (fun H => ?_) (fun H => ?_)
   ·refine Tr.sr ?_
    refine Tr.asg rfl rfl ?_
    refine Tr.nil (Tr.zA ?_)
    refine Tr.ret (Tr.zAB (Tr.zU (Tr.zU (Tr.zAB (Tr.zU ?_)))))
    obtain rfl := Option.some.inj H
    exact Tr.out (m := [(.bool false)]) [] (zP rfl zQ) (fun W hW => ⟨rfl, hW.low leB⟩)
   ·refine Tr.skip (Tr.zW (Tr.zA ?_))
    refine Tr.region ?_
    refine Tr.mv rfl rfl ?_
    refine Tr.va rfl (fun _ _ h1 h2 => zx (h1.ev rfl) (h1.ev rfl)) ?_
    refine Tr.asg rfl rfl ?_
    refine Tr.nil ?_
    exact Tr.zZ leL1 (w64 (x107 + 1)) H (.cons rfl (.cons rfl (.cons rfl .nil))) .nil
  ·refine Tr.exit (Tr.zX (Tr.zX (Tr.zAC (Tr.zA ?_))))
   refine Tr.sr ?_
   refine Tr.asg rfl rfl ?_
   refine Tr.nil (Tr.zA ?_)
   refine Tr.ret ?_
   obtain rfl := Option.some.inj H
   exact Tr.out (m := [(.bool true)]) [] (zP rfl zQ) (fun W hW => ⟨rfl, hW.low leB⟩)

end Go.Proofs.YtoageaoknnnfbaaGreatDoor
