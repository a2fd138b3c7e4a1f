/- The walks: each function computes its plain function. -/
import Derived.Test.YtoageaoknnnfbaaGreatDoorXWc
namespace Go.Proofs.YtoageaoknnnfbaaGreatDoor
open Go.RowKit
set_option maxRecDepth 100000
set_option maxHeartbeats 1000000
theorem zCG {w : Bs} (p0 : (List zG)) (zC : Option Addr) (zD : Nat) (zU : Sl w.O w.W zH zC zD p0) (r : (List zG)) (H : Jo p0 = some r) (hE : HF w w.W (LEn [emp])) : Calls Tryz.prog 14 [sL zC p0 zD].toArray w.W fun e W' => ∃ (w' : Bs) (u : (Option Addr × Nat)), w.Le w' ∧ e = .returned (sL u.1 r u.2) ∧ (SlF u.1 r.length u.2) ∧ HF w' W' (LEn [ow u.1 u.2 46 zH r]) := by
 unfold Jo at H
 have leB := Bs.Le.refl w
 refine Tr.enter (n := 8) Tryz.func14 rfl rfl rfl hE ?_
 refine Tr.sr (Tr.asg rfl rfl (Tr.JU 1 46 zH ?_))
 show Tr _ _ (uf _ 2 (sL none (([] : List zG)) 0)) _ _
 refine Tr.nil (Tr.zA (Tr.seq (Tr.sr (Tr.mv rfl rfl (Tr.va rfl (fun _ _ a c => zHn zGV (a.ev rfl) (a.ev rfl)) ?_)))))
 refine Tr.nil (Tr.zA ?_)
 cases zC with
 | none =>
  have hl0 := zLF zU.form
  replace H : (some ([] : List zG)) = some r := by simpa [apd, hl0] using H
  refine Tr.WK rfl rfl ?_
  refine Tr.sr (Tr.asg rfl rfl (Tr.JU 2 46 zH ?_))
  show Tr _ _ (uf _ 2 (sL none (([] : List zG)) 0)) _ _
  refine Tr.nil (Tr.zA (Tr.ret (Tr.zi ?_)))
  obtain rfl := oI H
  exact Tr.out (m := [sL none (([] : List zG)) 0]) [] (zW rfl zX) (fun W hW => ⟨w, (none, 0), leB, rfl, Kk, hW.pick (ks := [2]) (by decide) (zQ rfl zf)⟩)
 | some a102 =>
  refine Tr.WL rfl rfl ?_
  refine Tr.skip (Tr.zA (Tr.sr (Tr.buildSlice 3 (e := 46) (vs := []) (cs := []) (wn rfl) rfl Qi (by kernel_rfl) fun QE => ?_)))
  refine Tr.mv rfl rfl (Tr.own 3 zH ([] : List zG) (css := []) rfl .nil rfl (by decide) (zCR rfl) ?_)
  obtain ⟨zKu, zPi, H⟩ := bnd H
  refine Tr.zLs 3 (t := zH) (l := ([] : List zG)) (l2 := p0) (wn rfl) rfl rfl rfl rfl (apO zU) zGV zGW zYM (by decide) za4 rfl zPi fun zJc zJO hAl101 => ?_
  refine Tr.asg rfl rfl (Tr.nil (Tr.zA (Tr.ret ?_)))
  obtain rfl := oI H
  exact Tr.out (m := [sL zJc zKu zJO]) [] (zW rfl zX) (fun W hW => ⟨w, (zJc, zJO), leB, rfl, hAl101, hW.pick (ks := [3]) (by decide) (zQ rfl zf)⟩)

theorem zDR {w : Bs} (p0 : (List zJ)) (zC : Option Addr) (zD : Nat) (zU : Sl w.R w.W QU zC zD p0) (r : (List zJ)) (H : KV p0 = some r) (hE : HF w w.W (LEn [emp])) : Calls Tryz.prog 57 [sL zC p0 zD].toArray w.W fun e W' => ∃ u : (Option Addr × Nat), e = .returned (sL u.1 r u.2) ∧ (SlF u.1 r.length u.2) ∧ HF w W' (LEn [ow u.1 u.2 43 QU r]) := by
 unfold KV at H
 have leB := Bs.Le.refl w
 refine Tr.enter (n := 8) Tryz.func57 rfl rfl rfl hE ?_
 refine Tr.sr (Tr.asg rfl rfl (Tr.JU 1 43 QU ?_))
 show Tr _ _ (uf _ 2 (sL none (([] : List zJ)) 0)) _ _
 refine Tr.nil (Tr.zA (Tr.seq (Tr.sr (Tr.mv rfl rfl (Tr.va rfl (fun _ _ a c => zHn zGU (a.ev rfl) (a.ev rfl)) ?_)))))
 refine Tr.nil (Tr.zA ?_)
 cases zC with
 | none =>
  have hl0 := zLF zU.form
  replace H : (some ([] : List zJ)) = some r := by simpa [apd, hl0] using H
  refine Tr.WK rfl rfl ?_
  refine Tr.sr (Tr.asg rfl rfl (Tr.JU 2 43 QU ?_))
  show Tr _ _ (uf _ 2 (sL none (([] : List zJ)) 0)) _ _
  refine Tr.nil (Tr.zA (Tr.ret (Tr.zi ?_)))
  obtain rfl := oI H
  exact Tr.out (m := [sL none (([] : List zJ)) 0]) [] (zW rfl zX) (fun W hW => ⟨(none, 0), rfl, Kk, HF.zFO leB (hW.pick (ks := [2]) (by decide) (zQ rfl zf)) ⟨zCA _ _ _ _ zJg, trivial⟩⟩)
 | some a102 =>
  refine Tr.WL rfl rfl ?_
  refine Tr.skip (Tr.zA (Tr.sr (Tr.buildSlice 3 (e := 43) (vs := []) (cs := []) (wn rfl) rfl Qi (by kernel_rfl) fun QE => ?_)))
  refine Tr.mv rfl rfl (Tr.own 3 QU ([] : List zJ) (css := []) rfl .nil rfl (by decide) (zCR rfl) ?_)
  obtain ⟨zKu, zPi, H⟩ := bnd H
  refine Tr.zLs 3 (t := QU) (l := ([] : List zJ)) (l2 := p0) (wn rfl) rfl rfl rfl rfl (apT zJg (fun W hW => (Sl.inB zU hW))) zGU Js zc0 (by decide) zdj rfl zPi fun zJc zJO hAl101 => ?_
  refine Tr.asg rfl rfl (Tr.nil (Tr.zA (Tr.ret ?_)))
  obtain rfl := oI H
  exact Tr.out (m := [sL zJc zKu zJO]) [] (zW rfl zX) (fun W hW => ⟨(zJc, zJO), rfl, hAl101, HF.zFO leB (hW.pick (ks := [3]) (by decide) (zQ rfl zf)) ⟨zCA _ _ _ _ zJg, trivial⟩⟩)

theorem zEu {w : Bs} (p0 : zS) (bq0 : Nat) (q1 : Bool) (bq1 : Nat) (q2 : zm) (Aq2_0 : Option Addr) (cq2_0 : Nat) (zF5 : Sl w.R w.W zP Aq2_0 cq2_0 q2.Tools) (Aq2_1 : Option Addr) (cq2_1 : Nat) (zF4 : Sl w.R w.W zH Aq2_1 cq2_1 q2.Steps) (bq2 : Nat) (hb2 : w.R bq2) (hc2 : zR w.W bq2 0 [iv q2.Unit, sL Aq2_0 q2.Tools cq2_0, sL Aq2_1 q2.Steps cq2_1]) (q3 : Int) (bq3 : Nat) (hb3 : w.R bq3) (hc3 : zR w.W bq3 0 [iv q3]) (hb0 : w.R bq0) (hc0 : zR w.W bq0 0 [.func (.func 44) #[] #[pV bq1, pV bq2, pV bq3]]) (r : (zS × Bool)) (H : Kz p0 q1 q2 q3 = some r) (hE : HF w w.W (LEn [bx bq1 #[bV q1] 4])) : Calls Tryz.prog 67 [.agg #[iv p0.X0, iv p0.Y0, iv p0.X1, iv p0.Y1], pV bq0].toArray w.W fun e W' => ∃ u : Unit, e = .returned (.agg #[iv r.1.X0, iv r.1.Y0, iv r.1.X1, iv r.1.Y1]) ∧ (True) ∧ HF w W' (LEn [bx bq1 #[bV r.2] 4]) := by
 unfold Kz at H
 have leB := Bs.Le.refl w
 refine Tr.enter (n := 21) Tryz.func67 rfl rfl rfl hE ?_
 refine Tr.sr (Tr.box 1 (cs := [iv p0.X0, iv p0.Y0, iv p0.X1, iv p0.Y1]) (wn rfl) rfl rfl rfl fun QE => ?_)
 refine Tr.alloc 2 (wn rfl) rfl zD3 fun Qw => ?_
 refine Tr.nil (Tr.zA (Tr.seq (Tr.zHS 15 [(3, fun x => x = bq1), (7, fun x => x = bq1), (11, fun x => x = bq1)] [] (by kernel_rfl) (by kernel_rfl) fun zIw zZw zcV => ?_)))
 refine Dr.We 0 [(4, .func (.func 44) #[] #[pV bq1, pV bq2, pV bq3])] [7, 11] false (by kernel_rfl) rfl rfl (by kernel_rfl) (fun W W' c hsW hk => HF.zBv (le := []) (ks := [(0, fun x => x = bq1), (0, fun x => x = bq1)]) (s0 := zIw) false c hk (fun h => absurd h (by decide)) .nil (fun b hb => hb.elim (fun ⟨p, hp, hf, hb⟩ => by simp only [List.mem_cons, List.not_mem_nil, or_false] at hp; rcases hp with rfl | rfl | rfl; exact absurd hf (by simp); exact .inl ⟨_, List.mem_cons_self, hb⟩; exact .inl ⟨_, (List.mem_cons_of_mem _ List.mem_cons_self), hb⟩) (fun hb => absurd hb.1 (by decide))) (List.forall_mem_cons.2 ⟨fun b hb => hb, (List.forall_mem_cons.2 ⟨fun b hb => hb, (fun _ h => nomatch h)⟩)⟩) rfl) ?_ rfl rfl ?_
 ·refine Tq.va rfl (fun _ _ a c => zF zRR (a.ev rfl) (rdR hb0 hc0 c) rfl) ?_
  exact Tq.fin (.cons rfl .nil)
 refine Dr.KM 1 (by kernel_rfl) rfl (wn rfl) rfl (by kernel_rfl) (fun _ _ a => zB WR (a.ev rfl)) rfl ?_
 refine Dr.We 2 [(6, iv p0.X0)] [7, 11] false (by kernel_rfl) rfl rfl (by kernel_rfl) (fun W W' c hsW hk => HF.zBv (le := [(1, bx QE #[iv p0.X0, iv p0.Y0, iv p0.X1, iv p0.Y1] 36)]) (ks := [(0, fun x => x = bq1), (0, fun x => x = bq1)]) (s0 := zIw) false c hk (fun h => absurd h (by decide)) (.cons rfl .nil) (fun b hb => hb.elim (fun ⟨p, hp, hf, hb⟩ => by simp only [List.mem_cons, List.not_mem_nil, or_false] at hp; rcases hp with rfl | rfl | rfl; exact absurd hf (by simp); exact .inl ⟨_, List.mem_cons_self, hb⟩; exact .inl ⟨_, (List.mem_cons_of_mem _ List.mem_cons_self), hb⟩) (fun hb => absurd hb.1 (by decide))) (List.forall_mem_cons.2 ⟨fun b hb => hb, (List.forall_mem_cons.2 ⟨fun b hb => hb, (fun _ h => nomatch h)⟩)⟩) rfl) ?_ rfl rfl ?_
 ·refine Tq.va rfl (fun _ _ a c => zF QH (a.ev rfl) (rdb c (vs := [iv p0.X0, iv p0.Y0, iv p0.X1, iv p0.Y1]) (k := 1) rfl 0) rfl) ?_
  exact Tq.fin (.cons rfl .nil)
 refine Dr.We 4 [(8, .func (.func 44) #[] #[pV bq1, pV bq2, pV bq3])] [3, 11] false (by kernel_rfl) rfl rfl (by kernel_rfl) (fun W W' c hsW hk => HF.zBv (le := []) (ks := [(0, fun x => x = bq1), (0, fun x => x = bq1)]) (s0 := zIw) false c hk (fun h => absurd h (by decide)) .nil (fun b hb => hb.elim (fun ⟨p, hp, hf, hb⟩ => by simp only [List.mem_cons, List.not_mem_nil, or_false] at hp; rcases hp with rfl | rfl | rfl; exact .inl ⟨_, List.mem_cons_self, hb⟩; exact absurd hf (by simp); exact .inl ⟨_, (List.mem_cons_of_mem _ List.mem_cons_self), hb⟩) (fun hb => absurd hb.1 (by decide))) (List.forall_mem_cons.2 ⟨fun b hb => hb, (List.forall_mem_cons.2 ⟨fun b hb => hb, (fun _ h => nomatch h)⟩)⟩) rfl) ?_ rfl rfl ?_
 ·refine Tq.va rfl (fun _ _ a c => zF zRR (a.ev rfl) (rdR hb0 hc0 c) rfl) ?_
  exact Tq.fin (.cons rfl .nil)
 refine Dr.KM 5 (by kernel_rfl) rfl (wn rfl) rfl (by kernel_rfl) (fun _ _ a => zB zAk (a.ev rfl)) rfl ?_
 refine Dr.We 6 [(10, iv p0.Y0)] [3, 11] false (by kernel_rfl) rfl rfl (by kernel_rfl) (fun W W' c hsW hk => HF.zBv (le := [(1, bx QE #[iv p0.X0, iv p0.Y0, iv p0.X1, iv p0.Y1] 36)]) (ks := [(0, fun x => x = bq1), (0, fun x => x = bq1)]) (s0 := zIw) false c hk (fun h => absurd h (by decide)) (.cons rfl .nil) (fun b hb => hb.elim (fun ⟨p, hp, hf, hb⟩ => by simp only [List.mem_cons, List.not_mem_nil, or_false] at hp; rcases hp with rfl | rfl | rfl; exact .inl ⟨_, List.mem_cons_self, hb⟩; exact absurd hf (by simp); exact .inl ⟨_, (List.mem_cons_of_mem _ List.mem_cons_self), hb⟩) (fun hb => absurd hb.1 (by decide))) (List.forall_mem_cons.2 ⟨fun b hb => hb, (List.forall_mem_cons.2 ⟨fun b hb => hb, (fun _ h => nomatch h)⟩)⟩) rfl) ?_ rfl rfl ?_
 ·refine Tq.va rfl (fun _ _ a c => zF QH (a.ev rfl) (rdb c (vs := [iv p0.X0, iv p0.Y0, iv p0.X1, iv p0.Y1]) (k := 1) rfl 1) rfl) ?_
  exact Tq.fin (.cons rfl .nil)
 refine Dr.We 8 [(12, .func (.func 44) #[] #[pV bq1, pV bq2, pV bq3])] [3, 7] false (by kernel_rfl) rfl rfl (by kernel_rfl) (fun W W' c hsW hk => HF.zBv (le := []) (ks := [(0, fun x => x = bq1), (0, fun x => x = bq1)]) (s0 := zIw) false c hk (fun h => absurd h (by decide)) .nil (fun b hb => hb.elim (fun ⟨p, hp, hf, hb⟩ => by simp only [List.mem_cons, List.not_mem_nil, or_false] at hp; rcases hp with rfl | rfl | rfl; exact .inl ⟨_, List.mem_cons_self, hb⟩; exact .inl ⟨_, (List.mem_cons_of_mem _ List.mem_cons_self), hb⟩; exact absurd hf (by simp)) (fun hb => absurd hb.1 (by decide))) (List.forall_mem_cons.2 ⟨fun b hb => hb, (List.forall_mem_cons.2 ⟨fun b hb => hb, (fun _ h => nomatch h)⟩)⟩) rfl) ?_ rfl rfl ?_
 ·refine Tq.va rfl (fun _ _ a c => zF zRR (a.ev rfl) (rdR hb0 hc0 c) rfl) ?_
  exact Tq.fin (.cons rfl .nil)
 refine Dr.KM 9 (by kernel_rfl) rfl (wn rfl) rfl (by kernel_rfl) (fun _ _ a => zB zC5 (a.ev rfl)) rfl ?_
 refine Dr.We 10 [(14, iv p0.X1)] [3, 7] false (by kernel_rfl) rfl rfl (by kernel_rfl) (fun W W' c hsW hk => HF.zBv (le := [(1, bx QE #[iv p0.X0, iv p0.Y0, iv p0.X1, iv p0.Y1] 36)]) (ks := [(0, fun x => x = bq1), (0, fun x => x = bq1)]) (s0 := zIw) false c hk (fun h => absurd h (by decide)) (.cons rfl .nil) (fun b hb => hb.elim (fun ⟨p, hp, hf, hb⟩ => by simp only [List.mem_cons, List.not_mem_nil, or_false] at hp; rcases hp with rfl | rfl | rfl; exact .inl ⟨_, List.mem_cons_self, hb⟩; exact .inl ⟨_, (List.mem_cons_of_mem _ List.mem_cons_self), hb⟩; exact absurd hf (by simp)) (fun hb => absurd hb.1 (by decide))) (List.forall_mem_cons.2 ⟨fun b hb => hb, (List.forall_mem_cons.2 ⟨fun b hb => hb, (fun _ h => nomatch h)⟩)⟩) rfl) ?_ rfl rfl ?_
 ·refine Tq.va rfl (fun _ _ a c => zF QH (a.ev rfl) (rdb c (vs := [iv p0.X0, iv p0.Y0, iv p0.X1, iv p0.Y1]) (k := 1) rfl 2) rfl) ?_
  exact Tq.fin (.cons rfl .nil)
 refine Dr.We 12 [(16, .func (.func 44) #[] #[pV bq1, pV bq2, pV bq3])] [3, 7, 11] false (by kernel_rfl) rfl rfl (by kernel_rfl) (fun W W' c hsW hk => HF.zBv (le := []) (ks := [(0, fun x => x = bq1), (0, fun x => x = bq1), (0, fun x => x = bq1)]) (s0 := zIw) false c hk (fun h => absurd h (by decide)) .nil (fun b hb => hb.elim (fun ⟨p, hp, hf, hb⟩ => by simp only [List.mem_cons, List.not_mem_nil, or_false] at hp; rcases hp with rfl | rfl | rfl; exact .inl ⟨_, List.mem_cons_self, hb⟩; exact .inl ⟨_, (List.mem_cons_of_mem _ List.mem_cons_self), hb⟩; exact .inl ⟨_, (List.mem_cons_of_mem _ (List.mem_cons_of_mem _ List.mem_cons_self)), hb⟩) (fun hb => absurd hb.1 (by decide))) (List.forall_mem_cons.2 ⟨fun b hb => hb, (List.forall_mem_cons.2 ⟨fun b hb => hb, (List.forall_mem_cons.2 ⟨fun b hb => hb, (fun _ h => nomatch h)⟩)⟩)⟩) rfl) ?_ rfl rfl ?_
 ·refine Tq.va rfl (fun _ _ a c => zF zRR (a.ev rfl) (rdR hb0 hc0 c) rfl) ?_
  exact Tq.fin (.cons rfl .nil)
 refine Dr.KM 13 (by kernel_rfl) rfl (wn rfl) rfl (by kernel_rfl) (fun _ _ a => zB zDi (a.ev rfl)) rfl ?_
 refine Dr.We 14 [(18, iv p0.Y1)] [3, 7, 11] false (by kernel_rfl) rfl rfl (by kernel_rfl) (fun W W' c hsW hk => HF.zBv (le := [(1, bx QE #[iv p0.X0, iv p0.Y0, iv p0.X1, iv p0.Y1] 36)]) (ks := [(0, fun x => x = bq1), (0, fun x => x = bq1), (0, fun x => x = bq1)]) (s0 := zIw) false c hk (fun h => absurd h (by decide)) (.cons rfl .nil) (fun b hb => hb.elim (fun ⟨p, hp, hf, hb⟩ => by simp only [List.mem_cons, List.not_mem_nil, or_false] at hp; rcases hp with rfl | rfl | rfl; exact .inl ⟨_, List.mem_cons_self, hb⟩; exact .inl ⟨_, (List.mem_cons_of_mem _ List.mem_cons_self), hb⟩; exact .inl ⟨_, (List.mem_cons_of_mem _ (List.mem_cons_of_mem _ List.mem_cons_self)), hb⟩) (fun hb => absurd hb.1 (by decide))) (List.forall_mem_cons.2 ⟨fun b hb => hb, (List.forall_mem_cons.2 ⟨fun b hb => hb, (List.forall_mem_cons.2 ⟨fun b hb => hb, (fun _ h => nomatch h)⟩)⟩)⟩) rfl) ?_ rfl rfl ?_
 ·refine Tq.va rfl (fun _ _ a c => zF QH (a.ev rfl) (rdb c (vs := [iv p0.X0, iv p0.Y0, iv p0.X1, iv p0.Y1]) (k := 1) rfl 3) rfl) ?_
  exact Tq.fin (.cons rfl .nil)
 obtain ⟨zo, zDf, H⟩ := bnd H
 refine Dr.one 3 (by kernel_rfl) ?_
 refine St.zG2 3 [0] [bx bq1 #[bV q1] 4] (U := Unit) (fun u => (iv zo.1)) (fun u => True) (fun u => [bx bq1 #[bV zo.2] 4]) rfl (zQ rfl zf) (fun _ => rfl) (fun b ⟨e, he, hS⟩ => by simp only [List.mem_cons, List.not_mem_nil, or_false] at he; rcases he with rfl; exact .inl ⟨_, List.mem_cons_self, rfl, hS⟩) rfl (wn rfl) rfl rfl Tryz.call44 (zI rfl zT) (fun W hW hp hE => Vy p0.X0 q1 bq1 q2 Aq2_0 cq2_0 (zF5.ext (hW.QM hp)) Aq2_1 cq2_1 (zF4.ext (hW.QM hp)) bq2 ((hW.QM hp).r _ hb2) ((hW.QM hp).cells hb2 hc2) q3 bq3 ((hW.QM hp).r _ hb3) ((hW.QM hp).cells hb3 hc3) zo zDf hE) ?_
 intro u hu zgl
 show Dr _ _ _ _ _ _ _ _ _ (uf _ 7 (iv zo.1)) (up _ 0 (bx bq1 #[bV zo.2] 4))
 obtain ⟨zA7, zPR, H⟩ := bnd H
 refine Dr.one 7 (by kernel_rfl) ?_
 refine St.zG2 7 [0] [bx bq1 #[bV zo.2] 4] (U := Unit) (fun u => (iv zA7.1)) (fun u => True) (fun u => [bx bq1 #[bV zA7.2] 4]) rfl (zQ rfl zf) (fun _ => rfl) (fun b ⟨e, he, hS⟩ => by simp only [List.mem_cons, List.not_mem_nil, or_false] at he; rcases he with rfl; exact .inl ⟨_, (List.mem_cons_of_mem _ List.mem_cons_self), rfl, hS⟩) rfl (wn rfl) rfl rfl Tryz.call44 (zI rfl zT) (fun W hW hp hE => Vy p0.Y0 zo.2 bq1 q2 Aq2_0 cq2_0 (zF5.ext (hW.QM hp)) Aq2_1 cq2_1 (zF4.ext (hW.QM hp)) bq2 ((hW.QM hp).r _ hb2) ((hW.QM hp).cells hb2 hc2) q3 bq3 ((hW.QM hp).r _ hb3) ((hW.QM hp).cells hb3 hc3) zA7 zPR hE) ?_
 intro u hu zmp
 show Dr _ _ _ _ _ _ _ _ _ (uf _ 11 (iv zA7.1)) (up _ 0 (bx bq1 #[bV zA7.2] 4))
 obtain ⟨zDB, zTz, H⟩ := bnd H
 refine Dr.one 11 (by kernel_rfl) ?_
 refine St.zG2 11 [0] [bx bq1 #[bV zA7.2] 4] (U := Unit) (fun u => (iv zDB.1)) (fun u => True) (fun u => [bx bq1 #[bV zDB.2] 4]) rfl (zQ rfl zf) (fun _ => rfl) (fun b ⟨e, he, hS⟩ => by simp only [List.mem_cons, List.not_mem_nil, or_false] at he; rcases he with rfl; exact .inl ⟨_, (List.mem_cons_of_mem _ (List.mem_cons_of_mem _ List.mem_cons_self)), rfl, hS⟩) rfl (wn rfl) rfl rfl Tryz.call44 (zI rfl zT) (fun W hW hp hE => Vy p0.X1 zA7.2 bq1 q2 Aq2_0 cq2_0 (zF5.ext (hW.QM hp)) Aq2_1 cq2_1 (zF4.ext (hW.QM hp)) bq2 ((hW.QM hp).r _ hb2) ((hW.QM hp).cells hb2 hc2) q3 bq3 ((hW.QM hp).r _ hb3) ((hW.QM hp).cells hb3 hc3) zDB zTz hE) ?_
 intro u hu zgk
 show Dr _ _ _ _ _ _ _ _ _ (uf _ 15 (iv zDB.1)) (up _ 0 (bx bq1 #[bV zDB.2] 4))
 refine Dr.tail (by kernel_rfl) ?_
 obtain ⟨zG6, zZl, H⟩ := bnd H
 refine Tr.zG2 [0] [bx bq1 #[bV zDB.2] 4] (U := Unit) (fun u => (iv zG6.1)) (fun u => True) (fun u => [bx bq1 #[bV zG6.2] 4]) rfl (zQ rfl zf) (fun _ => rfl) (wn rfl) rfl rfl Tryz.call44 (zI rfl zT) (fun W hW hp hE => Vy p0.Y1 zDB.2 bq1 q2 Aq2_0 cq2_0 (zF5.ext (hW.QM hp)) Aq2_1 cq2_1 (zF4.ext (hW.QM hp)) bq2 ((hW.QM hp).r _ hb2) ((hW.QM hp).cells hb2 hc2) q3 bq3 ((hW.QM hp).r _ hb3) ((hW.QM hp).cells hb3 hc3) zG6 zZl hE) ?_
 intro u hu
 show Tr _ _ (uf _ 19 (iv zG6.1)) (up _ 0 (bx bq1 #[bV zG6.2] 4)) _
 refine Tr.build (vs := [(0, iv zo.1), (1, iv zA7.1), (2, iv zDB.1), (3, iv zG6.1)]) (cs := [iv zo.1, iv zA7.1, iv zDB.1, iv zG6.1]) (wn rfl) rfl (zq rfl (zq rfl (zq rfl (zq rfl Qi)))) (by kernel_rfl) ?_
 refine Tr.store 2 (cs := [iv zo.1, iv zA7.1, iv zDB.1, iv zG6.1]) [iv zo.1, iv zA7.1, iv zDB.1, iv zG6.1] (wn rfl) rfl rfl rfl rfl Ku rfl rfl rfl ?_
 refine Tr.nil (Tr.zA (Tr.ret ?_))
 obtain rfl := oI H
 exact Tr.out (m := [.agg #[iv zo.1, iv zA7.1, iv zDB.1, iv zG6.1]]) [2] (Wq rfl rfl zBz Ku zX) (fun W hW => ⟨(), rfl, trivial, HF.zFO leB (hW.pick (ks := [0]) (by decide) (zQ rfl zf)) ⟨zKw _ _ _, trivial⟩⟩)

theorem zB8 (N : Nat) {w : Bs} (p0 : (List zV)) (zC : Option Addr) (zD : Nat) (zU : Sl w.O w.W zP zC zD p0) (bq0 : Nat) (q1 : Bool) (bq1 : Nat) (q2 : zm) (Aq2_0 : Option Addr) (cq2_0 : Nat) (zF5 : Sl w.R w.W zP Aq2_0 cq2_0 q2.Tools) (Aq2_1 : Option Addr) (cq2_1 : Nat) (zF4 : Sl w.R w.W zH Aq2_1 cq2_1 q2.Steps) (bq2 : Nat) (hb2 : w.R bq2) (hc2 : zR w.W bq2 0 [iv q2.Unit, sL Aq2_0 q2.Tools cq2_0, sL Aq2_1 q2.Steps cq2_1]) (q3 : Int) (bq3 : Nat) (hb3 : w.R bq3) (hc3 : zR w.W bq3 0 [iv q3]) (hb0 : w.R bq0) (hc0 : zR w.W bq0 0 [.func (.func 44) #[] #[pV bq1, pV bq2, pV bq3]]) (r : ((List zV) × Bool)) (H : Ja N p0 q1 q2 q3 = some r) (hE : HF w w.W (LEn [bx bq1 #[bV q1] 4, emp])) : Calls Tryz.prog 63 [sL zC p0 zD, .func (.func 67) #[] #[pV bq0]].toArray w.W fun e W' => ∃ (w' : Bs) (u : (Option Addr × Nat)), w.Le w' ∧ e = .returned (sL u.1 r.1 u.2) ∧ (SlF u.1 r.1.length u.2) ∧ HF w' W' (LEn [bx bq1 #[bV r.2] 4, ow u.1 u.2 64 zP r.1]) := by
 unfold Ja at H
 have leB := Bs.Le.refl w
 refine Tr.enter (n := 50) Tryz.func63 rfl rfl rfl hE ?_
 refine Tr.sr (Tr.asg rfl rfl (Tr.JU 1 64 zP ?_))
 show Tr _ _ (uf _ 4 (sL none (([] : List zV)) 0)) _ _
 refine Tr.nil (Tr.zA (Tr.sr (Tr.mv rfl rfl ?_)))
 obtain ⟨zy, Ws, H⟩ := bnd H
 refine Tr.VT [2] [emp] (U := (Option Addr × Nat)) (fun u => (sL u.1 zy u.2)) (fun O W u => SlF u.1 zy.length u.2) (fun u => [ow u.1 u.2 64 zP zy]) rfl (zQ rfl zf) (fun _ => rfl) (wn rfl) rfl Tryz.call92 (zI rfl zT) (fun W hW hp hE => zGG p0 zC zD (zU.zAK (hW.QM hp)) zy Ws hE) ?_
 intro w u zAQ hu
 obtain ⟨QY, QX⟩ := u
 have gy100_0 := hu
 replace hc0 := zAQ.ext.cells hb0 hc0
 replace hb0 := zAQ.r _ hb0
 replace hc2 := zAQ.ext.cells hb2 hc2
 replace hb2 := zAQ.r _ hb2
 replace zF5 := zF5.leR zAQ
 replace zF4 := zF4.leR zAQ
 replace hc3 := zAQ.ext.cells hb3 hc3
 replace hb3 := zAQ.r _ hb3
 replace leB := leB.trans zAQ
 have zAR : SlF QY zy.length QX := gy100_0 --@phi
 show Tr _ _ (uf _ 10 (sL QY zy QX)) (up _ 2 (ow QY QX 64 zP zy)) _
 refine Tr.asg rfl rfl (Tr.nil (Tr.zA (Tr.seq (Tr.sr (Tr.mv rfl rfl (Tr.va rfl (fun _ _ a c => QJ zKW (a.ev rfl)) ?_))))))
 refine Tr.mv rfl rfl (Tr.nil (Tr.zA (Tr.block (Tr.loop (σ := Bool × (List zV) × Int × (Option Addr) × Nat) (fun m w s => QD q2 q3 zy m s.1 s.2.1 s.2.2.1 = some r ∧ SlF s.2.2.2.1 s.2.1.length s.2.2.2.2) (fun s => [(1, .func (.func 67) #[] #[pV bq0]), (5, sL s.2.2.2.1 s.2.1 s.2.2.2.2), (12, iv (zy.length : Int)), (13, iv s.2.2.1)]) (fun s => [(0, bx bq1 #[bV s.1] 4), (2, ow s.2.2.2.1 s.2.2.2.2 64 zP s.2.1)]) N (q1, zy, 0, QY, QX) ⟨H, zAR⟩ (.cons rfl (.cons rfl (.cons rfl (.cons rfl .nil)))) (.cons rfl (.cons rfl .nil)) (fun _ _ h => zA0 (h.1)) ?_))))
 intro w Vl mL3 s hs
 obtain ⟨zXi, zCs, zBf, zCm, zD7⟩ := s
 obtain ⟨H, zNM⟩ := hs
 replace H : QD q2 q3 zy (mL3 + 1) zXi zCs zBf = some r := H
 replace hc0 := Vl.ext.cells hb0 hc0
 replace hb0 := Vl.r _ hb0
 replace hc2 := Vl.ext.cells hb2 hc2
 replace hb2 := Vl.r _ hb2
 replace zF5 := zF5.leR Vl
 replace zF4 := zF4.leR Vl
 replace hc3 := Vl.ext.cells hb3 hc3
 replace hb3 := Vl.r _ hb3
 replace leB := leB.trans Vl
 replace zNM : SlF zCm zCs.length zD7 := zNM
 rw [QD.eq_2] at H
 show Tr _ _ (LF [(1, .func (.func 67) #[] #[pV bq0]), (5, sL zCm zCs zD7), (12, iv (zy.length : Int)), (13, iv zBf)]) (LE [(0, bx bq1 #[bV zXi] 4), (2, ow zCm zD7 64 zP zCs)]) _
 refine Tr.sr (Tr.va rfl (fun _ _ a c => QI (a.ev rfl) (a.ev rfl)) ?_)
 refine Tr.nil (Tr.zA (Tr.seq (Tr.cond rfl H (fun H => ?_) (fun H => ?_))))
 ·refine Tr.skip (Tr.zA (Tr.seq (Tr.block (Tr.sr (Tr.mv rfl rfl (Tr.asg rfl rfl (Tr.nil (Tr.zA (Tr.sr (Tr.mv rfl rfl ?_))))))))))
  refine Tr.mv rfl rfl (Tr.mv rfl rfl (Tr.mv rfl rfl ?_))
  obtain ⟨zSt, zjc, H⟩ := bnd H
  obtain ⟨zfc, zfb, zfa⟩ := zz zjc
  refine Tr.va rfl (fun _ _ a c => zM zKa (a.ev rfl) zNM (a.ev rfl) zfc zfb) ?_
  refine Tr.va rfl (fun _ _ a c => zB zFS (a.ev rfl)) ?_
  refine Tr.zS5 (U := (zP).Ad) (fun u => (zP).ok w.O w.W u zSt) (fun u => (sL u.1 zSt.Rects u.2)) (wn rfl) rfl (ldN (κ := 2) (t := zP) (V := fun u => (sL u.1 zSt.Rects u.2)) rfl zfa (fun _ _ u a hc => zF zNX (a.ev rfl) (hc.drop 1) rfl)) ?_
  intro zmL zb8
  obtain ⟨zSm, zSR⟩ := zmL
  have zMZ := zb8
  replace zMZ : Sl w.O w.W zK zSm zSR zSt.Rects := zMZ
  show Tr _ _ (uf _ 22 (sL zSm zSt.Rects zSR)) _ _
  obtain ⟨zDU, zZd, H⟩ := bnd H
  refine Tr.VM [11] [emp] (U := (Option Addr × Nat)) (fun u => (sL u.1 zDU u.2)) (fun u => SlF u.1 zDU.length u.2) (fun u => [ow u.1 u.2 36 zK zDU]) rfl (zQ rfl zf) (fun _ => rfl) (wn rfl) rfl Tryz.call80 (zI rfl zT) (fun W hW hp hE => zDs zSt.Rects zSm zSR (zMZ.rl.ext (hW.QM hp)) zDU zZd hE) ?_
  intro u hu
  obtain ⟨zIG, zHy⟩ := u
  have gy212_0 := hu
  have zUB : SlF zIG zDU.length zHy := gy212_0 --@phi
  show Tr _ _ (uf _ 23 (sL zIG zDU zHy)) (up _ 11 (ow zIG zHy 36 zK zDU)) _
  obtain ⟨zGO, zjb, H⟩ := bnd H
  obtain ⟨zfZ, zfY, zZn⟩ := zz zjb
  refine Tr.va rfl (fun _ _ a c => zM zKa (a.ev rfl) zNM (a.ev rfl) zfZ zfY) ?_
  refine Tr.va rfl (fun _ _ a c => zB zFS (a.ev rfl)) ?_
  refine Tr.zRu 2 rfl zZn ?_
  intro zmK zb7
  obtain ⟨zcy, zcl⟩ := zmK
  have zhF := zb7
  show Tr _ _ _ (up _ 2 (ow zCm zD7 64 (mix zP) (zAd zCs (zBf).toNat (raw zP [sv zGO.Name, sL zcy zGO.Rects zcl] rfl rfl)))) _
  refine Tr.zFr 2 (raw zP [sv zGO.Name, sL zIG zDU zHy] rfl rfl) (cs := [sL zIG zDU zHy]) (fo := 1) (wn rfl) rfl rfl rfl rfl rfl (List.getElem?_eq_some_iff.1 zZn).1 zhr rfl rfl rfl ?_
  refine Tr.nil (Tr.zA (Tr.sr (Tr.mv rfl rfl (Tr.mv rfl rfl ?_))))
  obtain ⟨zl8, zja, H⟩ := bnd H
  obtain ⟨zfX, zfW, zfV⟩ := zz zja
  refine Tr.va rfl (fun _ _ a c => zM zKa (a.ev rfl) zNM (a.ev rfl) zfX zfW) ?_
  refine Tr.va rfl (fun _ _ a c => zB zFS (a.ev rfl)) ?_
  refine Tr.va rfl (fun _ _ a c => zF zNX (a.ev rfl) (zR.drop (rdm (cs := raw zP [sv zGO.Name, sL zIG zDU zHy] rfl rfl) c (κ := 2) rfl (List.getElem?_eq_some_iff.1 zfV).1) 1) rfl) ?_
  refine Tr.va rfl (fun _ _ a c => QJ zA8 (a.ev rfl)) ?_
  refine Tr.mv rfl rfl (Tr.nil (Tr.zA (Tr.block (Tr.loop (σ := (List zS) × Nat × Bool × (List zS) × (Option Addr) × Nat) (fun m w s => m = s.1.length + 1 ∧ s.1 = List.drop s.2.1 zDU ∧ s.2.1 ≤ zDU.length ∧ QW q2 q3 zCs zBf (QD q2 q3 zy mL3) zGO s.1 s.2.1 s.2.2.1 s.2.2.2.1 = some r ∧ SlF s.2.2.2.2.1 s.2.2.2.1.length s.2.2.2.2.2) (fun s => [(1, .func (.func 67) #[] #[pV bq0]), (5, sL zCm zCs zD7), (6, iv zBf), (12, iv (zy.length : Int)), (13, iv zBf), (30, sL s.2.2.2.2.1 s.2.2.2.1 s.2.2.2.2.2), (31, iv (zDU.length : Int)), (32, iv (s.2.1 : Int))]) (fun s => [(0, bx bq1 #[bV s.2.2.1] 4), (2, ow zCm zD7 64 (mix zP) (zAd zCs (zBf).toNat (raw zP [sv zGO.Name, sL s.2.2.2.2.1 s.2.2.2.1 s.2.2.2.2.2] rfl rfl))), (11, ow s.2.2.2.2.1 s.2.2.2.2.2 36 zK s.2.2.2.1)]) (zDU.length + 1) (zDU, 0, zXi, zDU, zIG, zHy) ⟨rfl, rfl, Nat.zero_le _, H, zUB⟩ (.cons rfl (.cons rfl (.cons rfl (.cons rfl (.cons rfl (.cons rfl (.cons rfl (.cons rfl .nil)))))))) (.cons rfl (.cons rfl (.cons rfl .nil))) (fun _ _ h => absurd h.1 (by simp)) ?_))))
  intro w zCS m s hs
  obtain ⟨Ve, iL4, zQM, zGQ, zGM, zGD⟩ := s
  obtain ⟨zPh, zEJ, hiL4, H, zT6⟩ := hs
  replace zEJ : Ve = List.drop iL4 zDU := zEJ
  replace H : QW q2 q3 zCs zBf (QD q2 q3 zy mL3) zGO Ve iL4 zQM zGQ = some r := H
  replace zPh : m + 1 = Ve.length + 1 := zPh
  replace hc0 := zCS.ext.cells hb0 hc0
  replace hb0 := zCS.r _ hb0
  replace hc2 := zCS.ext.cells hb2 hc2
  replace hb2 := zCS.r _ hb2
  replace zF5 := zF5.leR zCS
  replace zF4 := zF4.leR zCS
  replace hc3 := zCS.ext.cells hb3 hc3
  replace hb3 := zCS.r _ hb3
  replace Vl := Vl.trans zCS
  replace zT6 : SlF zGM zGQ.length zGD := zT6
  obtain rfl : m = Ve.length := by omega
  clear zPh
  show Tr _ _ (LF [(1, .func (.func 67) #[] #[pV bq0]), (5, sL zCm zCs zD7), (6, iv zBf), (12, iv (zy.length : Int)), (13, iv zBf), (30, sL zGM zGQ zGD), (31, iv (zDU.length : Int)), (32, iv (iL4 : Int))]) (LE [(0, bx bq1 #[bV zQM] 4), (2, ow zCm zD7 64 (mix zP) (zAd zCs (zBf).toNat (raw zP [sv zGO.Name, sL zGM zGQ zGD] rfl rfl))), (11, ow zGM zGD 36 zK zGQ)]) _
  cases Ve with
  | nil =>
   rw [QW.eq_1] at H
   refine Tr.sr (Tr.va rfl (fun _ _ a c => QI (a.ev rfl) (a.ev rfl)) ?_)
   refine Tr.nil (Tr.zA (Tr.seq (Tr.WL rfl (JS zEJ) ?_)))
   refine Tr.exit (Tr.zk (Tr.zk (Tr.QV (Tr.zl (Tr.zA (Tr.region (Tr.va rfl (fun _ _ a c => QK (a.ev rfl) (a.ev rfl)) ?_)))))))
   refine Tr.mv rfl rfl (Tr.nil (Tr.freeze 11 rfl fun w ziF ziL => ?_))
   replace Vl := Vl.trans ziF
   refine Tr.zO7 2 rfl ((zGM, zGD)) (zV.mk zGO.Name zGQ) ziL rfl ?_
   have zdO : ((zCs).set (zBf).toNat (zV.mk zGO.Name zGQ)).length = zCs.length := List.length_set
   have zcS : SlF zCm ((zCs).set (zBf).toNat (zV.mk zGO.Name zGQ)).length zD7 := by rw [zdO]; exact zNM
   refine Tr.sel (lf := [(1, .func (.func 67) #[] #[pV bq0]), (5, sL zCm (((zCs).set (zBf).toNat (zV.mk zGO.Name zGQ))) zD7), (6, iv zBf), (12, iv (zy.length : Int)), (13, iv (w64 (zBf + 1))), (30, sL zGM zGQ zGD), (31, iv (zDU.length : Int)), (32, iv (iL4 : Int)), (33, bV (decide ((iL4 : Int) < (zDU.length : Int)))), (48, iv (w64 (zBf + 1)))]) (le := [(0, bx bq1 #[bV zQM] 4), (2, ow zCm zD7 64 zP ((zCs).set (zBf).toNat (zV.mk zGO.Name zGQ)))]) (.cons rfl (.cons (VK rfl (by unfold sL; rw [zdO])) (.cons rfl (.cons rfl (.cons rfl (.cons rfl (.cons rfl (.cons rfl (.cons rfl (.cons rfl .nil)))))))))) (.cons rfl (.cons rfl .nil)) ?_
   exact Tr.zn Vl (zQM, ((zCs).set (zBf).toNat (zV.mk zGO.Name zGQ)), (w64 (zBf + 1)), zCm, zD7) ⟨H, zcS⟩ (.cons rfl (.cons rfl (.cons rfl (.cons rfl .nil)))) (.cons rfl (.cons rfl .nil))
  | cons xL4 Ve =>
   rw [QW.eq_2] at H
   refine Tr.sr (Tr.va rfl (fun _ _ a c => QI (a.ev rfl) (a.ev rfl)) ?_)
   refine Tr.nil (Tr.zA (Tr.seq (Tr.WK rfl (Jt zEJ) ?_)))
   refine Tr.skip (Tr.zA (Tr.seq (Tr.block (Tr.sr (Tr.mv rfl rfl ?_)))))
   obtain ⟨zBW, zjX, H⟩ := bnd H
   obtain ⟨zfO, zfN, zfM⟩ := zz zjX
   refine Tr.va rfl (fun _ _ a c => zM zCj (a.ev rfl) zT6 (a.ev rfl) zfO zfN) ?_
   refine Tr.va rfl (fun _ _ a c => zZ (cs := [iv zBW.X0, iv zBW.Y0, iv zBW.X1, iv zBW.Y1]) zBz Ku (a.ev rfl) (zR.take (rdo Vg (k := 11) c rfl zfM) 4) rfl) ?_
   refine Tr.alloc 14 (wn rfl) rfl zD3 fun zlK => ?_
   refine Tr.asg rfl rfl (Tr.store 14 (cs := [iv zBW.X0, iv zBW.Y0, iv zBW.X1, iv zBW.Y1]) [iv zBW.X0, iv zBW.Y0, iv zBW.X1, iv zBW.Y1] (wn rfl) rfl rfl rfl rfl Ku rfl rfl rfl ?_)
   refine Tr.nil (Tr.zA (Tr.zHS 9 [(8, fun x => x = bq1)] [] (by kernel_rfl) (by kernel_rfl) fun zht zkA zlX => ?_))
   refine Dr.KM 0 (by kernel_rfl) rfl (wn rfl) rfl (by kernel_rfl) (fun _ _ a => run_move (a.ev rfl)) rfl ?_
   refine Dr.KM 1 (by kernel_rfl) rfl (wn rfl) rfl (by kernel_rfl) (fun _ _ a => run_move (a.ev rfl)) rfl ?_
   obtain ⟨zl7, zjW, H⟩ := bnd H
   obtain ⟨zfL, zfK, zfJ⟩ := zz zjW
   refine Dr.KM 2 (by kernel_rfl) rfl (wn rfl) rfl (by kernel_rfl) (fun _ _ a => zM zKa (a.ev rfl) zNM (a.ev rfl) zfL zfK) rfl ?_
   refine Dr.KM 3 (by kernel_rfl) rfl (wn rfl) rfl (by kernel_rfl) (fun _ _ a => zB zFS (a.ev rfl)) rfl ?_
   refine Dr.We 4 [(41, sL zGM zGQ zGD)] [8] false (by kernel_rfl) rfl rfl (by kernel_rfl) (fun W W' c hsW hk => HF.zBv (le := [(2, ow zCm zD7 64 (mix zP) (zAd zCs (zBf).toNat (raw zP [sv zGO.Name, sL zGM zGQ zGD] rfl rfl)))]) (ks := [(0, fun x => x = bq1)]) (s0 := zht) false c hk (fun h => absurd h (by decide)) (.cons rfl .nil) (fun b hb => hb.elim (fun ⟨p, hp, hf, hb⟩ => by simp only [List.mem_cons, List.not_mem_nil, or_false] at hp; rcases hp with rfl; exact .inl ⟨_, List.mem_cons_self, hb⟩) (fun hb => absurd hb.1 (by decide))) (List.forall_mem_cons.2 ⟨fun b hb => hb, (fun _ h => nomatch h)⟩) rfl) ?_ rfl rfl ?_
   ·refine Tq.va rfl (fun _ _ a c => zF zNX (a.ev rfl) (zR.drop (rdm (cs := raw zP [sv zGO.Name, sL zGM zGQ zGD] rfl rfl) c (κ := 2) rfl (List.getElem?_eq_some_iff.1 zfJ).1) 1) rfl) ?_
    exact Tq.fin (.cons rfl .nil)
   refine Dr.KM 5 (by kernel_rfl) rfl (wn rfl) rfl (by kernel_rfl) (fun _ _ a => run_move (a.ev rfl)) rfl ?_
   refine Dr.quiet 6 [(43, .func (.func 67) #[] #[pV bq0])] (by kernel_rfl) rfl rfl (by kernel_rfl) ?_ rfl rfl ?_
   ·exact Tq.mv rfl rfl (Tq.fin (.cons rfl .nil))
   refine Dr.quiet 7 [(44, .agg #[iv zBW.X0, iv zBW.Y0, iv zBW.X1, iv zBW.Y1])] (by kernel_rfl) rfl rfl (by kernel_rfl) ?_ rfl rfl ?_
   ·refine Tq.va rfl (fun _ _ a c => zZ (cs := [iv zBW.X0, iv zBW.Y0, iv zBW.X1, iv zBW.Y1]) zBz Ku (a.ev rfl) (zR.take (rdb c (vs := [iv zBW.X0, iv zBW.Y0, iv zBW.X1, iv zBW.Y1]) (k := 14) rfl 0) 4) rfl) ?_
    exact Tq.fin (.cons rfl .nil)
   obtain ⟨zEz, zih, H⟩ := bnd H
   refine Dr.one 8 (by kernel_rfl) ?_
   refine St.zG2 8 [0] [bx bq1 #[bV zQM] 4] (U := Unit) (fun u => (.agg #[iv zEz.1.X0, iv zEz.1.Y0, iv zEz.1.X1, iv zEz.1.Y1])) (fun u => True) (fun u => [bx bq1 #[bV zEz.2] 4]) rfl (zQ rfl zf) (fun _ => rfl) (fun b ⟨e, he, hS⟩ => by simp only [List.mem_cons, List.not_mem_nil, or_false] at he; rcases he with rfl; exact .inl ⟨_, List.mem_cons_self, rfl, hS⟩) rfl (wn rfl) rfl rfl Tryz.call67 (zI rfl zT) (fun W hW hp hE => zEu zBW bq0 zQM bq1 q2 Aq2_0 cq2_0 (zF5.ext (hW.QM hp)) Aq2_1 cq2_1 (zF4.ext (hW.QM hp)) bq2 ((hW.QM hp).r _ hb2) ((hW.QM hp).cells hb2 hc2) q3 bq3 ((hW.QM hp).r _ hb3) ((hW.QM hp).cells hb3 hc3) ((hW.QM hp).r _ hb0) ((hW.QM hp).cells hb0 hc0) zEz zih hE) ?_
   intro u hu zml
   show Dr _ _ _ _ _ _ _ _ _ (uf _ 45 (.agg #[iv zEz.1.X0, iv zEz.1.Y0, iv zEz.1.X1, iv zEz.1.Y1])) (up _ 0 (bx bq1 #[bV zEz.2] 4))
   refine Dr.tail (by kernel_rfl) ?_
   obtain ⟨zl6, zjV, H⟩ := bnd H
   obtain ⟨zfI, zfH, zfG⟩ := zz zjV
   refine Tr.va rfl (fun _ _ a c => zM zCj (a.ev rfl) zT6 (a.ev rfl) zfI zfH) ?_
   obtain ⟨zTm, zdU, H⟩ := bnd H
   have zSC := zG9 zdU
   refine Tr.zHj 11 (t := zK) (l := zGQ) (i := (iL4 : Int)) (fo := 0) (cs := [iv zEz.1.X0, iv zEz.1.Y0, iv zEz.1.X1, iv zEz.1.Y1]) zEz.1 (wn rfl) rfl rfl rfl rfl rfl zfG Ku rfl (fun u _ => ⟨u, trivial, rfl⟩) rfl zdU ?_
   have zgo : SlF zGM zTm.length zGD := by rw [zSC]; exact zT6
   refine Tr.sel (lf := [(1, .func (.func 67) #[] #[pV bq0]), (5, sL zCm zCs zD7), (6, iv zBf), (7, iv (iL4 : Int)), (8, pV zlK), (12, iv (zy.length : Int)), (13, iv zBf), (30, sL zGM zTm zGD), (31, iv (zDU.length : Int)), (32, iv (iL4 : Int)), (33, bV (decide ((iL4 : Int) < (zDU.length : Int)))), (34, iv (iL4 : Int)), (36, .agg #[iv zBW.X0, iv zBW.Y0, iv zBW.X1, iv zBW.Y1]), (37, sL zCm zCs zD7), (38, iv zBf), (39, .pointer (some ⟨adB zCm, adO zCm + (zBf).toNat * 2, none⟩)), (40, .pointer (some ⟨adB zCm, adO zCm + (zBf).toNat * 2 + 1, none⟩)), (41, sL zGM zTm zGD), (42, iv (iL4 : Int)), (43, .func (.func 67) #[] #[pV bq0]), (44, .agg #[iv zBW.X0, iv zBW.Y0, iv zBW.X1, iv zBW.Y1]), (45, .agg #[iv zEz.1.X0, iv zEz.1.Y0, iv zEz.1.X1, iv zEz.1.Y1])]) (le := [(0, bx bq1 #[bV zEz.2] 4), (2, ow zCm zD7 64 (mix zP) (zAd zCs (zBf).toNat (raw zP [sv zGO.Name, sL zGM zTm zGD] rfl rfl))), (11, ow zGM zGD 36 zK zTm), (14, bx zlK #[iv zBW.X0, iv zBW.Y0, iv zBW.X1, iv zBW.Y1] 36)]) (.cons rfl (.cons rfl (.cons rfl (.cons rfl (.cons rfl (.cons rfl (.cons rfl (.cons (VK rfl (by unfold sL; rw [zSC])) (.cons rfl (.cons rfl (.cons rfl (.cons rfl (.cons rfl (.cons rfl (.cons rfl (.cons rfl (.cons rfl (.cons (VK rfl (by unfold sL; rw [zSC])) (.cons rfl (.cons rfl (.cons rfl (.cons rfl .nil)))))))))))))))))))))) (.cons rfl (.cons (zg0 rfl (by unfold sL; rw [zSC])) (.cons rfl (.cons rfl .nil)))) ?_
   refine Tr.nil (Tr.zl (Tr.zA (Tr.region (Tr.va rfl (fun _ _ a c => QK (a.ev rfl) (a.ev rfl)) ?_))))
   exact Tr.mv rfl rfl (Tr.nil (Tr.zn zCS (Ve, (iL4 + 1), zEz.2, zTm, zGM, zGD) ⟨rfl, Qu zEJ, QB zEJ, H, zgo⟩ (.cons rfl (.cons rfl (.cons rfl (.cons rfl (.cons rfl (.cons rfl (.cons rfl (.cons (congrArg (fun z => some (Value.int .i64 z)) (Qt zEJ zUB)) .nil)))))))) (.cons rfl (.cons rfl (.cons rfl .nil)))))
 ·refine Tr.exit (Tr.zk (Tr.zk (Tr.QV (Tr.zA (Tr.sr (Tr.mv rfl rfl (Tr.asg rfl rfl (Tr.nil (Tr.zA (Tr.ret ?_))))))))))
  obtain rfl := oI H
  exact Tr.out (m := [sL zCm zCs zD7]) [] (zW rfl zX) (fun W hW => ⟨w, (zCm, zD7), leB, rfl, zNM, hW.pick (ks := [0, 2]) (by decide) (zQ rfl (zQ rfl zf))⟩)

theorem zBV {w : Bs} (p0 : zJ) (bq0 : Nat) (q1 : Bool) (bq1 : Nat) (q2 : zm) (Aq2_0 : Option Addr) (cq2_0 : Nat) (zF5 : Sl w.R w.W zP Aq2_0 cq2_0 q2.Tools) (Aq2_1 : Option Addr) (cq2_1 : Nat) (zF4 : Sl w.R w.W zH Aq2_1 cq2_1 q2.Steps) (bq2 : Nat) (hb2 : w.R bq2) (hc2 : zR w.W bq2 0 [iv q2.Unit, sL Aq2_0 q2.Tools cq2_0, sL Aq2_1 q2.Steps cq2_1]) (q3 : Int) (bq3 : Nat) (hb3 : w.R bq3) (hc3 : zR w.W bq3 0 [iv q3]) (hb0 : w.R bq0) (hc0 : zR w.W bq0 0 [.func (.func 44) #[] #[pV bq1, pV bq2, pV bq3]]) (r : (zJ × Bool)) (H : KR p0 q1 q2 q3 = some r) (hE : HF w w.W (LEn [bx bq1 #[bV q1] 4])) : Calls Tryz.prog 66 [.agg #[iv p0.X, iv p0.Y], pV bq0].toArray w.W fun e W' => ∃ u : Unit, e = .returned (.agg #[iv r.1.X, iv r.1.Y]) ∧ (True) ∧ HF w W' (LEn [bx bq1 #[bV r.2] 4]) := by
 unfold KR at H
 have leB := Bs.Le.refl w
 refine Tr.enter (n := 13) Tryz.func66 rfl rfl rfl hE ?_
 refine Tr.sr (Tr.box 1 (cs := [iv p0.X, iv p0.Y]) (wn rfl) rfl rfl rfl fun QE => ?_)
 refine Tr.alloc 2 (wn rfl) rfl zIo fun Qw => ?_
 refine Tr.nil (Tr.zA (Tr.seq (Tr.zHS 7 [(3, fun x => x = bq1)] [] (by kernel_rfl) (by kernel_rfl) fun zIw zZw zcV => ?_)))
 refine Dr.quiet 0 [(4, .func (.func 44) #[] #[pV bq1, pV bq2, pV bq3])] (by kernel_rfl) rfl rfl (by kernel_rfl) ?_ rfl rfl ?_
 ·refine Tq.va rfl (fun _ _ a c => zF zRR (a.ev rfl) (rdR hb0 hc0 c) rfl) ?_
  exact Tq.fin (.cons rfl .nil)
 refine Dr.KM 1 (by kernel_rfl) rfl (wn rfl) rfl (by kernel_rfl) (fun _ _ a => zB Vm (a.ev rfl)) rfl ?_
 refine Dr.quiet 2 [(6, iv p0.X)] (by kernel_rfl) rfl rfl (by kernel_rfl) ?_ rfl rfl ?_
 ·refine Tq.va rfl (fun _ _ a c => zF QH (a.ev rfl) (rdb c (vs := [iv p0.X, iv p0.Y]) (k := 1) rfl 0) rfl) ?_
  exact Tq.fin (.cons rfl .nil)
 refine Dr.We 4 [(8, .func (.func 44) #[] #[pV bq1, pV bq2, pV bq3])] [3] false (by kernel_rfl) rfl rfl (by kernel_rfl) (fun W W' c hsW hk => HF.zBv (le := []) (ks := [(0, fun x => x = bq1)]) (s0 := zIw) false c hk (fun h => absurd h (by decide)) .nil (fun b hb => hb.elim (fun ⟨p, hp, hf, hb⟩ => by simp only [List.mem_cons, List.not_mem_nil, or_false] at hp; rcases hp with rfl; exact .inl ⟨_, List.mem_cons_self, hb⟩) (fun hb => absurd hb.1 (by decide))) (List.forall_mem_cons.2 ⟨fun b hb => hb, (fun _ h => nomatch h)⟩) rfl) ?_ rfl rfl ?_
 ·refine Tq.va rfl (fun _ _ a c => zF zRR (a.ev rfl) (rdR hb0 hc0 c) rfl) ?_
  exact Tq.fin (.cons rfl .nil)
 refine Dr.KM 5 (by kernel_rfl) rfl (wn rfl) rfl (by kernel_rfl) (fun _ _ a => zB VZ (a.ev rfl)) rfl ?_
 refine Dr.We 6 [(10, iv p0.Y)] [3] false (by kernel_rfl) rfl rfl (by kernel_rfl) (fun W W' c hsW hk => HF.zBv (le := [(1, bx QE #[iv p0.X, iv p0.Y] 43)]) (ks := [(0, fun x => x = bq1)]) (s0 := zIw) false c hk (fun h => absurd h (by decide)) (.cons rfl .nil) (fun b hb => hb.elim (fun ⟨p, hp, hf, hb⟩ => by simp only [List.mem_cons, List.not_mem_nil, or_false] at hp; rcases hp with rfl; exact .inl ⟨_, List.mem_cons_self, hb⟩) (fun hb => absurd hb.1 (by decide))) (List.forall_mem_cons.2 ⟨fun b hb => hb, (fun _ h => nomatch h)⟩) rfl) ?_ rfl rfl ?_
 ·refine Tq.va rfl (fun _ _ a c => zF QH (a.ev rfl) (rdb c (vs := [iv p0.X, iv p0.Y]) (k := 1) rfl 1) rfl) ?_
  exact Tq.fin (.cons rfl .nil)
 obtain ⟨zo, zDf, H⟩ := bnd H
 refine Dr.one 3 (by kernel_rfl) ?_
 refine St.zG2 3 [0] [bx bq1 #[bV q1] 4] (U := Unit) (fun u => (iv zo.1)) (fun u => True) (fun u => [bx bq1 #[bV zo.2] 4]) rfl (zQ rfl zf) (fun _ => rfl) (fun b ⟨e, he, hS⟩ => by simp only [List.mem_cons, List.not_mem_nil, or_false] at he; rcases he with rfl; exact .inl ⟨_, List.mem_cons_self, rfl, hS⟩) rfl (wn rfl) rfl rfl Tryz.call44 (zI rfl zT) (fun W hW hp hE => Vy p0.X q1 bq1 q2 Aq2_0 cq2_0 (zF5.ext (hW.QM hp)) Aq2_1 cq2_1 (zF4.ext (hW.QM hp)) bq2 ((hW.QM hp).r _ hb2) ((hW.QM hp).cells hb2 hc2) q3 bq3 ((hW.QM hp).r _ hb3) ((hW.QM hp).cells hb3 hc3) zo zDf hE) ?_
 intro u hu zgl
 show Dr _ _ _ _ _ _ _ _ _ (uf _ 7 (iv zo.1)) (up _ 0 (bx bq1 #[bV zo.2] 4))
 refine Dr.tail (by kernel_rfl) ?_
 obtain ⟨zA7, zPR, H⟩ := bnd H
 refine Tr.zG2 [0] [bx bq1 #[bV zo.2] 4] (U := Unit) (fun u => (iv zA7.1)) (fun u => True) (fun u => [bx bq1 #[bV zA7.2] 4]) rfl (zQ rfl zf) (fun _ => rfl) (wn rfl) rfl rfl Tryz.call44 (zI rfl zT) (fun W hW hp hE => Vy p0.Y zo.2 bq1 q2 Aq2_0 cq2_0 (zF5.ext (hW.QM hp)) Aq2_1 cq2_1 (zF4.ext (hW.QM hp)) bq2 ((hW.QM hp).r _ hb2) ((hW.QM hp).cells hb2 hc2) q3 bq3 ((hW.QM hp).r _ hb3) ((hW.QM hp).cells hb3 hc3) zA7 zPR hE) ?_
 intro u hu
 show Tr _ _ (uf _ 11 (iv zA7.1)) (up _ 0 (bx bq1 #[bV zA7.2] 4)) _
 refine Tr.build (vs := [(0, iv zo.1), (1, iv zA7.1)]) (cs := [iv zo.1, iv zA7.1]) (wn rfl) rfl (zq rfl (zq rfl Qi)) (by kernel_rfl) ?_
 refine Tr.store 2 (cs := [iv zo.1, iv zA7.1]) [iv zo.1, iv zA7.1] (wn rfl) rfl rfl rfl rfl Js rfl rfl rfl ?_
 refine Tr.nil (Tr.zA (Tr.ret ?_))
 obtain rfl := oI H
 exact Tr.out (m := [.agg #[iv zo.1, iv zA7.1]]) [2] (Wq rfl rfl VP Js zX) (fun W hW => ⟨(), rfl, trivial, HF.zFO leB (hW.pick (ks := [0]) (by decide) (zQ rfl zf)) ⟨zKw _ _ _, trivial⟩⟩)

theorem zBt {w : Bs} (p0 : zG) (zC : Option Addr) (zD : Nat) (zO : Option Addr) (zN : Nat) (Qe : Sl w.R w.W zH zO zN p0.Steps) (Ae0 : Option Addr) (ce0 : Nat) (le0 : List zG) (ie0 : Nat) (hi0 : ie0 < le0.length) (bq0 : Nat) (bq1 : Nat) (q2 : Bool) (bq2 : Nat) (q3 : zm) (Aq3_0 : Option Addr) (cq3_0 : Nat) (zF3 : Sl w.R w.W zP Aq3_0 cq3_0 q3.Tools) (Aq3_1 : Option Addr) (cq3_1 : Nat) (zF2 : Sl w.R w.W zH Aq3_1 cq3_1 q3.Steps) (bq3 : Nat) (hb3 : w.R bq3) (hc3 : zR w.W bq3 0 [iv q3.Unit, sL Aq3_0 q3.Tools cq3_0, sL Aq3_1 q3.Steps cq3_1]) (q4 : Int) (bq4 : Nat) (hb4 : w.R bq4) (hc4 : zR w.W bq4 0 [iv q4]) (hb0 : w.R bq0) (hc0 : zR w.W bq0 0 [.func (.func 66) #[] #[pV bq1]]) (hb1 : w.R bq1) (hc1 : zR w.W bq1 0 [.func (.func 44) #[] #[pV bq2, pV bq3, pV bq4]]) (r : (Int × Int × (List zJ) × Bool)) (H : JX p0 q2 q3 q4 = some r) (hE : HF w w.W (LEn [ow Ae0 ce0 46 (mix zH) (zAd le0 ie0 (raw zH [iv p0.Kind, sv p0.Name, iv p0.At.X, iv p0.At.Y, sL zC p0.Points zD, iv p0.NX, iv p0.NY, sL zO p0.Steps zN] rfl rfl)), ow zC zD 43 QU p0.Points, bx bq2 #[bV q2] 4])) : Calls Tryz.prog 68 [.pointer (some ⟨adB Ae0, adO Ae0 + ie0 * 8, none⟩), pV bq0].toArray w.W fun e W' => ∃ (w' : Bs) (u : Unit), w.Le w' ∧ e = .returned (.tuple #[]) ∧ (r.2.2.1.length = p0.Points.length) ∧ HF w' W' (LEn [ow Ae0 ce0 46 (mix zH) (zAd le0 ie0 (raw zH [iv p0.Kind, sv p0.Name, iv r.1, iv r.2.1, sL zC r.2.2.1 zD, iv p0.NX, iv p0.NY, sL zO p0.Steps zN] rfl rfl)), ow zC zD 43 QU r.2.2.1, bx bq2 #[bV r.2.2.2] 4]) := by
 unfold JX at H
 have zCV := (hE.sl (k := 1) rfl).form
 have leB := Bs.Le.refl w
 refine Tr.enter (n := 37) Tryz.func68 rfl rfl rfl hE ?_
 refine Tr.seq (Tr.zHS 7 [(6, fun x => x = bq2)] [] (by kernel_rfl) (by kernel_rfl) fun zm7 zkH zlf => ?_)
 refine Dr.KM 0 (by kernel_rfl) rfl (wn rfl) rfl (by kernel_rfl) (fun _ _ a => run_move (a.ev rfl)) rfl ?_
 refine Dr.quiet 1 [(5, .func (.func 66) #[] #[pV bq1])] (by kernel_rfl) rfl rfl (by kernel_rfl) ?_ rfl rfl ?_
 ·refine Tq.va rfl (fun _ _ a c => zF zbE (a.ev rfl) (rdR hb0 hc0 c) rfl) ?_
  exact Tq.fin (.cons rfl .nil)
 refine Dr.KM 2 (by kernel_rfl) rfl (wn rfl) rfl (by kernel_rfl) (fun _ _ a => run_move (a.ev rfl)) rfl ?_
 refine Dr.KM 3 (by kernel_rfl) rfl (wn rfl) rfl (by kernel_rfl) (fun _ _ a => zt (a.ev rfl)) rfl ?_
 refine Dr.KM 4 (by kernel_rfl) rfl (wn rfl) rfl (by kernel_rfl) (fun _ _ a => zB zDh (a.ev rfl)) rfl ?_
 refine Dr.quiet 5 [(9, .agg #[iv p0.At.X, iv p0.At.Y])] (by kernel_rfl) rfl rfl (by kernel_rfl) ?_ rfl rfl ?_
 ·refine Tq.va rfl (fun _ _ a c => zZ (cs := [iv p0.At.X, iv p0.At.Y]) VP Js (a.ev rfl) (zR.take (zR.drop (rdm (cs := raw zH [iv p0.Kind, sv p0.Name, iv p0.At.X, iv p0.At.Y, sL zC p0.Points zD, iv p0.NX, iv p0.NY, sL zO p0.Steps zN] rfl rfl) c (κ := 0) rfl hi0) 2) 2) rfl) ?_
  exact Tq.fin (.cons rfl .nil)
 obtain ⟨y101, hy101, H⟩ := bnd H
 refine Dr.one 6 (by kernel_rfl) ?_
 refine St.zG2 6 [2] [bx bq2 #[bV q2] 4] (U := Unit) (fun u => (.agg #[iv y101.1.X, iv y101.1.Y])) (fun u => True) (fun u => [bx bq2 #[bV y101.2] 4]) rfl (zQ rfl zf) (fun _ => rfl) (fun b ⟨e, he, hS⟩ => by simp only [List.mem_cons, List.not_mem_nil, or_false] at he; rcases he with rfl; exact .inl ⟨_, List.mem_cons_self, rfl, hS⟩) rfl (wn rfl) rfl rfl Tryz.call66 (zI rfl zT) (fun W hW hp hE => zBV p0.At bq1 q2 bq2 q3 Aq3_0 cq3_0 (zF3.ext (hW.QM hp)) Aq3_1 cq3_1 (zF2.ext (hW.QM hp)) bq3 ((hW.QM hp).r _ hb3) ((hW.QM hp).cells hb3 hc3) q4 bq4 ((hW.QM hp).r _ hb4) ((hW.QM hp).cells hb4 hc4) ((hW.QM hp).r _ hb1) ((hW.QM hp).cells hb1 hc1) y101 hy101 hE) ?_
 intro u hu zmq
 show Dr _ _ _ _ _ _ _ _ _ (uf _ 10 (.agg #[iv y101.1.X, iv y101.1.Y])) (up _ 2 (bx bq2 #[bV y101.2] 4))
 refine Dr.tail (by kernel_rfl) ?_
 refine Tr.va rfl (fun _ _ a c => zt (a.ev rfl)) ?_
 refine Tr.va rfl (fun _ _ a c => zB zDh (a.ev rfl)) ?_
 refine Tr.zFr 0 (raw zH [iv p0.Kind, sv p0.Name, iv y101.1.X, iv y101.1.Y, sL zC p0.Points zD, iv p0.NX, iv p0.NY, sL zO p0.Steps zN] rfl rfl) (cs := [iv y101.1.X, iv y101.1.Y]) (fo := 2) (wn rfl) rfl rfl rfl rfl rfl hi0 Js rfl rfl rfl ?_
 refine Tr.nil (Tr.zA (Tr.sr (Tr.mv rfl rfl (Tr.va rfl (fun _ _ a c => zt (a.ev rfl)) ?_))))
 refine Tr.va rfl (fun _ _ a c => zB zCW (a.ev rfl)) ?_
 refine Tr.va rfl (fun _ _ a c => zF zIW (a.ev rfl) (zR.drop (rdm (cs := raw zH [iv p0.Kind, sv p0.Name, iv y101.1.X, iv y101.1.Y, sL zC p0.Points zD, iv p0.NX, iv p0.NY, sL zO p0.Steps zN] rfl rfl) c (κ := 0) rfl hi0) 4) rfl) ?_
 refine Tr.va rfl (fun _ _ a c => QJ zGU (a.ev rfl)) ?_
 refine Tr.mv rfl rfl (Tr.nil (Tr.zA (Tr.block (Tr.loop (σ := (List zJ) × Nat × Bool × (List zJ)) (fun m w s => m = s.1.length + 1 ∧ s.1 = List.drop s.2.1 p0.Points ∧ s.2.1 ≤ p0.Points.length ∧ QS q3 q4 y101 s.1 s.2.1 s.2.2.1 s.2.2.2 = some r ∧ s.2.2.2.length = p0.Points.length) (fun s => [(0, .pointer (some ⟨adB Ae0, adO Ae0 + ie0 * 8, none⟩)), (1, pV bq0), (17, iv (p0.Points.length : Int)), (18, iv (s.2.1 : Int))]) (fun s => [(0, ow Ae0 ce0 46 (mix zH) (zAd le0 ie0 (raw zH [iv p0.Kind, sv p0.Name, iv y101.1.X, iv y101.1.Y, sL zC s.2.2.2 zD, iv p0.NX, iv p0.NY, sL zO p0.Steps zN] rfl rfl))), (1, ow zC zD 43 QU s.2.2.2), (2, bx bq2 #[bV s.2.2.1] 4)]) (p0.Points.length + 1) (p0.Points, 0, y101.2, p0.Points) ⟨rfl, rfl, Nat.zero_le _, H, rfl⟩ (.cons rfl (.cons rfl (.cons rfl (.cons rfl .nil)))) (.cons rfl (.cons rfl (.cons rfl .nil))) (fun _ _ h => absurd h.1 (by simp)) ?_))))
 intro w Qd m s hs
 obtain ⟨zY, iL1, zS1, zIj⟩ := s
 obtain ⟨Kj, QF, hiL1, H, zT7⟩ := hs
 replace QF : zY = List.drop iL1 p0.Points := QF
 replace H : QS q3 q4 y101 zY iL1 zS1 zIj = some r := H
 replace Kj : m + 1 = zY.length + 1 := Kj
 replace hc0 := Qd.ext.cells hb0 hc0
 replace hb0 := Qd.r _ hb0
 replace hc1 := Qd.ext.cells hb1 hc1
 replace hb1 := Qd.r _ hb1
 replace hc3 := Qd.ext.cells hb3 hc3
 replace hb3 := Qd.r _ hb3
 replace zF3 := zF3.leR Qd
 replace zF2 := zF2.leR Qd
 replace hc4 := Qd.ext.cells hb4 hc4
 replace hb4 := Qd.r _ hb4
 replace leB := leB.trans Qd
 replace zT7 : zIj.length = p0.Points.length := zT7
 have zVp : SlF zC zIj.length zD := (by rw [zT7]; exact zCV)
 obtain rfl : m = zY.length := by omega
 clear Kj
 show Tr _ _ (LF [(0, .pointer (some ⟨adB Ae0, adO Ae0 + ie0 * 8, none⟩)), (1, pV bq0), (17, iv (p0.Points.length : Int)), (18, iv (iL1 : Int))]) (LE [(0, ow Ae0 ce0 46 (mix zH) (zAd le0 ie0 (raw zH [iv p0.Kind, sv p0.Name, iv y101.1.X, iv y101.1.Y, sL zC zIj zD, iv p0.NX, iv p0.NY, sL zO p0.Steps zN] rfl rfl))), (1, ow zC zD 43 QU zIj), (2, bx bq2 #[bV zS1] 4)]) _
 cases zY with
 | nil =>
  rw [QS.eq_1] at H
  refine Tr.sr (Tr.va rfl (fun _ _ a c => QI (a.ev rfl) (a.ev rfl)) ?_)
  refine Tr.nil (Tr.zA (Tr.seq (Tr.WL rfl (JS QF) ?_)))
  refine Tr.exit (Tr.zk (Tr.zk (Tr.QV (Tr.zRp ?_))))
  obtain rfl := oI H
  exact Tr.out (m := []) [] zX (fun W hW => ⟨w, (), leB, rfl, zT7, hW.pick (ks := [0, 1, 2]) (by decide) (zQ rfl (zQ rfl (zQ rfl zf)))⟩)
 | cons xL1 zY =>
  rw [QS.eq_2] at H
  refine Tr.sr (Tr.va rfl (fun _ _ a c => QI (a.ev rfl) (a.ev rfl)) ?_)
  refine Tr.nil (Tr.zA (Tr.seq (Tr.WK rfl (Jt QF) ?_)))
  refine Tr.skip (Tr.zA (Tr.seq (Tr.block (Tr.sr (Tr.mv rfl rfl (Tr.asg rfl rfl (Tr.nil (Tr.zA (Tr.zHS 14 [(13, fun x => x = bq2)] [] (by kernel_rfl) (by kernel_rfl) fun zc6 zkD zla => ?_)))))))))
  refine Dr.KM 0 (by kernel_rfl) rfl (wn rfl) rfl (by kernel_rfl) (fun _ _ a => run_move (a.ev rfl)) rfl ?_
  refine Dr.KM 1 (by kernel_rfl) rfl (wn rfl) rfl (by kernel_rfl) (fun _ _ a => zt (a.ev rfl)) rfl ?_
  refine Dr.KM 2 (by kernel_rfl) rfl (wn rfl) rfl (by kernel_rfl) (fun _ _ a => zB zCW (a.ev rfl)) rfl ?_
  refine Dr.We 3 [(24, sL zC zIj zD)] [13] false (by kernel_rfl) rfl rfl (by kernel_rfl) (fun W W' c hsW hk => HF.zBv (le := [(0, ow Ae0 ce0 46 (mix zH) (zAd le0 ie0 (raw zH [iv p0.Kind, sv p0.Name, iv y101.1.X, iv y101.1.Y, sL zC zIj zD, iv p0.NX, iv p0.NY, sL zO p0.Steps zN] rfl rfl)))]) (ks := [(2, fun x => x = bq2)]) (s0 := zc6) false c hk (fun h => absurd h (by decide)) (.cons rfl .nil) (fun b hb => hb.elim (fun ⟨p, hp, hf, hb⟩ => by simp only [List.mem_cons, List.not_mem_nil, or_false] at hp; rcases hp with rfl; exact .inl ⟨_, List.mem_cons_self, hb⟩) (fun hb => absurd hb.1 (by decide))) (List.forall_mem_cons.2 ⟨fun b hb => hb, (fun _ h => nomatch h)⟩) rfl) ?_ rfl rfl ?_
  ·refine Tq.va rfl (fun _ _ a c => zF zIW (a.ev rfl) (zR.drop (rdm (cs := raw zH [iv p0.Kind, sv p0.Name, iv y101.1.X, iv y101.1.Y, sL zC zIj zD, iv p0.NX, iv p0.NY, sL zO p0.Steps zN] rfl rfl) c (κ := 0) rfl hi0) 4) rfl) ?_
   exact Tq.fin (.cons rfl .nil)
  refine Dr.KM 4 (by kernel_rfl) rfl (wn rfl) rfl (by kernel_rfl) (fun _ _ a => run_move (a.ev rfl)) rfl ?_
  refine Dr.quiet 5 [(26, .func (.func 66) #[] #[pV bq1])] (by kernel_rfl) rfl rfl (by kernel_rfl) ?_ rfl rfl ?_
  ·refine Tq.va rfl (fun _ _ a c => zF zbE (a.ev rfl) (rdR hb0 hc0 c) rfl) ?_
   exact Tq.fin (.cons rfl .nil)
  refine Dr.KM 6 (by kernel_rfl) rfl (wn rfl) rfl (by kernel_rfl) (fun _ _ a => run_move (a.ev rfl)) rfl ?_
  refine Dr.KM 7 (by kernel_rfl) rfl (wn rfl) rfl (by kernel_rfl) (fun _ _ a => zt (a.ev rfl)) rfl ?_
  refine Dr.KM 8 (by kernel_rfl) rfl (wn rfl) rfl (by kernel_rfl) (fun _ _ a => zB zCW (a.ev rfl)) rfl ?_
  refine Dr.We 9 [(30, sL zC zIj zD)] [13] false (by kernel_rfl) rfl rfl (by kernel_rfl) (fun W W' c hsW hk => HF.zBv (le := [(0, ow Ae0 ce0 46 (mix zH) (zAd le0 ie0 (raw zH [iv p0.Kind, sv p0.Name, iv y101.1.X, iv y101.1.Y, sL zC zIj zD, iv p0.NX, iv p0.NY, sL zO p0.Steps zN] rfl rfl)))]) (ks := [(2, fun x => x = bq2)]) (s0 := zc6) false c hk (fun h => absurd h (by decide)) (.cons rfl .nil) (fun b hb => hb.elim (fun ⟨p, hp, hf, hb⟩ => by simp only [List.mem_cons, List.not_mem_nil, or_false] at hp; rcases hp with rfl; exact .inl ⟨_, List.mem_cons_self, hb⟩) (fun hb => absurd hb.1 (by decide))) (List.forall_mem_cons.2 ⟨fun b hb => hb, (fun _ h => nomatch h)⟩) rfl) ?_ rfl rfl ?_
  ·refine Tq.va rfl (fun _ _ a c => zF zIW (a.ev rfl) (zR.drop (rdm (cs := raw zH [iv p0.Kind, sv p0.Name, iv y101.1.X, iv y101.1.Y, sL zC zIj zD, iv p0.NX, iv p0.NY, sL zO p0.Steps zN] rfl rfl) c (κ := 0) rfl hi0) 4) rfl) ?_
   exact Tq.fin (.cons rfl .nil)
  refine Dr.KM 10 (by kernel_rfl) rfl (wn rfl) rfl (by kernel_rfl) (fun _ _ a => run_move (a.ev rfl)) rfl ?_
  obtain ⟨zRa, zjr, H⟩ := bnd H
  obtain ⟨zgO, zgN, zgM⟩ := zz zjr
  refine Dr.KM 11 (by kernel_rfl) rfl (wn rfl) rfl (by kernel_rfl) (fun _ _ a => zM zLi (a.ev rfl) zVp (a.ev rfl) zgO zgN) rfl ?_
  refine Dr.quiet 12 [(33, .agg #[iv zRa.X, iv zRa.Y])] (by kernel_rfl) rfl rfl (by kernel_rfl) ?_ rfl rfl ?_
  ·refine Tq.va rfl (fun _ _ a c => zZ (cs := [iv zRa.X, iv zRa.Y]) VP Js (a.ev rfl) (zR.take (rdo zCY (k := 1) c rfl zgM) 2) rfl) ?_
   exact Tq.fin (.cons rfl .nil)
  obtain ⟨zIp, hy128, H⟩ := bnd H
  refine Dr.one 13 (by kernel_rfl) ?_
  refine St.zG2 13 [2] [bx bq2 #[bV zS1] 4] (U := Unit) (fun u => (.agg #[iv zIp.1.X, iv zIp.1.Y])) (fun u => True) (fun u => [bx bq2 #[bV zIp.2] 4]) rfl (zQ rfl zf) (fun _ => rfl) (fun b ⟨e, he, hS⟩ => by simp only [List.mem_cons, List.not_mem_nil, or_false] at he; rcases he with rfl; exact .inl ⟨_, List.mem_cons_self, rfl, hS⟩) rfl (wn rfl) rfl rfl Tryz.call66 (zI rfl zT) (fun W hW hp hE => zBV zRa bq1 zS1 bq2 q3 Aq3_0 cq3_0 (zF3.ext (hW.QM hp)) Aq3_1 cq3_1 (zF2.ext (hW.QM hp)) bq3 ((hW.QM hp).r _ hb3) ((hW.QM hp).cells hb3 hc3) q4 bq4 ((hW.QM hp).r _ hb4) ((hW.QM hp).cells hb4 hc4) ((hW.QM hp).r _ hb1) ((hW.QM hp).cells hb1 hc1) zIp hy128 hE) ?_
  intro u hu zmn
  show Dr _ _ _ _ _ _ _ _ _ (uf _ 34 (.agg #[iv zIp.1.X, iv zIp.1.Y])) (up _ 2 (bx bq2 #[bV zIp.2] 4))
  refine Dr.tail (by kernel_rfl) ?_
  obtain ⟨zmE, zjq, H⟩ := bnd H
  obtain ⟨zgI, zgH, zgG⟩ := zz zjq
  refine Tr.va rfl (fun _ _ a c => zM zLi (a.ev rfl) zVp (a.ev rfl) zgI zgH) ?_
  obtain ⟨zTo, zdW, H⟩ := bnd H
  have zPg := zG9 zdW
  refine Tr.zHj 1 (t := QU) (l := zIj) (i := (iL1 : Int)) (fo := 0) (cs := [iv zIp.1.X, iv zIp.1.Y]) zIp.1 (wn rfl) rfl rfl rfl rfl rfl zgG Js rfl (fun u _ => ⟨u, trivial, rfl⟩) rfl zdW ?_
  have zmr : SlF zC zTo.length zD := by rw [zPg]; exact zVp
  have hsl131 := zPg.trans zT7
  refine Tr.sel (lf := [(0, .pointer (some ⟨adB Ae0, adO Ae0 + ie0 * 8, none⟩)), (1, pV bq0), (3, iv (iL1 : Int)), (17, iv (p0.Points.length : Int)), (18, iv (iL1 : Int)), (19, bV (decide ((iL1 : Int) < (p0.Points.length : Int)))), (20, iv (iL1 : Int)), (21, .pointer (some ⟨adB Ae0, adO Ae0 + ie0 * 8, none⟩)), (22, .pointer (some ⟨adB Ae0, adO Ae0 + ie0 * 8, none⟩)), (23, .pointer (some ⟨adB Ae0, adO Ae0 + ie0 * 8 + 4, none⟩)), (24, sL zC zTo zD), (25, iv (iL1 : Int)), (26, .func (.func 66) #[] #[pV bq1]), (27, .pointer (some ⟨adB Ae0, adO Ae0 + ie0 * 8, none⟩)), (28, .pointer (some ⟨adB Ae0, adO Ae0 + ie0 * 8, none⟩)), (29, .pointer (some ⟨adB Ae0, adO Ae0 + ie0 * 8 + 4, none⟩)), (30, sL zC zTo zD), (31, iv (iL1 : Int)), (33, .agg #[iv zRa.X, iv zRa.Y]), (34, .agg #[iv zIp.1.X, iv zIp.1.Y])]) (le := [(0, ow Ae0 ce0 46 (mix zH) (zAd le0 ie0 (raw zH [iv p0.Kind, sv p0.Name, iv y101.1.X, iv y101.1.Y, sL zC zTo zD, iv p0.NX, iv p0.NY, sL zO p0.Steps zN] rfl rfl))), (1, ow zC zD 43 QU zTo), (2, bx bq2 #[bV zIp.2] 4)]) (.cons rfl (.cons rfl (.cons rfl (.cons rfl (.cons rfl (.cons rfl (.cons rfl (.cons rfl (.cons rfl (.cons rfl (.cons (VK rfl (by unfold sL; rw [zPg])) (.cons rfl (.cons rfl (.cons rfl (.cons rfl (.cons rfl (.cons (VK rfl (by unfold sL; rw [zPg])) (.cons rfl (.cons rfl (.cons rfl .nil)))))))))))))))))))) (.cons (zg0 rfl (by unfold sL; rw [zPg])) (.cons rfl (.cons rfl .nil))) ?_
  refine Tr.nil (Tr.zl (Tr.zA (Tr.region (Tr.va rfl (fun _ _ a c => QK (a.ev rfl) (a.ev rfl)) ?_))))
  exact Tr.mv rfl rfl (Tr.nil (Tr.zn Qd (zY, (iL1 + 1), zIp.2, zTo) ⟨rfl, Qu QF, QB QF, H, hsl131⟩ (.cons rfl (.cons rfl (.cons rfl (.cons (congrArg (fun z => some (Value.int .i64 z)) (Qt QF zCV)) .nil)))) (.cons rfl (.cons rfl (.cons rfl .nil)))))

theorem zAt (N : Nat) (rec : (List zG) → Bool → zm → Int → Option ((List zG) × Bool)) (hrec : ∀ {w : Bs} (p0 : (List zG)) (zC : Option Addr) (zD : Nat) (zU : Sl w.O w.W zH zC zD p0) (bq0 : Nat) (bq1 : Nat) (q2 : Bool) (bq2 : Nat) (q3 : zm) (Aq3_0 : Option Addr) (cq3_0 : Nat) (zF3 : Sl w.R w.W zP Aq3_0 cq3_0 q3.Tools) (Aq3_1 : Option Addr) (cq3_1 : Nat) (zF2 : Sl w.R w.W zH Aq3_1 cq3_1 q3.Steps) (bq3 : Nat) (hb3 : w.R bq3) (hc3 : zR w.W bq3 0 [iv q3.Unit, sL Aq3_0 q3.Tools cq3_0, sL Aq3_1 q3.Steps cq3_1]) (q4 : Int) (bq4 : Nat) (hb4 : w.R bq4) (hc4 : zR w.W bq4 0 [iv q4]) (hb0 : w.R bq0) (hc0 : zR w.W bq0 0 [.func (.func 66) #[] #[pV bq1]]) (hb1 : w.R bq1) (hc1 : zR w.W bq1 0 [.func (.func 44) #[] #[pV bq2, pV bq3, pV bq4]]) (r : ((List zG) × Bool)) (H : rec p0 q2 q3 q4 = some r) (hE : HF w w.W (LEn [bx bq2 #[bV q2] 4, emp])), Calls Tryz.prog 33 [sL zC p0 zD, .func (.func 68) #[] #[pV bq0]].toArray w.W fun e W' => ∃ (w' : Bs) (u : (Option Addr × Nat)), w.Le w' ∧ e = .returned (sL u.1 r.1 u.2) ∧ (SlF u.1 r.1.length u.2) ∧ HF w' W' (LEn [bx bq2 #[bV r.2] 4, ow u.1 u.2 46 zH r.1])) {w : Bs} (p0 : (List zG)) (zC : Option Addr) (zD : Nat) (zU : Sl w.O w.W zH zC zD p0) (bq0 : Nat) (bq1 : Nat) (q2 : Bool) (bq2 : Nat) (q3 : zm) (Aq3_0 : Option Addr) (cq3_0 : Nat) (zF3 : Sl w.R w.W zP Aq3_0 cq3_0 q3.Tools) (Aq3_1 : Option Addr) (cq3_1 : Nat) (zF2 : Sl w.R w.W zH Aq3_1 cq3_1 q3.Steps) (bq3 : Nat) (hb3 : w.R bq3) (hc3 : zR w.W bq3 0 [iv q3.Unit, sL Aq3_0 q3.Tools cq3_0, sL Aq3_1 q3.Steps cq3_1]) (q4 : Int) (bq4 : Nat) (hb4 : w.R bq4) (hc4 : zR w.W bq4 0 [iv q4]) (hb0 : w.R bq0) (hc0 : zR w.W bq0 0 [.func (.func 66) #[] #[pV bq1]]) (hb1 : w.R bq1) (hc1 : zR w.W bq1 0 [.func (.func 44) #[] #[pV bq2, pV bq3, pV bq4]]) (r : ((List zG) × Bool)) (H : Qz N rec p0 q2 q3 q4 = some r) (hE : HF w w.W (LEn [bx bq2 #[bV q2] 4, emp])) : Calls Tryz.prog 33 [sL zC p0 zD, .func (.func 68) #[] #[pV bq0]].toArray w.W fun e W' => ∃ (w' : Bs) (u : (Option Addr × Nat)), w.Le w' ∧ e = .returned (sL u.1 r.1 u.2) ∧ (SlF u.1 r.1.length u.2) ∧ HF w' W' (LEn [bx bq2 #[bV r.2] 4, ow u.1 u.2 46 zH r.1]) := by
 unfold Qz at H
 have leB := Bs.Le.refl w
 refine Tr.enter (n := 42) Tryz.func33 rfl rfl rfl hE ?_
 refine Tr.sr (Tr.asg rfl rfl (Tr.JU 1 46 zH ?_))
 show Tr _ _ (uf _ 4 (sL none (([] : List zG)) 0)) _ _
 refine Tr.nil (Tr.zA (Tr.sr (Tr.mv rfl rfl ?_)))
 obtain ⟨zy, Ws, H⟩ := bnd H
 refine Tr.VT [2] [emp] (U := (Option Addr × Nat)) (fun u => (sL u.1 zy u.2)) (fun O W u => SlF u.1 zy.length u.2) (fun u => [ow u.1 u.2 46 zH zy]) rfl (zQ rfl zf) (fun _ => rfl) (wn rfl) rfl Tryz.call14 (zI rfl zT) (fun W hW hp hE => zCG p0 zC zD (zU.zAK (hW.QM hp)) zy Ws hE) ?_
 intro w u zAQ hu
 obtain ⟨QY, QX⟩ := u
 have gy100_0 := hu
 replace hc0 := zAQ.ext.cells hb0 hc0
 replace hb0 := zAQ.r _ hb0
 replace hc1 := zAQ.ext.cells hb1 hc1
 replace hb1 := zAQ.r _ hb1
 replace hc3 := zAQ.ext.cells hb3 hc3
 replace hb3 := zAQ.r _ hb3
 replace zF3 := zF3.leR zAQ
 replace zF2 := zF2.leR zAQ
 replace hc4 := zAQ.ext.cells hb4 hc4
 replace hb4 := zAQ.r _ hb4
 replace leB := leB.trans zAQ
 have zAR : SlF QY zy.length QX := gy100_0 --@phi
 show Tr _ _ (uf _ 8 (sL QY zy QX)) (up _ 2 (ow QY QX 46 zH zy)) _
 refine Tr.asg rfl rfl (Tr.nil (Tr.zA (Tr.seq (Tr.sr (Tr.mv rfl rfl (Tr.va rfl (fun _ _ a c => QJ zGV (a.ev rfl)) ?_))))))
 refine Tr.mv rfl rfl (Tr.nil (Tr.zA (Tr.block (Tr.loop (σ := Bool × (List zG) × Int × (Option Addr) × Nat) (fun m w s => QP q3 q4 rec zy m s.1 s.2.1 s.2.2.1 = some r ∧ SlF s.2.2.2.1 s.2.1.length s.2.2.2.2) (fun s => [(1, .func (.func 68) #[] #[pV bq0]), (5, sL s.2.2.2.1 s.2.1 s.2.2.2.2), (10, iv (zy.length : Int)), (11, iv s.2.2.1)]) (fun s => [(0, bx bq2 #[bV s.1] 4), (2, ow s.2.2.2.1 s.2.2.2.2 46 zH s.2.1)]) N (q2, zy, 0, QY, QX) ⟨H, zAR⟩ (.cons rfl (.cons rfl (.cons rfl (.cons rfl .nil)))) (.cons rfl (.cons rfl .nil)) (fun _ _ h => zA0 (h.1)) ?_))))
 intro w Qd mL1 s hs
 obtain ⟨x157, zB7, x159, WB, zBT⟩ := s
 obtain ⟨H, zLW⟩ := hs
 replace H : QP q3 q4 rec zy (mL1 + 1) x157 zB7 x159 = some r := H
 replace hc0 := Qd.ext.cells hb0 hc0
 replace hb0 := Qd.r _ hb0
 replace hc1 := Qd.ext.cells hb1 hc1
 replace hb1 := Qd.r _ hb1
 replace hc3 := Qd.ext.cells hb3 hc3
 replace hb3 := Qd.r _ hb3
 replace zF3 := zF3.leR Qd
 replace zF2 := zF2.leR Qd
 replace hc4 := Qd.ext.cells hb4 hc4
 replace hb4 := Qd.r _ hb4
 replace leB := leB.trans Qd
 replace zLW : SlF WB zB7.length zBT := zLW
 rw [QP.eq_2] at H
 show Tr _ _ (LF [(1, .func (.func 68) #[] #[pV bq0]), (5, sL WB zB7 zBT), (10, iv (zy.length : Int)), (11, iv x159)]) (LE [(0, bx bq2 #[bV x157] 4), (2, ow WB zBT 46 zH zB7)]) _
 refine Tr.sr (Tr.va rfl (fun _ _ a c => QI (a.ev rfl) (a.ev rfl)) ?_)
 refine Tr.nil (Tr.zA (Tr.seq (Tr.cond rfl H (fun H => ?_) (fun H => ?_))))
 ·refine Tr.skip (Tr.zA (Tr.seq (Tr.block (Tr.sr (Tr.mv rfl rfl (Tr.asg rfl rfl (Tr.nil (Tr.zA (Tr.sr (Tr.mv rfl rfl ?_))))))))))
  refine Tr.mv rfl rfl (Tr.mv rfl rfl (Tr.mv rfl rfl ?_))
  obtain ⟨x160, hx160, H⟩ := bnd H
  obtain ⟨zVf, zVe, zR5⟩ := zz hx160
  refine Tr.va rfl (fun _ _ a c => zM zFH (a.ev rfl) zLW (a.ev rfl) zVf zVe) ?_
  refine Tr.va rfl (fun _ _ a c => zB zCW (a.ev rfl)) ?_
  refine Tr.zS5 (U := (zH).Ad) (fun u => (zH).ok w.O w.W u x160) (fun u => (sL u.1.1 x160.Points u.1.2)) (wn rfl) rfl (ldN (κ := 2) (t := zH) (V := fun u => (sL u.1.1 x160.Points u.1.2)) rfl zR5 (fun _ _ u a hc => zF zIW (a.ev rfl) (hc.drop 4) rfl)) ?_
  intro zdq zR6
  obtain ⟨⟨zIM, zH5⟩, ⟨zIL, zH4⟩⟩ := zdq
  obtain ⟨zJs, zJr⟩ := Kn.1 zR6
  replace zJs : Sl w.O w.W QU zIM zH5 x160.Points := zJs
  show Tr _ _ (uf _ 20 (sL zIM x160.Points zH5)) _ _
  obtain ⟨zId, zi8, H⟩ := bnd H
  refine Tr.VM [7] [emp] (U := (Option Addr × Nat)) (fun u => (sL u.1 zId u.2)) (fun u => SlF u.1 zId.length u.2) (fun u => [ow u.1 u.2 43 QU zId]) rfl (zQ rfl zf) (fun _ => rfl) (wn rfl) rfl Tryz.call57 (zI rfl zT) (fun W hW hp hE => zDR x160.Points zIM zH5 (zJs.rl.ext (hW.QM hp)) zId zi8 hE) ?_
  intro u hu
  obtain ⟨WY, WT⟩ := u
  have gy162_0 := hu
  have zaP : SlF WY zId.length WT := gy162_0 --@phi
  show Tr _ _ (uf _ 21 (sL WY zId WT)) (up _ 7 (ow WY WT 43 QU zId)) _
  obtain ⟨JQ, zZp, H⟩ := bnd H
  obtain ⟨zVd, zVc, zR4⟩ := zz zZp
  refine Tr.va rfl (fun _ _ a c => zM zFH (a.ev rfl) zLW (a.ev rfl) zVd zVc) ?_
  refine Tr.va rfl (fun _ _ a c => zB zCW (a.ev rfl)) ?_
  refine Tr.zRu 2 rfl zR4 ?_
  intro zYb zLV
  obtain ⟨⟨zEX, zER⟩, ⟨zIK, zH3⟩⟩ := zYb
  obtain ⟨zCU, zMc⟩ := Kn.1 zLV
  replace zMc : Sl w.O w.W zH zIK zH3 JQ.Steps := zMc
  show Tr _ _ _ (up _ 2 (ow WB zBT 46 (mix zH) (zAd zB7 (x159).toNat (raw zH [iv JQ.Kind, sv JQ.Name, iv JQ.At.X, iv JQ.At.Y, sL zEX JQ.Points zER, iv JQ.NX, iv JQ.NY, sL zIK JQ.Steps zH3] rfl rfl)))) _
  refine Tr.zFr 2 (raw zH [iv JQ.Kind, sv JQ.Name, iv JQ.At.X, iv JQ.At.Y, sL WY zId WT, iv JQ.NX, iv JQ.NY, sL zIK JQ.Steps zH3] rfl rfl) (cs := [sL WY zId WT]) (fo := 4) (wn rfl) rfl rfl rfl rfl rfl (List.getElem?_eq_some_iff.1 zR4).1 zc4 rfl rfl rfl ?_
  refine Tr.nil (Tr.zA (Tr.sr (Tr.mv rfl rfl (Tr.mv rfl rfl (Tr.mv rfl rfl (Tr.mv rfl rfl ?_))))))
  obtain ⟨zU7, zT0, H⟩ := bnd H
  obtain ⟨zPU, zPT, zPS⟩ := zz zT0
  refine Tr.va rfl (fun _ _ a c => zM zFH (a.ev rfl) zLW (a.ev rfl) zPU zPT) ?_
  refine Tr.va rfl (fun _ _ a c => zB zC4 (a.ev rfl)) ?_
  refine Tr.va rfl (fun _ _ a c => zF zDp (a.ev rfl) (zR.drop (rdm (cs := raw zH [iv JQ.Kind, sv JQ.Name, iv JQ.At.X, iv JQ.At.Y, sL WY zId WT, iv JQ.NX, iv JQ.NY, sL zIK JQ.Steps zH3] rfl rfl) c (κ := 2) rfl (List.getElem?_eq_some_iff.1 zPS).1) 7) rfl) ?_
  refine Tr.mv rfl rfl ?_
  obtain ⟨y167, hy167, H⟩ := bnd H
  refine Tr.VT [0, 8] [bx bq2 #[bV x157] 4, emp] (U := (Option Addr × Nat)) (fun u => (sL u.1 y167.1 u.2)) (fun O W u => SlF u.1 y167.1.length u.2) (fun u => [bx bq2 #[bV y167.2] 4, ow u.1 u.2 46 zH y167.1]) rfl (zQ rfl (zQ rfl zf)) (fun _ => rfl) (wn rfl) rfl Tryz.call33 (zI rfl (zI rfl zT)) (fun W hW hp hE => hrec JQ.Steps zIK zH3 (zMc.zAK (hW.QM hp)) bq0 bq1 x157 bq2 q3 Aq3_0 cq3_0 (zF3.ext (hW.QM hp)) Aq3_1 cq3_1 (zF2.ext (hW.QM hp)) bq3 ((hW.QM hp).r _ hb3) ((hW.QM hp).cells hb3 hc3) q4 bq4 ((hW.QM hp).r _ hb4) ((hW.QM hp).cells hb4 hc4) ((hW.QM hp).r _ hb0) ((hW.QM hp).cells hb0 hc0) ((hW.QM hp).r _ hb1) ((hW.QM hp).cells hb1 hc1) y167 hy167 hE) ?_
  intro w u zHI hu
  obtain ⟨zB1, zBw⟩ := u
  have gy167_0 := hu
  replace hc0 := zHI.ext.cells hb0 hc0
  replace hb0 := zHI.r _ hb0
  replace hc1 := zHI.ext.cells hb1 hc1
  replace hb1 := zHI.r _ hb1
  replace hc3 := zHI.ext.cells hb3 hc3
  replace hb3 := zHI.r _ hb3
  replace zF3 := zF3.leR zHI
  replace zF2 := zF2.leR zHI
  replace hc4 := zHI.ext.cells hb4 hc4
  replace hb4 := zHI.r _ hb4
  replace Qd := Qd.trans zHI
  have zkl : SlF zB1 y167.1.length zBw := gy167_0 --@phi
  show Tr _ _ (uf _ 32 (sL zB1 y167.1 zBw)) (up (up _ 8 (ow zB1 zBw 46 zH y167.1)) 0 (bx bq2 #[bV y167.2] 4)) _
  obtain ⟨zmB, zjf, H⟩ := bnd H
  obtain ⟨zfl, zfk, zfj⟩ := zz zjf
  refine Tr.va rfl (fun _ _ a c => zM zFH (a.ev rfl) zLW (a.ev rfl) zfl zfk) ?_
  refine Tr.va rfl (fun _ _ a c => zB zC4 (a.ev rfl)) ?_
  refine Tr.zFr 2 (raw zH [iv JQ.Kind, sv JQ.Name, iv JQ.At.X, iv JQ.At.Y, sL WY zId WT, iv JQ.NX, iv JQ.NY, sL zB1 y167.1 zBw] rfl rfl) (cs := [sL zB1 y167.1 zBw]) (fo := 7) (wn rfl) rfl rfl rfl rfl rfl (List.getElem?_eq_some_iff.1 zfj).1 zV6 rfl rfl rfl ?_
  refine Tr.nil (Tr.zA (Tr.region (Tr.mv rfl rfl (Tr.mv rfl rfl (Tr.mv rfl rfl ?_)))))
  obtain ⟨zFp, zZo, H⟩ := bnd H
  obtain ⟨zVb, zVa, zVZ⟩ := zz zZo
  refine Tr.va rfl (fun _ _ a c => zM zFH (a.ev rfl) zLW (a.ev rfl) zVb zVa) ?_
  obtain ⟨Vk, zi6, H⟩ := bnd H
  refine Tr.za3 [2, 7, 0] [ow WB zBT 46 (mix zH) (zAd zB7 (x159).toNat (raw zH [iv JQ.Kind, sv JQ.Name, iv JQ.At.X, iv JQ.At.Y, sL WY zId WT, iv JQ.NX, iv JQ.NY, sL zB1 y167.1 zBw] rfl rfl)), ow WY WT 43 QU zId, bx bq2 #[bV y167.2] 4] (U := Unit) (fun u => (.tuple #[])) (fun O W u => Vk.2.2.1.length = zId.length) (fun u => [ow WB zBT 46 (mix zH) (zAd zB7 (x159).toNat (raw zH [iv JQ.Kind, sv JQ.Name, iv Vk.1, iv Vk.2.1, sL WY Vk.2.2.1 WT, iv JQ.NX, iv JQ.NY, sL zB1 y167.1 zBw] rfl rfl)), ow WY WT 43 QU Vk.2.2.1, bx bq2 #[bV Vk.2.2.2] 4]) rfl (zQ rfl (zQ rfl (zQ rfl zf))) (fun _ => rfl) (wn rfl) rfl rfl Tryz.call68 (zI rfl zT) (fun W hW hp hE => zBt (zG.mk JQ.Kind JQ.Name JQ.At zId JQ.NX JQ.NY y167.1) WY WT zB1 zBw (hW.slS (k := 8) rfl hp rfl) WB zBT zB7 ((x159).toNat) (List.getElem?_eq_some_iff.1 zVZ).1 bq0 bq1 y167.2 bq2 q3 Aq3_0 cq3_0 (zF3.ext (hW.QM hp)) Aq3_1 cq3_1 (zF2.ext (hW.QM hp)) bq3 ((hW.QM hp).r _ hb3) ((hW.QM hp).cells hb3 hc3) q4 bq4 ((hW.QM hp).r _ hb4) ((hW.QM hp).cells hb4 hc4) ((hW.QM hp).r _ hb0) ((hW.QM hp).cells hb0 hc0) ((hW.QM hp).r _ hb1) ((hW.QM hp).cells hb1 hc1) Vk zi6 hE) ?_
  intro w u zWX hu
  have gky171_1 := hu
  replace Qd := Qd.trans zWX
  have zMo : Vk.2.2.1.length = zId.length := gky171_1 --@phi
  have zhR : SlF WY Vk.2.2.1.length WT := by rw [zMo]; exact zaP
  show Tr _ _ (uf _ 39 (.tuple #[])) (up (up (up _ 0 (bx bq2 #[bV Vk.2.2.2] 4)) 7 (ow WY WT 43 QU Vk.2.2.1)) 2 (ow WB zBT 46 (mix zH) (zAd zB7 (x159).toNat (raw zH [iv JQ.Kind, sv JQ.Name, iv Vk.1, iv Vk.2.1, sL WY Vk.2.2.1 WT, iv JQ.NX, iv JQ.NY, sL zB1 y167.1 zBw] rfl rfl)))) _
  refine Tr.sel (lf := [(1, .func (.func 68) #[] #[pV bq0]), (5, sL WB zB7 zBT), (6, iv x159), (10, iv (zy.length : Int)), (11, iv x159), (12, bV (decide (x159 < (zy.length : Int)))), (13, iv x159), (14, sL WB zB7 zBT), (15, iv x159), (16, sL WB zB7 zBT), (17, iv x159), (20, sL zIM x160.Points zH5), (21, sL WY Vk.2.2.1 WT), (24, sL WB zB7 zBT), (25, iv x159), (26, sL WB zB7 zBT), (27, iv x159), (28, .pointer (some ⟨adB WB, adO WB + (x159).toNat * 8, none⟩)), (29, .pointer (some ⟨adB WB, adO WB + (x159).toNat * 8 + 7, none⟩)), (30, sL zIK JQ.Steps zH3), (31, .func (.func 68) #[] #[pV bq0]), (32, sL zB1 y167.1 zBw), (33, .pointer (some ⟨adB WB, adO WB + (x159).toNat * 8, none⟩)), (34, .pointer (some ⟨adB WB, adO WB + (x159).toNat * 8 + 7, none⟩)), (35, .func (.func 68) #[] #[pV bq0]), (36, sL WB zB7 zBT), (37, iv x159), (38, .pointer (some ⟨adB WB, adO WB + (x159).toNat * 8, none⟩)), (39, (.tuple #[]))]) (le := [(0, bx bq2 #[bV Vk.2.2.2] 4), (2, ow WB zBT 46 (mix zH) (zAd zB7 (x159).toNat (raw zH [iv JQ.Kind, sv JQ.Name, iv Vk.1, iv Vk.2.1, sL WY Vk.2.2.1 WT, iv JQ.NX, iv JQ.NY, sL zB1 y167.1 zBw] rfl rfl))), (7, ow WY WT 43 QU Vk.2.2.1), (8, ow zB1 zBw 46 zH y167.1)]) (.cons rfl (.cons rfl (.cons rfl (.cons rfl (.cons rfl (.cons rfl (.cons rfl (.cons rfl (.cons rfl (.cons rfl (.cons rfl (.cons rfl (.cons (VK rfl (by unfold sL; rw [zMo])) (.cons rfl (.cons rfl (.cons rfl (.cons rfl (.cons rfl (.cons rfl (.cons rfl (.cons rfl (.cons rfl (.cons rfl (.cons rfl (.cons rfl (.cons rfl (.cons rfl (.cons rfl (.cons rfl .nil))))))))))))))))))))))))))))) (.cons rfl (.cons (zg0 rfl (by unfold sL; rw [zMo])) (.cons rfl (.cons rfl .nil)))) ?_
  refine Tr.nil (Tr.zl (Tr.zA (Tr.region (Tr.va rfl (fun _ _ a c => QK (a.ev rfl) (a.ev rfl)) ?_))))
  refine Tr.mv rfl rfl (Tr.nil (Tr.freeze 7 rfl fun w ziH zZY => ?_))
  replace Qd := Qd.trans ziH
  refine Tr.freeze 8 rfl fun w zdJ ziN => ?_
  replace zZY := zZY.le zdJ
  replace Qd := Qd.trans zdJ
  refine Tr.zO7 2 rfl (((WY, WT), (zB1, zBw))) (zG.mk JQ.Kind JQ.Name (zJ.mk Vk.1 Vk.2.1) Vk.2.2.1 JQ.NX JQ.NY y167.1) (Kn.2 ⟨zZY, ziN⟩) rfl ?_
  have zPe : ((zB7).set (x159).toNat (zG.mk JQ.Kind JQ.Name (zJ.mk Vk.1 Vk.2.1) Vk.2.2.1 JQ.NX JQ.NY y167.1)).length = zB7.length := List.length_set
  have zcT : SlF WB ((zB7).set (x159).toNat (zG.mk JQ.Kind JQ.Name (zJ.mk Vk.1 Vk.2.1) Vk.2.2.1 JQ.NX JQ.NY y167.1)).length zBT := by rw [zPe]; exact zLW
  refine Tr.sel (lf := [(1, .func (.func 68) #[] #[pV bq0]), (5, sL WB (((zB7).set (x159).toNat (zG.mk JQ.Kind JQ.Name (zJ.mk Vk.1 Vk.2.1) Vk.2.2.1 JQ.NX JQ.NY y167.1))) zBT), (6, iv x159), (10, iv (zy.length : Int)), (11, iv (w64 (x159 + 1))), (12, bV (decide (x159 < (zy.length : Int)))), (13, iv x159), (14, sL WB (((zB7).set (x159).toNat (zG.mk JQ.Kind JQ.Name (zJ.mk Vk.1 Vk.2.1) Vk.2.2.1 JQ.NX JQ.NY y167.1))) zBT), (15, iv x159), (16, sL WB (((zB7).set (x159).toNat (zG.mk JQ.Kind JQ.Name (zJ.mk Vk.1 Vk.2.1) Vk.2.2.1 JQ.NX JQ.NY y167.1))) zBT), (17, iv x159), (20, sL zIM x160.Points zH5), (21, sL WY Vk.2.2.1 WT), (24, sL WB (((zB7).set (x159).toNat (zG.mk JQ.Kind JQ.Name (zJ.mk Vk.1 Vk.2.1) Vk.2.2.1 JQ.NX JQ.NY y167.1))) zBT), (25, iv x159), (26, sL WB (((zB7).set (x159).toNat (zG.mk JQ.Kind JQ.Name (zJ.mk Vk.1 Vk.2.1) Vk.2.2.1 JQ.NX JQ.NY y167.1))) zBT), (27, iv x159), (30, sL zIK JQ.Steps zH3), (31, .func (.func 68) #[] #[pV bq0]), (32, sL zB1 y167.1 zBw), (35, .func (.func 68) #[] #[pV bq0]), (36, sL WB (((zB7).set (x159).toNat (zG.mk JQ.Kind JQ.Name (zJ.mk Vk.1 Vk.2.1) Vk.2.2.1 JQ.NX JQ.NY y167.1))) zBT), (37, iv x159), (39, (.tuple #[])), (40, iv (w64 (x159 + 1)))]) (le := [(0, bx bq2 #[bV Vk.2.2.2] 4), (2, ow WB zBT 46 zH ((zB7).set (x159).toNat (zG.mk JQ.Kind JQ.Name (zJ.mk Vk.1 Vk.2.1) Vk.2.2.1 JQ.NX JQ.NY y167.1)))]) (.cons rfl (.cons (VK rfl (by unfold sL; rw [zPe])) (.cons rfl (.cons rfl (.cons rfl (.cons rfl (.cons rfl (.cons (VK rfl (by unfold sL; rw [zPe])) (.cons rfl (.cons (VK rfl (by unfold sL; rw [zPe])) (.cons rfl (.cons rfl (.cons rfl (.cons (VK rfl (by unfold sL; rw [zPe])) (.cons rfl (.cons (VK rfl (by unfold sL; rw [zPe])) (.cons rfl (.cons rfl (.cons rfl (.cons rfl (.cons rfl (.cons (VK rfl (by unfold sL; rw [zPe])) (.cons rfl (.cons rfl (.cons rfl .nil))))))))))))))))))))))))) (.cons rfl (.cons rfl .nil)) ?_
  exact Tr.zn Qd (Vk.2.2.2, ((zB7).set (x159).toNat (zG.mk JQ.Kind JQ.Name (zJ.mk Vk.1 Vk.2.1) Vk.2.2.1 JQ.NX JQ.NY y167.1)), (w64 (x159 + 1)), WB, zBT) ⟨H, zcT⟩ (.cons rfl (.cons rfl (.cons rfl (.cons rfl .nil)))) (.cons rfl (.cons rfl .nil))
 ·refine Tr.exit (Tr.zk (Tr.zk (Tr.QV (Tr.zA (Tr.sr (Tr.mv rfl rfl (Tr.asg rfl rfl (Tr.nil (Tr.zA (Tr.ret ?_))))))))))
  obtain rfl := oI H
  exact Tr.out (m := [sL WB zB7 zBT]) [] (zW rfl zX) (fun W hW => ⟨w, (WB, zBT), leB, rfl, zLW, hW.pick (ks := [0, 2]) (by decide) (zQ rfl (zQ rfl zf))⟩)
theorem Vd : ∀ (N : Nat) {w : Bs} (p0 : (List zG)) (zC : Option Addr) (zD : Nat) (zU : Sl w.O w.W zH zC zD p0) (bq0 : Nat) (bq1 : Nat) (q2 : Bool) (bq2 : Nat) (q3 : zm) (Aq3_0 : Option Addr) (cq3_0 : Nat) (zF3 : Sl w.R w.W zP Aq3_0 cq3_0 q3.Tools) (Aq3_1 : Option Addr) (cq3_1 : Nat) (zF2 : Sl w.R w.W zH Aq3_1 cq3_1 q3.Steps) (bq3 : Nat) (hb3 : w.R bq3) (hc3 : zR w.W bq3 0 [iv q3.Unit, sL Aq3_0 q3.Tools cq3_0, sL Aq3_1 q3.Steps cq3_1]) (q4 : Int) (bq4 : Nat) (hb4 : w.R bq4) (hc4 : zR w.W bq4 0 [iv q4]) (hb0 : w.R bq0) (hc0 : zR w.W bq0 0 [.func (.func 66) #[] #[pV bq1]]) (hb1 : w.R bq1) (hc1 : zR w.W bq1 0 [.func (.func 44) #[] #[pV bq2, pV bq3, pV bq4]]) (r : ((List zG) × Bool)) (H : JJ N p0 q2 q3 q4 = some r) (hE : HF w w.W (LEn [bx bq2 #[bV q2] 4, emp])), Calls Tryz.prog 33 [sL zC p0 zD, .func (.func 68) #[] #[pV bq0]].toArray w.W fun e W' => ∃ (w' : Bs) (u : (Option Addr × Nat)), w.Le w' ∧ e = .returned (sL u.1 r.1 u.2) ∧ (SlF u.1 r.1.length u.2) ∧ HF w' W' (LEn [bx bq2 #[bV r.2] 4, ow u.1 u.2 46 zH r.1])
 | 0 => by intros; rename_i H _; cases H
 | N + 1 => zAt N (JJ N) (Vd N)

theorem zFb (N : Nat) {w : Bs} (p0 : zm) (zC : Option Addr) (zD : Nat) (zU : Sl w.O w.W zP zC zD p0.Tools) (zO : Option Addr) (zN : Nat) (Qe : Sl w.O w.W zH zO zN p0.Steps) (q0 : Bool) (bq0 : Nat) (q1 : zm) (Aq1_0 : Option Addr) (cq1_0 : Nat) (zT4 : Sl w.R w.W zP Aq1_0 cq1_0 q1.Tools) (Aq1_1 : Option Addr) (cq1_1 : Nat) (zT3 : Sl w.R w.W zH Aq1_1 cq1_1 q1.Steps) (bq1 : Nat) (hb1 : w.R bq1) (hc1 : zR w.W bq1 0 [iv q1.Unit, sL Aq1_0 q1.Tools cq1_0, sL Aq1_1 q1.Steps cq1_1]) (q2 : Int) (bq2 : Nat) (hb2 : w.R bq2) (hc2 : zR w.W bq2 0 [iv q2]) (r : (zm × Bool)) (H : WE N p0 q0 q1 q2 = some r) (hE : HF w w.W (LEn [bx bq0 #[bV q0] 4, emp, emp])) : Calls Tryz.prog 38 [.agg #[iv p0.Unit, sL zC p0.Tools zD, sL zO p0.Steps zN], .func (.func 44) #[] #[pV bq0, pV bq1, pV bq2]].toArray w.W fun e W' => ∃ (w' : Bs) (u : (Option Addr × Nat) × (Option Addr × Nat)), w.Le w' ∧ e = .returned (.agg #[iv r.1.Unit, sL u.1.1 r.1.Tools u.1.2, sL u.2.1 r.1.Steps u.2.2]) ∧ (SlF u.1.1 r.1.Tools.length u.1.2 ∧ SlF u.2.1 r.1.Steps.length u.2.2) ∧ HF w' W' (LEn [bx bq0 #[bV r.2] 4, ow u.1.1 u.1.2 64 zP r.1.Tools, ow u.2.1 u.2.2 46 zH r.1.Steps]) := by
 unfold WE at H
 have leB := Bs.Le.refl w
 refine Tr.enter (n := 22) Tryz.func38 rfl rfl rfl hE ?_
 refine Tr.sr (Tr.box 1 (cs := [iv p0.Unit, sL zC p0.Tools zD, sL zO p0.Steps zN]) (wn rfl) rfl rfl rfl fun QE => ?_)
 refine Tr.box 2 (cs := [.func (.func 44) #[] #[pV bq0, pV bq1, pV bq2]]) (wn rfl) rfl rfl rfl fun Qw => ?_
 refine Tr.alloc 3 (wn rfl) rfl zNB fun Vs => ?_
 refine Tr.nil (Tr.zA (Tr.sr (Tr.zE5 (vs := [pV Qw]) (wn rfl) rfl (zI rfl zT) ?_)))
 refine Tr.alloc 4 (wn rfl) rfl zdo fun zLr => ?_
 refine Tr.store 4 (cs := [.func (.func 66) #[] #[pV Qw]]) [.func (.func 66) #[] #[pV Qw]] (wn rfl) rfl rfl rfl rfl zdy rfl rfl rfl ?_
 refine Tr.nil (Tr.zA (Tr.sr (Tr.va rfl (fun _ _ a c => zB zEO (a.ev rfl)) ?_)))
 refine Tr.va rfl (fun _ _ a c => zF zLu (a.ev rfl) (rdb c (vs := [iv p0.Unit, sL zC p0.Tools zD, sL zO p0.Steps zN]) (k := 1) rfl 1) rfl) ?_
 refine Tr.zE5 (vs := [pV Qw]) (wn rfl) rfl (zI rfl zT) ?_
 obtain ⟨y104, hy104, H⟩ := bnd H
 refine Tr.VT [0, 5] [bx bq0 #[bV q0] 4, emp] (U := (Option Addr × Nat)) (fun u => (sL u.1 y104.1 u.2)) (fun O W u => SlF u.1 y104.1.length u.2) (fun u => [bx bq0 #[bV y104.2] 4, ow u.1 u.2 64 zP y104.1]) rfl (zQ rfl (zQ rfl zf)) (fun _ => rfl) (wn rfl) rfl Tryz.call63 (zI rfl (zI rfl zT)) (fun W hW hp hE => zB8 N p0.Tools zC zD (zU.zAK (hW.QM hp)) Qw q0 bq0 q1 Aq1_0 cq1_0 (zT4.ext (hW.QM hp)) Aq1_1 cq1_1 (zT3.ext (hW.QM hp)) bq1 ((hW.QM hp).r _ hb1) ((hW.QM hp).cells hb1 hc1) q2 bq2 ((hW.QM hp).r _ hb2) ((hW.QM hp).cells hb2 hc2) (hW.zQa (k := 2) rfl hp rfl) (hW.zUd (k := 2) rfl) y104 hy104 hE) ?_
 intro w u zIR hu
 obtain ⟨Qg, Qf⟩ := u
 have gy104_0 := hu
 replace Qe := Qe.le zIR
 replace hc1 := zIR.ext.cells hb1 hc1
 replace hb1 := zIR.r _ hb1
 replace zT4 := zT4.leR zIR
 replace zT3 := zT3.leR zIR
 replace hc2 := zIR.ext.cells hb2 hc2
 replace hb2 := zIR.r _ hb2
 replace leB := leB.trans zIR
 have zJD : SlF Qg y104.1.length Qf := gy104_0 --@phi
 show Tr _ _ (uf _ 12 (sL Qg y104.1 Qf)) (up (up _ 5 (ow Qg Qf 64 zP y104.1)) 0 (bx bq0 #[bV y104.2] 4)) _
 refine Tr.asg rfl rfl (Tr.nil (Tr.zA (Tr.sr (Tr.va rfl (fun _ _ a c => zB zDj (a.ev rfl)) ?_))))
 refine Tr.va rfl (fun _ _ a c => zF zDp (a.ev rfl) (rdb c (vs := [iv p0.Unit, sL zC p0.Tools zD, sL zO p0.Steps zN]) (k := 1) rfl 2) rfl) ?_
 refine Tr.zE5 (vs := [pV zLr]) (wn rfl) rfl (zI rfl zT) ?_
 obtain ⟨QZ, zI8, H⟩ := bnd H
 refine Tr.VT [0, 6] [bx bq0 #[bV y104.2] 4, emp] (U := (Option Addr × Nat)) (fun u => (sL u.1 QZ.1 u.2)) (fun O W u => SlF u.1 QZ.1.length u.2) (fun u => [bx bq0 #[bV QZ.2] 4, ow u.1 u.2 46 zH QZ.1]) rfl (zQ rfl (zQ rfl zf)) (fun _ => rfl) (wn rfl) rfl Tryz.call33 (zI rfl (zI rfl zT)) (fun W hW hp hE => Vd N p0.Steps zO zN (Qe.zAK (hW.QM hp)) zLr Qw y104.2 bq0 q1 Aq1_0 cq1_0 (zT4.ext (hW.QM hp)) Aq1_1 cq1_1 (zT3.ext (hW.QM hp)) bq1 ((hW.QM hp).r _ hb1) ((hW.QM hp).cells hb1 hc1) q2 bq2 ((hW.QM hp).r _ hb2) ((hW.QM hp).cells hb2 hc2) (hW.zQa (k := 4) rfl hp rfl) (hW.zUd (k := 4) rfl) (hW.zQa (k := 2) rfl hp rfl) (hW.zUd (k := 2) rfl) QZ zI8 hE) ?_
 intro w u zIQ hu
 obtain ⟨JE, JD⟩ := u
 have gy106_0 := hu
 replace leB := leB.trans zIQ
 have zJC : SlF JE QZ.1.length JD := gy106_0 --@phi
 show Tr _ _ (uf _ 16 (sL JE QZ.1 JD)) (up (up _ 6 (ow JE JD 46 zH QZ.1)) 0 (bx bq0 #[bV QZ.2] 4)) _
 refine Tr.asg rfl rfl (Tr.nil (Tr.zA (Tr.sr (Tr.va rfl (fun _ _ a c => zB WS (a.ev rfl)) ?_))))
 refine Tr.va rfl (fun _ _ a c => zF QH (a.ev rfl) (rdb c (vs := [iv p0.Unit, sL zC p0.Tools zD, sL zO p0.Steps zN]) (k := 1) rfl 0) rfl) ?_
 refine Tr.mv rfl rfl (Tr.mv rfl rfl (Tr.build (vs := [(0, iv p0.Unit), (1, sL Qg y104.1 Qf), (2, sL JE QZ.1 JD)]) (cs := [iv p0.Unit, sL Qg y104.1 Qf, sL JE QZ.1 JD]) (wn rfl) rfl (zq rfl (zq rfl (zq rfl Qi))) (by kernel_rfl) ?_))
 refine Tr.store 3 (cs := [iv p0.Unit, sL Qg y104.1 Qf, sL JE QZ.1 JD]) [iv p0.Unit, sL Qg y104.1 Qf, sL JE QZ.1 JD] (wn rfl) rfl rfl rfl rfl VD rfl rfl rfl ?_
 refine Tr.nil (Tr.zA (Tr.ret ?_))
 obtain rfl := oI H
 exact Tr.out (m := [.agg #[iv p0.Unit, sL Qg y104.1 Qf, sL JE QZ.1 JD]]) [3] (Wq rfl rfl WU VD zX) (fun W hW => ⟨w, ((Qg, Qf), (JE, JD)), leB, rfl, ⟨zJD, zJC⟩, hW.pick (ks := [0, 5, 6]) (by decide) (zQ rfl (zQ rfl (zQ rfl zf)))⟩)

theorem zM8 (N : Nat) {w : Bs} (p0 : zm) (zC : Option Addr) (zD : Nat) (zU : Sl w.O w.W zP zC zD p0.Tools) (zO : Option Addr) (zN : Nat) (Qe : Sl w.O w.W zH zO zN p0.Steps) (p1 : Int) (r : (zm × Bool)) (H : zCz N p0 p1 = some r) (hE : HF w w.W (LEn [emp, emp])) : Calls Tryz.prog 23 [.agg #[iv p0.Unit, sL zC p0.Tools zD, sL zO p0.Steps zN], iv p1].toArray w.W fun e W' => ∃ (w' : Bs) (u : (Option Addr × Nat) × (Option Addr × Nat)), w.Le w' ∧ e = .returned (.tuple #[.agg #[iv r.1.Unit, sL u.1.1 r.1.Tools u.1.2, sL u.2.1 r.1.Steps u.2.2], bV r.2]) ∧ (SlF u.1.1 r.1.Tools.length u.1.2 ∧ SlF u.2.1 r.1.Steps.length u.2.2) ∧ HF w' W' (LEn [ow u.1.1 u.1.2 64 zP r.1.Tools, ow u.2.1 u.2.2 46 zH r.1.Steps]) := by
 unfold zCz at H
 have leB := Bs.Le.refl w
 refine Tr.enter (n := 15) Tryz.func23 rfl rfl rfl hE ?_
 refine Tr.sr (Tr.box 1 (cs := [iv p0.Unit, sL zC p0.Tools zD, sL zO p0.Steps zN]) (wn rfl) rfl rfl rfl fun QE => ?_)
 refine Tr.box 2 (cs := [iv p1]) (wn rfl) rfl rfl rfl fun Qw => ?_
 refine Tr.alloc 3 (wn rfl) rfl zNB fun Vs => ?_
 refine Tr.asg rfl rfl (Tr.nil (Tr.zA (Tr.sr (Tr.alloc 4 (wn rfl) rfl zl5 fun zLr => ?_))))
 refine Tr.store 4 (cs := [bV true]) [bV true] (wn rfl) rfl rfl rfl rfl zYm rfl rfl rfl ?_
 refine Tr.nil (Tr.zA (Tr.sr (Tr.va rfl (fun _ _ a c => zZ (cs := [iv p0.Unit, sL zC p0.Tools zD, sL zO p0.Steps zN]) WU VD (a.ev rfl) (zR.take (rdb c (vs := [iv p0.Unit, sL zC p0.Tools zD, sL zO p0.Steps zN]) (k := 1) rfl 0) 3) rfl) ?_)))
 refine Tr.zE5 (vs := [pV zLr, pV QE, pV Qw]) (wn rfl) rfl (zI rfl (zI rfl (zI rfl zT))) ?_
 obtain ⟨y104, hy104, H⟩ := bnd H
 refine Tr.VT [4, 5, 6] [bx zLr #[bV true] 4, emp, emp] (U := (Option Addr × Nat) × (Option Addr × Nat)) (fun u => (.agg #[iv y104.1.Unit, sL u.1.1 y104.1.Tools u.1.2, sL u.2.1 y104.1.Steps u.2.2])) (fun O W u => SlF u.1.1 y104.1.Tools.length u.1.2 ∧ SlF u.2.1 y104.1.Steps.length u.2.2) (fun u => [bx zLr #[bV y104.2] 4, ow u.1.1 u.1.2 64 zP y104.1.Tools, ow u.2.1 u.2.2 46 zH y104.1.Steps]) rfl (zQ rfl (zQ rfl (zQ rfl zf))) (fun _ => rfl) (wn rfl) rfl Tryz.call38 (zI rfl (zI rfl zT)) (fun W hW hp hE => zFb N p0 zC zD (zU.zAK (hW.QM hp)) zO zN (Qe.zAK (hW.QM hp)) true zLr p0 zC zD (zU.rl.ext (hW.QM hp)) zO zN (Qe.rl.ext (hW.QM hp)) QE (hW.zQa (k := 1) rfl hp rfl) (hW.zUd (k := 1) rfl) p1 Qw (hW.zQa (k := 2) rfl hp rfl) (hW.zUd (k := 2) rfl) y104 hy104 hE) ?_
 intro w u zIR hu
 obtain ⟨⟨Qg, Qf⟩, ⟨zCe, zCa⟩⟩ := u
 obtain ⟨gy104_0, gy104_1⟩ := hu
 replace leB := leB.trans zIR
 have zJD : SlF Qg y104.1.Tools.length Qf := gy104_0 --@phi
 have zaW : SlF zCe y104.1.Steps.length zCa := gy104_1 --@phi
 show Tr _ _ (uf _ 10 (.agg #[iv y104.1.Unit, sL Qg y104.1.Tools Qf, sL zCe y104.1.Steps zCa])) (up (up (up _ 6 (ow zCe zCa 46 zH y104.1.Steps)) 5 (ow Qg Qf 64 zP y104.1.Tools)) 4 (bx zLr #[bV y104.2] 4)) _
 refine Tr.alloc 7 (wn rfl) rfl zNB fun zm2 => ?_
 refine Tr.store 7 (cs := [iv y104.1.Unit, sL Qg y104.1.Tools Qf, sL zCe y104.1.Steps zCa]) [iv y104.1.Unit, sL Qg y104.1.Tools Qf, sL zCe y104.1.Steps zCa] (wn rfl) rfl rfl rfl rfl VD rfl rfl rfl ?_
 refine Tr.nil (Tr.zA (Tr.sr (Tr.va rfl (fun _ _ a c => zF QH (a.ev rfl) (rdb c (vs := [iv p1]) (k := 2) rfl 0) rfl) ?_)))
 refine Tr.va rfl (fun _ _ a c => zB WS (a.ev rfl)) ?_
 refine Tr.store 7 (cs := [iv p1]) [iv p1, sL Qg y104.1.Tools Qf, sL zCe y104.1.Steps zCa] (wn rfl) rfl rfl rfl rfl zKQ rfl rfl rfl ?_
 refine Tr.nil (Tr.zA (Tr.seq (Tr.zHS 3 [(2, fun x => x = Vs)] [] (by kernel_rfl) (by kernel_rfl) fun zhu zkE zlc => ?_)))
 refine Dr.quiet 0 [(13, .agg #[iv p1, sL Qg y104.1.Tools Qf, sL zCe y104.1.Steps zCa])] (by kernel_rfl) rfl rfl (by kernel_rfl) ?_ rfl rfl ?_
 ·refine Tq.va rfl (fun _ _ a c => zZ (cs := [iv p1, sL Qg y104.1.Tools Qf, sL zCe y104.1.Steps zCa]) WU VD (a.ev rfl) (zR.take (rdb c (vs := [iv p1, sL Qg y104.1.Tools Qf, sL zCe y104.1.Steps zCa]) (k := 7) rfl 0) 3) rfl) ?_
  exact Tq.fin (.cons rfl .nil)
 refine Dr.We 1 [(14, bV y104.2)] [2] false (by kernel_rfl) rfl rfl (by kernel_rfl) (fun W W' c hsW hk => HF.zBv (le := [(4, bx zLr #[bV y104.2] 4)]) (ks := [(3, fun x => x = Vs)]) (s0 := zhu) false c hk (fun h => absurd h (by decide)) (.cons rfl .nil) (fun b hb => hb.elim (fun ⟨p, hp, hf, hb⟩ => by simp only [List.mem_cons, List.not_mem_nil, or_false] at hp; rcases hp with rfl; exact .inl ⟨_, List.mem_cons_self, hb⟩) (fun hb => absurd hb.1 (by decide))) (List.forall_mem_cons.2 ⟨fun b hb => hb, (fun _ h => nomatch h)⟩) rfl) ?_ rfl rfl ?_
 ·refine Tq.va rfl (fun _ _ a c => zF zM3 (a.ev rfl) (rdb c (vs := [bV y104.2]) (k := 4) rfl 0) rfl) ?_
  exact Tq.fin (.cons rfl .nil)
 refine Dr.one 2 (by kernel_rfl) ?_
 refine St.store 2 3 (cs := [iv p1, sL Qg y104.1.Tools Qf, sL zCe y104.1.Steps zCa]) [iv p1, sL Qg y104.1.Tools Qf, sL zCe y104.1.Steps zCa] rfl (wn rfl) (.inl ⟨_, List.mem_cons_self, rfl, rfl⟩) rfl rfl rfl rfl VD rfl rfl rfl ?_
 refine Dr.tail (by kernel_rfl) ?_
 refine Tr.asg rfl rfl (Tr.nil (Tr.zA (Tr.ret ?_)))
 obtain rfl := oI H
 exact Tr.out (m := [.agg #[iv p1, sL Qg y104.1.Tools Qf, sL zCe y104.1.Steps zCa], bV y104.2]) [3] (Wq rfl rfl WU VD (zW rfl zX)) (fun W hW => ⟨w, ((Qg, Qf), (zCe, zCa)), leB, rfl, ⟨zJD, zaW⟩, hW.pick (ks := [5, 6]) (by decide) (zQ rfl (zQ rfl zf))⟩)

theorem zK7 {w : Bs} (p0 : zG) (zC : Option Addr) (zD : Nat) (zU : Sl w.R w.W QU zC zD p0.Points) (zO : Option Addr) (zN : Nat) (Qe : Sl w.R w.W zH zO zN p0.Steps) (Ae0 : Option Addr) (ce0 : Nat) (le0 : List zG) (ie0 : Nat) (hi0 : ie0 < le0.length) (q0 : ByteArray) (bq0 : Nat) (hb0 : w.R bq0) (hc0 : zR w.W bq0 0 [sv q0]) (r : ByteArray) (H : zBi p0 q0 = some r) (hE : HF w w.W (LEn [ow Ae0 ce0 46 (mix zH) (zAd le0 ie0 (raw zH [iv p0.Kind, sv p0.Name, iv p0.At.X, iv p0.At.Y, sL zC p0.Points zD, iv p0.NX, iv p0.NY, sL zO p0.Steps zN] rfl rfl))])) : Calls Tryz.prog 34 [.pointer (some ⟨adB Ae0, adO Ae0 + ie0 * 8, none⟩), pV bq0].toArray w.W fun e W' => ∃ (w' : Bs) (u : Unit), w.Le w' ∧ e = .returned (.tuple #[]) ∧ (True) ∧ HF w' W' (LEn [ow Ae0 ce0 46 (mix zH) (zAd le0 ie0 (raw zH [iv p0.Kind, sv r, iv p0.At.X, iv p0.At.Y, sL zC p0.Points zD, iv p0.NX, iv p0.NY, sL zO p0.Steps zN] rfl rfl))]) := by
 unfold zBi at H
 have leB := Bs.Le.refl w
 refine Tr.enter (n := 17) Tryz.func34 rfl rfl rfl hE ?_
 refine Tr.sr (Tr.mv rfl rfl (Tr.va rfl (fun _ _ a c => zt (a.ev rfl)) ?_))
 refine Tr.va rfl (fun _ _ a c => zB zHv (a.ev rfl)) ?_
 refine Tr.va rfl (fun _ _ a c => zF QH (a.ev rfl) (rdm (cs := raw zH [iv p0.Kind, sv p0.Name, iv p0.At.X, iv p0.At.Y, sL zC p0.Points zD, iv p0.NX, iv p0.NY, sL zO p0.Steps zN] rfl rfl) c (κ := 0) rfl hi0) rfl) ?_
 refine Tr.va rfl (fun _ _ a c => Qn (a.ev rfl) (a.ev rfl)) ?_
 refine Tr.nil (Tr.zA (Tr.cond rfl H (fun H => ?_) (fun H => ?_)))
 ·refine Tr.zCv 7 (by kernel_rfl) (by kernel_rfl) ?_
  refine Tq.mv rfl rfl (Tq.va rfl (fun _ _ a c => zF zKy (a.ev rfl) (rdR hb0 hc0 c) rfl) ?_)
  refine Tq.mv rfl rfl (Tq.va rfl (fun _ _ a c => zt (a.ev rfl)) ?_)
  refine Tq.va rfl (fun _ _ a c => zB zJ4 (a.ev rfl)) ?_
  refine Tq.va rfl (fun _ _ a c => zF zKy (a.ev rfl) (zR.drop (rdm (cs := raw zH [iv p0.Kind, sv p0.Name, iv p0.At.X, iv p0.At.Y, sL zC p0.Points zD, iv p0.NX, iv p0.NY, sL zO p0.Steps zN] rfl rfl) c (κ := 0) rfl hi0) 1) rfl) ?_
  obtain ⟨zbh, ht100, H⟩ := bnd H
  refine Tq.va rfl (fun _ _ a c => VS (a.ev rfl) (a.ev rfl) ht100) ?_
  refine Tq.nil (Tr.va rfl (fun _ _ a c => zt (a.ev rfl)) ?_)
  refine Tr.va rfl (fun _ _ a c => zB zJ4 (a.ev rfl)) ?_
  refine Tr.zFr 0 (raw zH [iv p0.Kind, sv zbh, iv p0.At.X, iv p0.At.Y, sL zC p0.Points zD, iv p0.NX, iv p0.NY, sL zO p0.Steps zN] rfl rfl) (cs := [sv zbh]) (fo := 1) (wn rfl) rfl rfl rfl rfl rfl hi0 zdx rfl rfl rfl ?_
  refine Tr.nil (Tr.zRp ?_)
  obtain rfl := oI H
  exact Tr.out (m := []) [] zX (fun W hW => ⟨w, (), leB, rfl, trivial, hW.pick (ks := [0]) (by decide) (zQ rfl zf)⟩)
 ·refine Tr.skip (Tr.zRp ?_)
  obtain rfl := oI H
  exact Tr.out (m := []) [] zX (fun W hW => ⟨w, (), leB, rfl, trivial, hW.pick (ks := [0]) (by decide) (zQ rfl zf)⟩)

theorem zP9 (N : Nat) {w : Bs} (p0 : zm) (zC : Option Addr) (zD : Nat) (zU : Sl w.O w.W zP zC zD p0.Tools) (zO : Option Addr) (zN : Nat) (Qe : Sl w.O w.W zH zO zN p0.Steps) (r : (zm × Int)) (H : zGo N p0 = some r) (hE : HF w w.W (LEn [])) : Calls Tryz.prog 24 [.agg #[iv p0.Unit, sL zC p0.Tools zD, sL zO p0.Steps zN]].toArray w.W fun e W' => ∃ (w' : Bs) (u : (Option Addr × Nat) × (Option Addr × Nat)), w.Le w' ∧ e = .returned (.tuple #[.agg #[iv r.1.Unit, sL u.1.1 r.1.Tools u.1.2, sL u.2.1 r.1.Steps u.2.2], iv r.2]) ∧ (Sl w'.O w'.W zP u.1.1 u.1.2 r.1.Tools ∧ Sl w'.O w'.W zH u.2.1 u.2.2 r.1.Steps) ∧ HF w' W' (LEn []) := by
 unfold zGo at H
 have leB := Bs.Le.refl w
 refine Tr.enter (n := 12) Tryz.func24 rfl rfl rfl hE ?_
 refine Tr.sr (Tr.box 1 (cs := [iv p0.Unit, sL zC p0.Tools zD, sL zO p0.Steps zN]) (wn rfl) rfl rfl rfl fun QE => ?_)
 refine Tr.alloc 2 (wn rfl) rfl zNB fun Qw => ?_
 refine Tr.asg rfl rfl (Tr.nil (Tr.zA (Tr.seq (Tr.sr (Tr.va rfl (fun _ _ a c => zZ (cs := [iv p0.Unit, sL zC p0.Tools zD, sL zO p0.Steps zN]) WU VD (a.ev rfl) (zR.take (rdb c (vs := [iv p0.Unit, sL zC p0.Tools zD, sL zO p0.Steps zN]) (k := 1) rfl 0) 3) rfl) ?_)))))
 obtain ⟨y102, hy102, H⟩ := bnd H
 refine Tr.JI (r := (iv y102)) (wn rfl) rfl Tryz.call21 (zI rfl zT) (fun W hW => Wx N p0 zC zD (zU.rl.ext hW.Qx) zO zN (Qe.rl.ext hW.Qx) y102 hy102 (HF.start _)) ?_
 refine Tr.asg rfl rfl (Tr.nil (Tr.zA (Tr.sr (Tr.mv rfl rfl (Tr.va rfl (fun _ _ a c => KY (a.ev rfl) (a.ev rfl)) ?_)))))
 refine Tr.nil (Tr.zA (Tr.cond rfl H (fun H => ?_) (fun H => ?_)))
 ·refine Tr.sr (Tr.build (vs := []) (cs := [iv 0, .slice none 0 0, .slice none 0 0]) (wn rfl) rfl Qi (by kernel_rfl) ?_)
  refine Tr.mv rfl rfl (Tr.store 2 (cs := [iv 0, .slice none 0 0, .slice none 0 0]) [iv 0, .slice none 0 0, .slice none 0 0] (wn rfl) rfl rfl rfl rfl VD rfl rfl rfl ?_)
  refine Tr.asg rfl rfl (Tr.nil (Tr.zA (Tr.ret (Tr.zi ?_))))
  obtain rfl := oI H
  exact Tr.out (m := [.agg #[iv 0, .slice none 0 0, .slice none 0 0], iv y102]) [2] (Wq rfl rfl WU VD (zW rfl zX)) (fun W hW => ⟨w, ((none, 0), (none, 0)), leB, rfl, ⟨(Sl.nil _ _ _), (Sl.nil _ _ _)⟩, hW.pick (ks := []) (by decide) zf⟩)
 ·refine Tr.skip (Tr.zA (Tr.sr (Tr.va rfl (fun _ _ a c => zZ (cs := [iv p0.Unit, sL zC p0.Tools zD, sL zO p0.Steps zN]) WU VD (a.ev rfl) (zR.take (rdb c (vs := [iv p0.Unit, sL zC p0.Tools zD, sL zO p0.Steps zN]) (k := 1) rfl 0) 3) rfl) ?_)))
  refine Tr.store 2 (cs := [iv p0.Unit, sL zC p0.Tools zD, sL zO p0.Steps zN]) [iv p0.Unit, sL zC p0.Tools zD, sL zO p0.Steps zN] (wn rfl) rfl rfl rfl rfl VD rfl rfl rfl ?_
  refine Tr.asg rfl rfl (Tr.nil (Tr.zA (Tr.ret ?_)))
  obtain rfl := oI H
  exact Tr.out (m := [.agg #[iv p0.Unit, sL zC p0.Tools zD, sL zO p0.Steps zN], iv 0]) [2] (Wq rfl rfl WU VD (zW rfl zX)) (fun W hW => ⟨w, ((zC, zD), (zO, zN)), leB, rfl, ⟨zU, Qe⟩, hW.pick (ks := []) (by decide) zf⟩)

theorem zGR (N : Nat) (rec : (List zG) → ByteArray → Option (List zG)) (hrec : ∀ {w : Bs} (p0 : (List zG)) (zC : Option Addr) (zD : Nat) (zU : Sl w.O w.W zH zC zD p0) (q0 : ByteArray) (bq0 : Nat) (hb0 : w.R bq0) (hc0 : zR w.W bq0 0 [sv q0]) (r : (List zG)) (H : rec p0 q0 = some r) (hE : HF w w.W (LEn [emp])), Calls Tryz.prog 33 [sL zC p0 zD, .func (.func 34) #[] #[pV bq0]].toArray w.W fun e W' => ∃ (w' : Bs) (u : (Option Addr × Nat)), w.Le w' ∧ e = .returned (sL u.1 r u.2) ∧ (SlF u.1 r.length u.2) ∧ HF w' W' (LEn [ow u.1 u.2 46 zH r])) {w : Bs} (p0 : (List zG)) (zC : Option Addr) (zD : Nat) (zU : Sl w.O w.W zH zC zD p0) (q0 : ByteArray) (bq0 : Nat) (hb0 : w.R bq0) (hc0 : zR w.W bq0 0 [sv q0]) (r : (List zG)) (H : Vn N rec p0 q0 = some r) (hE : HF w w.W (LEn [emp])) : Calls Tryz.prog 33 [sL zC p0 zD, .func (.func 34) #[] #[pV bq0]].toArray w.W fun e W' => ∃ (w' : Bs) (u : (Option Addr × Nat)), w.Le w' ∧ e = .returned (sL u.1 r u.2) ∧ (SlF u.1 r.length u.2) ∧ HF w' W' (LEn [ow u.1 u.2 46 zH r]) := by
 unfold Vn at H
 have leB := Bs.Le.refl w
 refine Tr.enter (n := 42) Tryz.func33 rfl rfl rfl hE ?_
 refine Tr.sr (Tr.asg rfl rfl (Tr.JU 1 46 zH ?_))
 show Tr _ _ (uf _ 4 (sL none (([] : List zG)) 0)) _ _
 refine Tr.nil (Tr.zA (Tr.sr (Tr.mv rfl rfl ?_)))
 obtain ⟨zy, Ws, H⟩ := bnd H
 refine Tr.VT [2] [emp] (U := (Option Addr × Nat)) (fun u => (sL u.1 zy u.2)) (fun O W u => SlF u.1 zy.length u.2) (fun u => [ow u.1 u.2 46 zH zy]) rfl (zQ rfl zf) (fun _ => rfl) (wn rfl) rfl Tryz.call14 (zI rfl zT) (fun W hW hp hE => zCG p0 zC zD (zU.zAK (hW.QM hp)) zy Ws hE) ?_
 intro w u zAQ hu
 obtain ⟨QY, QX⟩ := u
 have gy100_0 := hu
 replace hc0 := zAQ.ext.cells hb0 hc0
 replace hb0 := zAQ.r _ hb0
 replace leB := leB.trans zAQ
 have zAR : SlF QY zy.length QX := gy100_0 --@phi
 show Tr _ _ (uf _ 8 (sL QY zy QX)) (up _ 2 (ow QY QX 46 zH zy)) _
 refine Tr.asg rfl rfl (Tr.nil (Tr.zA (Tr.seq (Tr.sr (Tr.mv rfl rfl (Tr.va rfl (fun _ _ a c => QJ zGV (a.ev rfl)) ?_))))))
 refine Tr.mv rfl rfl (Tr.nil (Tr.zA (Tr.block (Tr.loop (σ := (List zG) × Int × (Option Addr) × Nat) (fun m w s => Jp q0 rec zy m s.1 s.2.1 = some r ∧ SlF s.2.2.1 s.1.length s.2.2.2) (fun s => [(1, .func (.func 34) #[] #[pV bq0]), (5, sL s.2.2.1 s.1 s.2.2.2), (10, iv (zy.length : Int)), (11, iv s.2.1)]) (fun s => [(2, ow s.2.2.1 s.2.2.2 46 zH s.1)]) N (zy, 0, QY, QX) ⟨H, zAR⟩ (.cons rfl (.cons rfl (.cons rfl (.cons rfl .nil)))) (.cons rfl .nil) (fun _ _ h => zA0 (h.1)) ?_))))
 intro w Qd mL1 s hs
 obtain ⟨zDd, zBo, zDz, zDo⟩ := s
 obtain ⟨H, zLX⟩ := hs
 replace H : Jp q0 rec zy (mL1 + 1) zDd zBo = some r := H
 replace hc0 := Qd.ext.cells hb0 hc0
 replace hb0 := Qd.r _ hb0
 replace leB := leB.trans Qd
 replace zLX : SlF zDz zDd.length zDo := zLX
 rw [Jp.eq_2] at H
 show Tr _ _ (LF [(1, .func (.func 34) #[] #[pV bq0]), (5, sL zDz zDd zDo), (10, iv (zy.length : Int)), (11, iv zBo)]) (LE [(2, ow zDz zDo 46 zH zDd)]) _
 refine Tr.sr (Tr.va rfl (fun _ _ a c => QI (a.ev rfl) (a.ev rfl)) ?_)
 refine Tr.nil (Tr.zA (Tr.seq (Tr.cond rfl H (fun H => ?_) (fun H => ?_))))
 ·refine Tr.skip (Tr.zA (Tr.seq (Tr.block (Tr.sr (Tr.mv rfl rfl (Tr.asg rfl rfl (Tr.nil (Tr.zA (Tr.sr (Tr.mv rfl rfl ?_))))))))))
  refine Tr.mv rfl rfl (Tr.mv rfl rfl (Tr.mv rfl rfl ?_))
  obtain ⟨zRZ, zji, H⟩ := bnd H
  obtain ⟨zfx, zfw, zfv⟩ := zz zji
  refine Tr.va rfl (fun _ _ a c => zM zFH (a.ev rfl) zLX (a.ev rfl) zfx zfw) ?_
  refine Tr.va rfl (fun _ _ a c => zB zCW (a.ev rfl)) ?_
  refine Tr.zS5 (U := (zH).Ad) (fun u => (zH).ok w.O w.W u zRZ) (fun u => (sL u.1.1 zRZ.Points u.1.2)) (wn rfl) rfl (ldN (κ := 2) (t := zH) (V := fun u => (sL u.1.1 zRZ.Points u.1.2)) rfl zfv (fun _ _ u a hc => zF zIW (a.ev rfl) (hc.drop 4) rfl)) ?_
  intro zmR zcE
  obtain ⟨⟨zOR, zN7⟩, ⟨zly, zll⟩⟩ := zmR
  obtain ⟨zMd, zhJ⟩ := Kn.1 zcE
  replace zMd : Sl w.O w.W QU zOR zN7 zRZ.Points := zMd
  show Tr _ _ (uf _ 20 (sL zOR zRZ.Points zN7)) _ _
  obtain ⟨y158, hy158, H⟩ := bnd H
  refine Tr.VM [7] [emp] (U := (Option Addr × Nat)) (fun u => (sL u.1 y158 u.2)) (fun u => SlF u.1 y158.length u.2) (fun u => [ow u.1 u.2 43 QU y158]) rfl (zQ rfl zf) (fun _ => rfl) (wn rfl) rfl Tryz.call57 (zI rfl zT) (fun W hW hp hE => zDR zRZ.Points zOR zN7 (zMd.rl.ext (hW.QM hp)) y158 hy158 hE) ?_
  intro u hu
  obtain ⟨zCd, zCZ⟩ := u
  have gy158_0 := hu
  have zkn : SlF zCd y158.length zCZ := gy158_0 --@phi
  show Tr _ _ (uf _ 21 (sL zCd y158 zCZ)) (up _ 7 (ow zCd zCZ 43 QU y158)) _
  obtain ⟨x160, hx160, H⟩ := bnd H
  obtain ⟨zVf, zVe, zR5⟩ := zz hx160
  refine Tr.va rfl (fun _ _ a c => zM zFH (a.ev rfl) zLX (a.ev rfl) zVf zVe) ?_
  refine Tr.va rfl (fun _ _ a c => zB zCW (a.ev rfl)) ?_
  refine Tr.zRu 2 rfl zR5 ?_
  intro zdq zR6
  obtain ⟨⟨zIM, zH5⟩, ⟨zIL, zH4⟩⟩ := zdq
  obtain ⟨zJs, zJr⟩ := Kn.1 zR6
  replace zJr : Sl w.O w.W zH zIL zH4 x160.Steps := zJr
  show Tr _ _ _ (up _ 2 (ow zDz zDo 46 (mix zH) (zAd zDd (zBo).toNat (raw zH [iv x160.Kind, sv x160.Name, iv x160.At.X, iv x160.At.Y, sL zIM x160.Points zH5, iv x160.NX, iv x160.NY, sL zIL x160.Steps zH4] rfl rfl)))) _
  refine Tr.zFr 2 (raw zH [iv x160.Kind, sv x160.Name, iv x160.At.X, iv x160.At.Y, sL zCd y158 zCZ, iv x160.NX, iv x160.NY, sL zIL x160.Steps zH4] rfl rfl) (cs := [sL zCd y158 zCZ]) (fo := 4) (wn rfl) rfl rfl rfl rfl rfl (List.getElem?_eq_some_iff.1 zR5).1 zc4 rfl rfl rfl ?_
  refine Tr.nil (Tr.zA (Tr.sr (Tr.mv rfl rfl (Tr.mv rfl rfl (Tr.mv rfl rfl (Tr.mv rfl rfl ?_))))))
  obtain ⟨zmD, zjh, H⟩ := bnd H
  obtain ⟨zfu, zft, zfs⟩ := zz zjh
  refine Tr.va rfl (fun _ _ a c => zM zFH (a.ev rfl) zLX (a.ev rfl) zfu zft) ?_
  refine Tr.va rfl (fun _ _ a c => zB zC4 (a.ev rfl)) ?_
  refine Tr.va rfl (fun _ _ a c => zF zDp (a.ev rfl) (zR.drop (rdm (cs := raw zH [iv x160.Kind, sv x160.Name, iv x160.At.X, iv x160.At.Y, sL zCd y158 zCZ, iv x160.NX, iv x160.NY, sL zIL x160.Steps zH4] rfl rfl) c (κ := 2) rfl (List.getElem?_eq_some_iff.1 zfs).1) 7) rfl) ?_
  refine Tr.mv rfl rfl ?_
  obtain ⟨zD0, zi7, H⟩ := bnd H
  refine Tr.VT [8] [emp] (U := (Option Addr × Nat)) (fun u => (sL u.1 zD0 u.2)) (fun O W u => SlF u.1 zD0.length u.2) (fun u => [ow u.1 u.2 46 zH zD0]) rfl (zQ rfl zf) (fun _ => rfl) (wn rfl) rfl Tryz.call33 (zI rfl (zI rfl zT)) (fun W hW hp hE => hrec x160.Steps zIL zH4 (zJr.zAK (hW.QM hp)) q0 bq0 ((hW.QM hp).r _ hb0) ((hW.QM hp).cells hb0 hc0) zD0 zi7 hE) ?_
  intro w u zZI hu
  obtain ⟨zDy, zDn⟩ := u
  have gy163_0 := hu
  replace hc0 := zZI.ext.cells hb0 hc0
  replace hb0 := zZI.r _ hb0
  replace Qd := Qd.trans zZI
  have zkm : SlF zDy zD0.length zDn := gy163_0 --@phi
  show Tr _ _ (uf _ 32 (sL zDy zD0 zDn)) (up _ 8 (ow zDy zDn 46 zH zD0)) _
  obtain ⟨zmC, zjg, H⟩ := bnd H
  obtain ⟨zfr, zfq, zfp⟩ := zz zjg
  refine Tr.va rfl (fun _ _ a c => zM zFH (a.ev rfl) zLX (a.ev rfl) zfr zfq) ?_
  refine Tr.va rfl (fun _ _ a c => zB zC4 (a.ev rfl)) ?_
  refine Tr.zFr 2 (raw zH [iv x160.Kind, sv x160.Name, iv x160.At.X, iv x160.At.Y, sL zCd y158 zCZ, iv x160.NX, iv x160.NY, sL zDy zD0 zDn] rfl rfl) (cs := [sL zDy zD0 zDn]) (fo := 7) (wn rfl) rfl rfl rfl rfl rfl (List.getElem?_eq_some_iff.1 zfp).1 zV6 rfl rfl rfl ?_
  refine Tr.nil (Tr.zA (Tr.region (Tr.mv rfl rfl (Tr.mv rfl rfl (Tr.mv rfl rfl ?_)))))
  obtain ⟨zU7, zT0, H⟩ := bnd H
  obtain ⟨zPU, zPT, zPS⟩ := zz zT0
  refine Tr.va rfl (fun _ _ a c => zM zFH (a.ev rfl) zLX (a.ev rfl) zPU zPT) ?_
  obtain ⟨y167, hy167, H⟩ := bnd H
  refine Tr.za3 [2] [ow zDz zDo 46 (mix zH) (zAd zDd (zBo).toNat (raw zH [iv x160.Kind, sv x160.Name, iv x160.At.X, iv x160.At.Y, sL zCd y158 zCZ, iv x160.NX, iv x160.NY, sL zDy zD0 zDn] rfl rfl))] (U := Unit) (fun u => (.tuple #[])) (fun O W u => True) (fun u => [ow zDz zDo 46 (mix zH) (zAd zDd (zBo).toNat (raw zH [iv x160.Kind, sv y167, iv x160.At.X, iv x160.At.Y, sL zCd y158 zCZ, iv x160.NX, iv x160.NY, sL zDy zD0 zDn] rfl rfl))]) rfl (zQ rfl zf) (fun _ => rfl) (wn rfl) rfl rfl Tryz.call34 (zI rfl zT) (fun W hW hp hE => zK7 (zG.mk x160.Kind x160.Name x160.At y158 x160.NX x160.NY zD0) zCd zCZ (hW.slS (k := 7) rfl hp rfl) zDy zDn (hW.slS (k := 8) rfl hp rfl) zDz zDo zDd ((zBo).toNat) (List.getElem?_eq_some_iff.1 zPS).1 q0 bq0 ((hW.QM hp).r _ hb0) ((hW.QM hp).cells hb0 hc0) y167 hy167 hE) ?_
  intro w u zHI hu
  replace Qd := Qd.trans zHI
  show Tr _ _ (uf _ 39 (.tuple #[])) (up _ 2 (ow zDz zDo 46 (mix zH) (zAd zDd (zBo).toNat (raw zH [iv x160.Kind, sv y167, iv x160.At.X, iv x160.At.Y, sL zCd y158 zCZ, iv x160.NX, iv x160.NY, sL zDy zD0 zDn] rfl rfl)))) _
  refine Tr.nil (Tr.zl (Tr.zA (Tr.region (Tr.va rfl (fun _ _ a c => QK (a.ev rfl) (a.ev rfl)) ?_))))
  refine Tr.mv rfl rfl (Tr.nil (Tr.freeze 7 rfl fun w ziI zZZ => ?_))
  replace Qd := Qd.trans ziI
  refine Tr.freeze 8 rfl fun w zWX ziO => ?_
  replace zZZ := zZZ.le zWX
  replace Qd := Qd.trans zWX
  refine Tr.zO7 2 rfl (((zCd, zCZ), (zDy, zDn))) (zG.mk x160.Kind y167 x160.At y158 x160.NX x160.NY zD0) (Kn.2 ⟨zZZ, ziO⟩) rfl ?_
  have zPf : ((zDd).set (zBo).toNat (zG.mk x160.Kind y167 x160.At y158 x160.NX x160.NY zD0)).length = zDd.length := List.length_set
  have zcU : SlF zDz ((zDd).set (zBo).toNat (zG.mk x160.Kind y167 x160.At y158 x160.NX x160.NY zD0)).length zDo := by rw [zPf]; exact zLX
  refine Tr.sel (lf := [(1, .func (.func 34) #[] #[pV bq0]), (5, sL zDz (((zDd).set (zBo).toNat (zG.mk x160.Kind y167 x160.At y158 x160.NX x160.NY zD0))) zDo), (6, iv zBo), (10, iv (zy.length : Int)), (11, iv (w64 (zBo + 1))), (12, bV (decide (zBo < (zy.length : Int)))), (13, iv zBo), (14, sL zDz (((zDd).set (zBo).toNat (zG.mk x160.Kind y167 x160.At y158 x160.NX x160.NY zD0))) zDo), (15, iv zBo), (16, sL zDz (((zDd).set (zBo).toNat (zG.mk x160.Kind y167 x160.At y158 x160.NX x160.NY zD0))) zDo), (17, iv zBo), (20, sL zOR zRZ.Points zN7), (21, sL zCd y158 zCZ), (24, sL zDz (((zDd).set (zBo).toNat (zG.mk x160.Kind y167 x160.At y158 x160.NX x160.NY zD0))) zDo), (25, iv zBo), (26, sL zDz (((zDd).set (zBo).toNat (zG.mk x160.Kind y167 x160.At y158 x160.NX x160.NY zD0))) zDo), (27, iv zBo), (30, sL zIL x160.Steps zH4), (31, .func (.func 34) #[] #[pV bq0]), (32, sL zDy zD0 zDn), (35, .func (.func 34) #[] #[pV bq0]), (36, sL zDz (((zDd).set (zBo).toNat (zG.mk x160.Kind y167 x160.At y158 x160.NX x160.NY zD0))) zDo), (37, iv zBo), (39, (.tuple #[])), (40, iv (w64 (zBo + 1)))]) (le := [(2, ow zDz zDo 46 zH ((zDd).set (zBo).toNat (zG.mk x160.Kind y167 x160.At y158 x160.NX x160.NY zD0)))]) (.cons rfl (.cons (VK rfl (by unfold sL; rw [zPf])) (.cons rfl (.cons rfl (.cons rfl (.cons rfl (.cons rfl (.cons (VK rfl (by unfold sL; rw [zPf])) (.cons rfl (.cons (VK rfl (by unfold sL; rw [zPf])) (.cons rfl (.cons rfl (.cons rfl (.cons (VK rfl (by unfold sL; rw [zPf])) (.cons rfl (.cons (VK rfl (by unfold sL; rw [zPf])) (.cons rfl (.cons rfl (.cons rfl (.cons rfl (.cons rfl (.cons (VK rfl (by unfold sL; rw [zPf])) (.cons rfl (.cons rfl (.cons rfl .nil))))))))))))))))))))))))) (.cons rfl .nil) ?_
  exact Tr.zn Qd (((zDd).set (zBo).toNat (zG.mk x160.Kind y167 x160.At y158 x160.NX x160.NY zD0)), (w64 (zBo + 1)), zDz, zDo) ⟨H, zcU⟩ (.cons rfl (.cons rfl (.cons rfl (.cons rfl .nil)))) (.cons rfl .nil)
 ·refine Tr.exit (Tr.zk (Tr.zk (Tr.QV (Tr.zA (Tr.sr (Tr.mv rfl rfl (Tr.asg rfl rfl (Tr.nil (Tr.zA (Tr.ret ?_))))))))))
  obtain rfl := oI H
  exact Tr.out (m := [sL zDz zDd zDo]) [] (zW rfl zX) (fun W hW => ⟨w, (zDz, zDo), leB, rfl, zLX, hW.pick (ks := [2]) (by decide) (zQ rfl zf)⟩)
theorem zDS : ∀ (N : Nat) {w : Bs} (p0 : (List zG)) (zC : Option Addr) (zD : Nat) (zU : Sl w.O w.W zH zC zD p0) (q0 : ByteArray) (bq0 : Nat) (hb0 : w.R bq0) (hc0 : zR w.W bq0 0 [sv q0]) (r : (List zG)) (H : WM N p0 q0 = some r) (hE : HF w w.W (LEn [emp])), Calls Tryz.prog 33 [sL zC p0 zD, .func (.func 34) #[] #[pV bq0]].toArray w.W fun e W' => ∃ (w' : Bs) (u : (Option Addr × Nat)), w.Le w' ∧ e = .returned (sL u.1 r u.2) ∧ (SlF u.1 r.length u.2) ∧ HF w' W' (LEn [ow u.1 u.2 46 zH r])
 | 0 => by intros; rename_i H _; cases H
 | N + 1 => zGR N (WM N) (zDS N)

theorem zM9 (N : Nat) {w : Bs} (p0 : zm) (zC : Option Addr) (zD : Nat) (zU : Sl w.O w.W zP zC zD p0.Tools) (zO : Option Addr) (zN : Nat) (Qe : Sl w.O w.W zH zO zN p0.Steps) (p1 : zm) (zh : Option Addr) (zg : Nat) (Qh : Sl w.O w.W zP zh zg p1.Tools) (Qc : Option Addr) (Qa : Nat) (zDg : Sl w.O w.W zH Qc Qa p1.Steps) (r : (zm × Int)) (H : zC1 N p0 p1 = some r) (hE : HF w w.W (LEn [])) : Calls Tryz.prog 16 [.agg #[iv p0.Unit, sL zC p0.Tools zD, sL zO p0.Steps zN], .agg #[iv p1.Unit, sL zh p1.Tools zg, sL Qc p1.Steps Qa]].toArray w.W fun e W' => ∃ (w' : Bs) (u : (Option Addr × Nat) × (Option Addr × Nat)), w.Le w' ∧ e = .returned (.tuple #[.agg #[iv r.1.Unit, sL u.1.1 r.1.Tools u.1.2, sL u.2.1 r.1.Steps u.2.2], iv r.2]) ∧ (Sl w'.O w'.W zP u.1.1 u.1.2 r.1.Tools ∧ Sl w'.O w'.W zH u.2.1 u.2.2 r.1.Steps) ∧ HF w' W' (LEn []) := by
 unfold zC1 at H
 have leB := Bs.Le.refl w
 refine Tr.enter (n := 99) Tryz.func16 rfl rfl rfl hE ?_
 refine Tr.sr (Tr.box 1 (cs := [iv p0.Unit, sL zC p0.Tools zD, sL zO p0.Steps zN]) (wn rfl) rfl rfl rfl fun QE => ?_)
 refine Tr.box 2 (cs := [iv p1.Unit, sL zh p1.Tools zg, sL Qc p1.Steps Qa]) (wn rfl) rfl rfl rfl fun Qw => ?_
 refine Tr.alloc 3 (wn rfl) rfl zNB fun Vs => ?_
 refine Tr.asg rfl rfl (Tr.nil (Tr.zA (Tr.seq (Tr.sr (Tr.va rfl (fun _ _ a c => zZ (cs := [iv p0.Unit, sL zC p0.Tools zD, sL zO p0.Steps zN]) WU VD (a.ev rfl) (zR.take (rdb c (vs := [iv p0.Unit, sL zC p0.Tools zD, sL zO p0.Steps zN]) (k := 1) rfl 0) 3) rfl) ?_)))))
 obtain ⟨zo, zDf, H⟩ := bnd H
 refine Tr.JI (r := (iv zo)) (wn rfl) rfl Tryz.call21 (zI rfl zT) (fun W hW => Wx N p0 zC zD (zU.rl.ext hW.Qx) zO zN (Qe.rl.ext hW.Qx) zo zDf (HF.start _)) ?_
 refine Tr.asg rfl rfl (Tr.nil (Tr.zA (Tr.sr (Tr.mv rfl rfl (Tr.va rfl (fun _ _ a c => KY (a.ev rfl) (a.ev rfl)) ?_)))))
 refine Tr.nil (Tr.zA (Tr.cond rfl H (fun H => ?_) (fun H => ?_)))
 ·refine Tr.sr (Tr.build (vs := []) (cs := [iv 0, .slice none 0 0, .slice none 0 0]) (wn rfl) rfl Qi (by kernel_rfl) ?_)
  refine Tr.mv rfl rfl (Tr.store 3 (cs := [iv 0, .slice none 0 0, .slice none 0 0]) [iv 0, .slice none 0 0, .slice none 0 0] (wn rfl) rfl rfl rfl rfl VD rfl rfl rfl ?_)
  refine Tr.asg rfl rfl (Tr.nil (Tr.zA (Tr.ret (Tr.zi ?_))))
  obtain rfl := oI H
  exact Tr.out (m := [.agg #[iv 0, .slice none 0 0, .slice none 0 0], iv zo]) [3] (Wq rfl rfl WU VD (zW rfl zX)) (fun W hW => ⟨w, ((none, 0), (none, 0)), leB, rfl, ⟨(Sl.nil _ _ _), (Sl.nil _ _ _)⟩, hW.pick (ks := []) (by decide) zf⟩)
 ·refine Tr.skip (Tr.zA (Tr.seq (Tr.sr (Tr.va rfl (fun _ _ a c => zZ (cs := [iv p1.Unit, sL zh p1.Tools zg, sL Qc p1.Steps Qa]) WU VD (a.ev rfl) (zR.take (rdb c (vs := [iv p1.Unit, sL zh p1.Tools zg, sL Qc p1.Steps Qa]) (k := 2) rfl 0) 3) rfl) ?_))))
  obtain ⟨y104, hy104, H⟩ := bnd H
  refine Tr.JI (r := (iv y104)) (wn rfl) rfl Tryz.call21 (zI rfl zT) (fun W hW => Wx N p1 zh zg (Qh.rl.ext hW.Qx) Qc Qa (zDg.rl.ext hW.Qx) y104 hy104 (HF.start _)) ?_
  refine Tr.asg rfl rfl (Tr.nil (Tr.zA (Tr.sr (Tr.mv rfl rfl (Tr.va rfl (fun _ _ a c => KY (a.ev rfl) (a.ev rfl)) ?_)))))
  refine Tr.nil (Tr.zA (Tr.cond rfl H (fun H => ?_) (fun H => ?_)))
  ·refine Tr.sr (Tr.build (vs := []) (cs := [iv 0, .slice none 0 0, .slice none 0 0]) (wn rfl) rfl Qi (by kernel_rfl) ?_)
   refine Tr.mv rfl rfl (Tr.store 3 (cs := [iv 0, .slice none 0 0, .slice none 0 0]) [iv 0, .slice none 0 0, .slice none 0 0] (wn rfl) rfl rfl rfl rfl VD rfl rfl rfl ?_)
   refine Tr.asg rfl rfl (Tr.nil (Tr.zA (Tr.ret (Tr.zi ?_))))
   obtain rfl := oI H
   exact Tr.out (m := [.agg #[iv 0, .slice none 0 0, .slice none 0 0], iv y104]) [3] (Wq rfl rfl WU VD (zW rfl zX)) (fun W hW => ⟨w, ((none, 0), (none, 0)), leB, rfl, ⟨(Sl.nil _ _ _), (Sl.nil _ _ _)⟩, hW.pick (ks := []) (by decide) zf⟩)
  ·refine Tr.skip (Tr.zA (Tr.seq (Tr.draw (by kernel_rfl) (by kernel_rfl) ?_)))
   refine Tq.va rfl (fun _ _ a c => zB WS (a.ev rfl)) ?_
   refine Tq.va rfl (fun _ _ a c => zF QH (a.ev rfl) (rdb c (vs := [iv p0.Unit, sL zC p0.Tools zD, sL zO p0.Steps zN]) (k := 1) rfl 0) rfl) ?_
   refine Tq.va rfl (fun _ _ a c => zB WS (a.ev rfl)) ?_
   refine Tq.va rfl (fun _ _ a c => zF QH (a.ev rfl) (rdb c (vs := [iv p1.Unit, sL zh p1.Tools zg, sL Qc p1.Steps Qa]) (k := 2) rfl 0) rfl) ?_
   refine Tq.asg rfl rfl (Tq.asg rfl rfl (Tq.nil (Tr.zA (Tr.seq (Tr.block (Tr.loop (σ := Int × Int) (fun m w s => Vj N p0 p1 m s.1 s.2 = some r) (fun s => [(2, pV QE), (3, pV Qw), (4, pV Vs), (8, iv s.1), (9, iv s.2)]) (fun s => [(1, bx QE #[iv p0.Unit, sL zC p0.Tools zD, sL zO p0.Steps zN] 25), (2, bx Qw #[iv p1.Unit, sL zh p1.Tools zg, sL Qc p1.Steps Qa] 25), (3, bx Vs #[iv 0, .slice none 0 0, .slice none 0 0] 25)]) N (p0.Unit, p1.Unit) H (.cons rfl (.cons rfl (.cons rfl (.cons rfl (.cons rfl .nil))))) (.cons rfl (.cons rfl (.cons rfl .nil))) (fun _ _ h => zA0 (h)) ?_))))))
   intro w Qd mL1 s hs
   obtain ⟨x113, x114⟩ := s
   have H := hs
   replace H : Vj N p0 p1 (mL1 + 1) x113 x114 = some r := H
   replace zU := zU.le Qd
   replace Qe := Qe.le Qd
   replace Qh := Qh.le Qd
   replace zDg := zDg.le Qd
   replace leB := leB.trans Qd
   rw [Vj.eq_2] at H
   show Tr _ _ (LF [(2, pV QE), (3, pV Qw), (4, pV Vs), (8, iv x113), (9, iv x114)]) (LE [(1, bx QE #[iv p0.Unit, sL zC p0.Tools zD, sL zO p0.Steps zN] 25), (2, bx Qw #[iv p1.Unit, sL zh p1.Tools zg, sL Qc p1.Steps Qa] 25), (3, bx Vs #[iv 0, .slice none 0 0, .slice none 0 0] 25)]) _
   refine Tr.seq (Tr.sr (Tr.mv rfl rfl (Tr.va rfl (fun _ _ a c => KY (a.ev rfl) (a.ev rfl)) ?_)))
   refine Tr.nil (Tr.zA (Tr.cond rfl H (fun H => ?_) (fun H => ?_)))
   ·refine Tr.skip (Tr.zA (Tr.block (Tr.draw (by kernel_rfl) (by kernel_rfl) ?_)))
    refine Tq.mv rfl rfl (Tq.mv rfl rfl (Tq.mv rfl rfl ?_))
    obtain ⟨q115, zj2, H⟩ := bnd H
    refine Tq.va rfl (fun _ _ a c => zRi (a.ev rfl) (a.ev rfl) zj2) ?_
    exact Tq.asg rfl rfl (Tq.asg rfl rfl (Tq.nil (Tr.zl (Tr.zn Qd (x114, q115) H (.cons rfl (.cons rfl (.cons rfl (.cons rfl (.cons rfl .nil))))) (.cons rfl (.cons rfl (.cons rfl .nil)))))))
   ·refine Tr.exit (Tr.zk (Tr.zk (Tr.QV (Tr.zA (Tr.sr (Tr.mv rfl rfl (Tr.build (vs := [(0, iv x113)]) (cs := [iv x113, .slice none 0 0, .slice none 0 0]) (wn rfl) rfl (zq rfl Qi) (by kernel_rfl) ?_)))))))
    refine Tr.alloc 4 (wn rfl) rfl zNB fun zM1 => ?_
    refine Tr.store 4 (cs := [iv x113, .slice none 0 0, .slice none 0 0]) [iv x113, .slice none 0 0, .slice none 0 0] (wn rfl) rfl rfl rfl rfl VD rfl rfl rfl ?_
    refine Tr.nil (Tr.zA (Tr.seq (Tr.sr (Tr.va rfl (fun _ _ a c => zZ (cs := [iv p0.Unit, sL zC p0.Tools zD, sL zO p0.Steps zN]) WU VD (a.ev rfl) (zR.take (rdb c (vs := [iv p0.Unit, sL zC p0.Tools zD, sL zO p0.Steps zN]) (k := 1) rfl 0) 3) rfl) ?_))))
    refine Tr.va rfl (fun _ _ a c => zZ (cs := [iv p1.Unit, sL zh p1.Tools zg, sL Qc p1.Steps Qa]) WU VD (a.ev rfl) (zR.take (rdb c (vs := [iv p1.Unit, sL zh p1.Tools zg, sL Qc p1.Steps Qa]) (k := 2) rfl 0) 3) rfl) ?_
    refine Tr.buildSlice 5 (e := 25) (vs := [(0, .agg #[iv p0.Unit, sL zC p0.Tools zD, sL zO p0.Steps zN]), (1, .agg #[iv p1.Unit, sL zh p1.Tools zg, sL Qc p1.Steps Qa])]) (cs := [iv p0.Unit, sL zC p0.Tools zD, sL zO p0.Steps zN, iv p1.Unit, sL zh p1.Tools zg, sL Qc p1.Steps Qa]) (wn rfl) rfl (zq rfl (zq rfl Qi)) (by kernel_rfl) fun zlM => ?_
    refine Tr.va rfl (fun _ _ a c => QJ zhf (a.ev rfl)) ?_
    refine Tr.mv rfl rfl (Tr.nil (Tr.zA (Tr.block (Tr.JU 52 64 zP ?_))))
    refine Tr.JU 53 46 zH ?_
    refine Tr.own 5 zCu [p0, p1] (css := [[iv p0.Unit, sL zC p0.Tools zD, sL zO p0.Steps zN], [iv p1.Unit, sL zh p1.Tools zg, sL Qc p1.Steps Qa]]) rfl (.cons ⟨((zC, zD), (zO, zN)), ⟨zU, Qe⟩, rfl⟩ (.cons ⟨((zh, zg), (Qc, Qa)), ⟨Qh, zDg⟩, rfl⟩ .nil)) rfl (by decide) (zCR rfl) ?_
    refine Tr.ren 5 54 rfl rfl rfl ?_
    refine Tr.loop (σ := (List zV) × (List zG) × (List zm) × Int × (Option Addr) × Nat × (Option Addr) × Nat × (Option Addr) × Nat) (fun m w s => JY N x113 m s.1 s.2.1 s.2.2.1 s.2.2.2.1 = some r ∧ SlF s.2.2.2.2.1 s.1.length s.2.2.2.2.2.1 ∧ SlF s.2.2.2.2.2.2.1 s.2.1.length s.2.2.2.2.2.2.2.1 ∧ SlF s.2.2.2.2.2.2.2.2.1 s.2.2.1.length s.2.2.2.2.2.2.2.2.2) (fun s => [(4, pV Vs), (8, iv x113), (10, pV zM1), (42, sL s.2.2.2.2.2.2.2.2.1 s.2.2.1 s.2.2.2.2.2.2.2.2.2), (43, iv 2), (44, iv s.2.2.2.1)]) (fun s => [(3, bx Vs #[iv 0, .slice none 0 0, .slice none 0 0] 25), (4, bx zM1 #[iv x113, sL s.2.2.2.2.1 s.1 s.2.2.2.2.2.1, sL s.2.2.2.2.2.2.1 s.2.1 s.2.2.2.2.2.2.2.1] 25), (52, ow s.2.2.2.2.1 s.2.2.2.2.2.1 64 zP s.1), (53, ow s.2.2.2.2.2.2.1 s.2.2.2.2.2.2.2.1 46 zH s.2.1), (54, ow s.2.2.2.2.2.2.2.2.1 s.2.2.2.2.2.2.2.2.2 25 zCu s.2.2.1)]) N (([] : List zV), ([] : List zG), [p0, p1], 0, none, 0, none, 0, (some ⟨zlM, 0, none⟩), 2) ⟨H, Kk, Kk, (zO9 zlM rfl)⟩ (.cons rfl (.cons rfl (.cons rfl (.cons rfl (.cons rfl (.cons rfl .nil)))))) (.cons rfl (.cons rfl (.cons rfl (.cons rfl (.cons rfl .nil))))) (fun _ _ h => zA0 (h.1)) ?_
    intro w zFz mL6 s hs
    obtain ⟨zPE, zE7, zEi, zE3, zQD, zPv, zGu, zGk, zIa, zIU⟩ := s
    obtain ⟨H, zZ8, zZ7, zWg⟩ := hs
    replace H : JY N x113 (mL6 + 1) zPE zE7 zEi zE3 = some r := H
    replace leB := leB.trans zFz
    replace zZ8 : SlF zQD zPE.length zPv := zZ8
    replace zZ7 : SlF zGu zE7.length zGk := zZ7
    replace zWg : SlF zIa zEi.length zIU := zWg
    rw [JY.eq_2] at H
    show Tr _ _ (LF [(4, pV Vs), (8, iv x113), (10, pV zM1), (42, sL zIa zEi zIU), (43, iv 2), (44, iv zE3)]) (LE [(3, bx Vs #[iv 0, .slice none 0 0, .slice none 0 0] 25), (4, bx zM1 #[iv x113, sL zQD zPE zPv, sL zGu zE7 zGk] 25), (52, ow zQD zPv 64 zP zPE), (53, ow zGu zGk 46 zH zE7), (54, ow zIa zIU 25 zCu zEi)]) _
    refine Tr.sr (Tr.va rfl (fun _ _ a c => QI (a.ev rfl) (a.ev rfl)) ?_)
    refine Tr.nil (Tr.zA (Tr.seq (Tr.cond rfl H (fun H => ?_) (fun H => ?_))))
    ·refine Tr.skip (Tr.zA (Tr.seq (Tr.block (Tr.sr (Tr.mv rfl rfl ?_)))))
     obtain ⟨VC, zjZ, H⟩ := bnd H
     obtain ⟨zfU, zfT, zfS⟩ := zz zjZ
     refine Tr.va rfl (fun _ _ a c => zM zk3 (a.ev rfl) zWg (a.ev rfl) zfU zfT) ?_
     refine Tr.zS5 (U := (zCu).Ad) (fun u => (zCu).ok w.O w.W u VC) (fun u => (.agg #[iv VC.Unit, sL u.1.1 VC.Tools u.1.2, sL u.2.1 VC.Steps u.2.2])) (wn rfl) rfl (ldN (κ := 54) (t := zCu) (V := fun u => (.agg #[iv VC.Unit, sL u.1.1 VC.Tools u.1.2, sL u.2.1 VC.Steps u.2.2])) rfl zfS (fun _ _ u a hc => zZ (cs := [iv VC.Unit, sL u.1.1 VC.Tools u.1.2, sL u.2.1 VC.Steps u.2.2]) WU VD (a.ev rfl) (zR.take hc 3) rfl)) ?_
     intro zmJ zb6
     obtain ⟨⟨zIJ, zH2⟩, ⟨zII, zH1⟩⟩ := zmJ
     obtain ⟨zMY, zMX⟩ := zb6
     replace zMY : Sl w.O w.W zP zIJ zH2 VC.Tools := zMY
     replace zMX : Sl w.O w.W zH zII zH1 VC.Steps := zMX
     show Tr _ _ (uf _ 48 (.agg #[iv VC.Unit, sL zIJ VC.Tools zH2, sL zII VC.Steps zH1])) _ _
     refine Tr.alloc 55 (wn rfl) rfl zNB fun zSY => ?_
     refine Tr.asg rfl rfl (Tr.store 55 (cs := [iv VC.Unit, sL zIJ VC.Tools zH2, sL zII VC.Steps zH1]) [iv VC.Unit, sL zIJ VC.Tools zH2, sL zII VC.Steps zH1] (wn rfl) rfl rfl rfl rfl VD rfl rfl rfl ?_)
     refine Tr.nil (Tr.zA (Tr.sr (Tr.buildSlice 56 (e := 9) (vs := [(0, sv ⟨#[97, 45]⟩), (1, sv ⟨#[98, 45]⟩)]) (cs := [sv ⟨#[97, 45]⟩, sv ⟨#[98, 45]⟩]) (wn rfl) rfl (zq rfl (zq rfl Qi)) (by kernel_rfl) fun zmx => ?_)))
     refine Tr.mv rfl rfl (Tr.own 56 zVs [⟨#[97, 45]⟩, ⟨#[98, 45]⟩] (css := [[sv ⟨#[97, 45]⟩], [sv ⟨#[98, 45]⟩]]) rfl (.cons ⟨(), trivial, rfl⟩ (.cons ⟨(), trivial, rfl⟩ .nil)) rfl (by decide) (zCR rfl) ?_)
     obtain ⟨zA3, zjY, H⟩ := bnd H
     obtain ⟨zfR, zfQ, zfP⟩ := zz zjY
     refine Tr.va rfl (fun _ _ a c => zM zk2 (a.ev rfl) (zO9 zmx rfl) (a.ev rfl) zfR zfQ) ?_
     refine Tr.va rfl (fun _ _ a c => zF zKy (a.ev rfl) (rdo zg2 (k := 56) c rfl zfP) rfl) ?_
     refine Tr.alloc 57 (wn rfl) rfl zl4 fun zP2 => ?_
     refine Tr.store 57 (cs := [sv zA3]) [sv zA3] (wn rfl) rfl rfl rfl rfl zdx rfl rfl rfl ?_
     refine Tr.nil (Tr.zA (Tr.sr (Tr.va rfl (fun _ _ a c => zZ (cs := [iv VC.Unit, sL zIJ VC.Tools zH2, sL zII VC.Steps zH1]) WU VD (a.ev rfl) (zR.take (rdb c (vs := [iv VC.Unit, sL zIJ VC.Tools zH2, sL zII VC.Steps zH1]) (k := 55) rfl 0) 3) rfl) ?_)))
     refine Tr.mv rfl rfl ?_
     obtain ⟨Ko, zij, H⟩ := bnd H
     refine Tr.VT [58, 59] [emp, emp] (U := (Option Addr × Nat) × (Option Addr × Nat)) (fun u => (.tuple #[.agg #[iv Ko.1.Unit, sL u.1.1 Ko.1.Tools u.1.2, sL u.2.1 Ko.1.Steps u.2.2], bV Ko.2])) (fun O W u => SlF u.1.1 Ko.1.Tools.length u.1.2 ∧ SlF u.2.1 Ko.1.Steps.length u.2.2) (fun u => [ow u.1.1 u.1.2 64 zP Ko.1.Tools, ow u.2.1 u.2.2 46 zH Ko.1.Steps]) rfl (zQ rfl (zQ rfl zf)) (fun _ => rfl) (wn rfl) rfl Tryz.call23 (zI rfl (zI rfl zT)) (fun W hW hp hE => zM8 N VC zIJ zH2 (zMY.zAK (hW.QM hp)) zII zH1 (zMX.zAK (hW.QM hp)) x113 Ko zij hE) ?_
     intro w u ziG hu
     obtain ⟨⟨zAx, zAn⟩, ⟨zAw, zAm⟩⟩ := u
     obtain ⟨gy235_0, gy235_1⟩ := hu
     replace zFz := zFz.trans ziG
     have zUA : SlF zAx Ko.1.Tools.length zAn := gy235_0 --@phi
     have zkY : SlF zAw Ko.1.Steps.length zAm := gy235_1 --@phi
     show Tr _ _ (uf _ 56 (.tuple #[.agg #[iv Ko.1.Unit, sL zAx Ko.1.Tools zAn, sL zAw Ko.1.Steps zAm], bV Ko.2])) (up (up _ 59 (ow zAw zAm 46 zH Ko.1.Steps)) 58 (ow zAx zAn 64 zP Ko.1.Tools)) _
     refine Tr.mv rfl rfl (Tr.va rfl (fun _ _ a c => Qq (a.ev rfl) rfl) ?_)
     refine Tr.va rfl (fun _ _ a c => Qq (a.ev rfl) rfl) ?_
     refine Tr.store 55 (cs := [iv Ko.1.Unit, sL zAx Ko.1.Tools zAn, sL zAw Ko.1.Steps zAm]) [iv Ko.1.Unit, sL zAx Ko.1.Tools zAn, sL zAw Ko.1.Steps zAm] (wn rfl) rfl rfl rfl rfl VD rfl rfl rfl ?_
     refine Tr.nil (Tr.zA (Tr.seq (Tr.sr (Tr.va rfl (fun _ _ a c => zB zEO (a.ev rfl)) ?_))))
     refine Tr.va rfl (fun _ _ a c => zF zLu (a.ev rfl) (rdb c (vs := [iv Ko.1.Unit, sL zAx Ko.1.Tools zAn, sL zAw Ko.1.Steps zAm]) (k := 55) rfl 1) rfl) ?_
     refine Tr.va rfl (fun _ _ a c => QJ zKW (a.ev rfl)) ?_
     refine Tr.mv rfl rfl (Tr.nil (Tr.zA (Tr.block (Tr.loop (σ := (List zV) × Nat × (List zV) × (Option Addr) × Nat) (fun m w s => m = s.1.length + 1 ∧ s.1 = List.drop s.2.1 Ko.1.Tools ∧ s.2.1 ≤ Ko.1.Tools.length ∧ KS N zE7 zEi zE3 (JY N x113 mL6) zA3 Ko s.1 s.2.1 s.2.2.1 = some r ∧ SlF s.2.2.2.1 s.2.2.1.length s.2.2.2.2) (fun s => [(4, pV Vs), (8, iv x113), (10, pV zM1), (11, iv zE3), (12, pV zSY), (13, pV zP2), (42, sL zIa zEi zIU), (43, iv 2), (44, iv zE3), (60, sL zAx Ko.1.Tools zAn), (61, iv (Ko.1.Tools.length : Int)), (62, iv (s.2.1 : Int))]) (fun s => [(3, bx Vs #[iv 0, .slice none 0 0, .slice none 0 0] 25), (4, bx zM1 #[iv x113, sL s.2.2.2.1 s.2.2.1 s.2.2.2.2, sL zGu zE7 zGk] 25), (52, ow s.2.2.2.1 s.2.2.2.2 64 zP s.2.2.1), (53, ow zGu zGk 46 zH zE7), (54, ow zIa zIU 25 zCu zEi), (55, bx zSY #[iv Ko.1.Unit, sL zAx Ko.1.Tools zAn, sL zAw Ko.1.Steps zAm] 25), (57, bx zP2 #[sv zA3] 9), (58, ow zAx zAn 64 zP Ko.1.Tools), (59, ow zAw zAm 46 zH Ko.1.Steps)]) (Ko.1.Tools.length + 1) (Ko.1.Tools, 0, zPE, zQD, zPv) ⟨rfl, rfl, Nat.zero_le _, H, zZ8⟩ (.cons rfl (.cons rfl (.cons rfl (.cons rfl (.cons rfl (.cons rfl (.cons rfl (.cons rfl (.cons rfl (.cons rfl (.cons rfl (.cons rfl .nil)))))))))))) (.cons rfl (.cons rfl (.cons rfl (.cons rfl (.cons rfl (.cons rfl (.cons rfl (.cons rfl (.cons rfl .nil))))))))) (fun _ _ h => absurd h.1 (by simp)) ?_))))
     intro w zIi m s hs
     obtain ⟨zAP, iL7, zFR, zHd, zHV⟩ := s
     obtain ⟨zVo, zE8, hiL7, H, zZ6⟩ := hs
     replace zE8 : zAP = List.drop iL7 Ko.1.Tools := zE8
     replace H : KS N zE7 zEi zE3 (JY N x113 mL6) zA3 Ko zAP iL7 zFR = some r := H
     replace zVo : m + 1 = zAP.length + 1 := zVo
     replace zFz := zFz.trans zIi
     replace zZ6 : SlF zHd zFR.length zHV := zZ6
     obtain rfl : m = zAP.length := by omega
     clear zVo
     show Tr _ _ (LF [(4, pV Vs), (8, iv x113), (10, pV zM1), (11, iv zE3), (12, pV zSY), (13, pV zP2), (42, sL zIa zEi zIU), (43, iv 2), (44, iv zE3), (60, sL zAx Ko.1.Tools zAn), (61, iv (Ko.1.Tools.length : Int)), (62, iv (iL7 : Int))]) (LE [(3, bx Vs #[iv 0, .slice none 0 0, .slice none 0 0] 25), (4, bx zM1 #[iv x113, sL zHd zFR zHV, sL zGu zE7 zGk] 25), (52, ow zHd zHV 64 zP zFR), (53, ow zGu zGk 46 zH zE7), (54, ow zIa zIU 25 zCu zEi), (55, bx zSY #[iv Ko.1.Unit, sL zAx Ko.1.Tools zAn, sL zAw Ko.1.Steps zAm] 25), (57, bx zP2 #[sv zA3] 9), (58, ow zAx zAn 64 zP Ko.1.Tools), (59, ow zAw zAm 46 zH Ko.1.Steps)]) _
     cases zAP with
     | nil =>
      rw [KS.eq_1] at H
      refine Tr.sr (Tr.va rfl (fun _ _ a c => QI (a.ev rfl) (a.ev rfl)) ?_)
      refine Tr.nil (Tr.zA (Tr.seq (Tr.WL rfl (JS zE8) ?_)))
      refine Tr.exit (Tr.zk (Tr.zk (Tr.QV (Tr.zA ?_))))
      have leJ259 := Bs.Le.refl w
      refine Tr.zMx (σ := (List zG) × (Option Addr) × Nat) (fun w s => Vz N zEi zE3 (JY N x113 mL6) zA3 Ko zFR s.1 = some r ∧ SlF s.2.1 s.1.length s.2.2) (fun s => [(4, pV Vs), (8, iv x113), (10, pV zM1), (12, pV zSY), (13, pV zP2), (42, sL zIa zEi zIU), (43, iv 2), (44, iv zE3)]) (fun s => [(3, bx Vs #[iv 0, .slice none 0 0, .slice none 0 0] 25), (4, bx zM1 #[iv x113, sL zHd zFR zHV, sL s.2.1 s.1 s.2.2] 25), (52, ow zHd zHV 64 zP zFR), (53, ow s.2.1 s.2.2 46 zH s.1), (54, ow zIa zIU 25 zCu zEi), (55, bx zSY #[iv Ko.1.Unit, sL zAx Ko.1.Tools zAn, sL zAw Ko.1.Steps zAm] 25), (57, bx zP2 #[sv zA3] 9), (58, ow zAx zAn 64 zP Ko.1.Tools), (59, ow zAw zAm 46 zH Ko.1.Steps)]) ?_ ?_
      ·refine Tr.sr (Tr.mv rfl rfl (Tr.va rfl (fun _ _ a c => Qn (a.ev rfl) (a.ev rfl)) ?_))
       refine Tr.nil (Tr.zA (Tr.cond rfl H (fun H => ?_) (fun H => ?_)))
       ·refine Tr.region (Tr.va rfl (fun _ _ a c => zB zDj (a.ev rfl)) ?_)
        refine Tr.va rfl (fun _ _ a c => zF zDp (a.ev rfl) (rdb c (vs := [iv x113, sL zHd zFR zHV, sL zGu zE7 zGk]) (k := 4) rfl 2) rfl) ?_
        refine Tr.build (vs := [(0, iv 1)]) (cs := [iv 1, sv ⟨#[]⟩, iv 0, iv 0, .slice none 0 0, iv 0, iv 0, .slice none 0 0]) (wn rfl) rfl (zq rfl Qi) (by kernel_rfl) ?_
        refine Tr.buildSlice 66 (e := 46) (vs := [(0, .agg #[iv 1, sv ⟨#[]⟩, iv 0, iv 0, .slice none 0 0, iv 0, iv 0, .slice none 0 0])]) (cs := [iv 1, sv ⟨#[]⟩, iv 0, iv 0, .slice none 0 0, iv 0, iv 0, .slice none 0 0]) (wn rfl) rfl (zq rfl Qi) (by kernel_rfl) fun zmw => ?_
        obtain ⟨zRy, zZ4, H⟩ := bnd H
        refine Tr.append 53 (t := zH) (l := zE7) (l2 := [(zG.mk 1 (⟨#[]⟩) (zJ.mk 0 0) [] 0 0 [])]) (wn rfl) rfl rfl rfl rfl (fun W hW => ⟨[[iv 1, sv ⟨#[]⟩, iv 0, iv 0, .slice none 0 0, iv 0, iv 0, .slice none 0 0]], (.cons ⟨((none, 0), (none, 0)), (Kn.2 ⟨(Sl.nil _ _ _), (Sl.nil _ _ _)⟩), rfl⟩ .nil), rdb hW (vs := [iv 1, sv ⟨#[]⟩, iv 0, iv 0, .slice none 0 0, iv 0, iv 0, .slice none 0 0]) (k := 66) rfl 0⟩) zGV zGW zYM (by decide) za4 rfl zZ4 fun zUp zUY hAl270 => ?_
        refine Tr.va rfl (fun _ _ a c => zB zDj (a.ev rfl)) ?_
        refine Tr.store 4 (cs := [sL zUp zRy zUY]) [iv x113, sL zHd zFR zHV, sL zUp zRy zUY] (wn rfl) rfl rfl rfl rfl zV6 rfl rfl rfl ?_
        exact Tr.nil (Tr.zn leJ259 (zRy, zUp, zUY) ⟨H, hAl270⟩ (.cons rfl (.cons rfl (.cons rfl (.cons rfl (.cons rfl (.cons rfl (.cons rfl (.cons rfl .nil)))))))) (.cons rfl (.cons rfl (.cons rfl (.cons rfl (.cons rfl (.cons rfl (.cons rfl (.cons rfl (.cons rfl .nil))))))))))
       ·exact Tr.skip (Tr.zn leJ259 (zE7, zGu, zGk) ⟨H, zZ7⟩ (.cons rfl (.cons rfl (.cons rfl (.cons rfl (.cons rfl (.cons rfl (.cons rfl (.cons rfl .nil)))))))) (.cons rfl (.cons rfl (.cons rfl (.cons rfl (.cons rfl (.cons rfl (.cons rfl (.cons rfl (.cons rfl .nil))))))))))
      ·intro w s hlJ260 hs
       obtain ⟨zTl, zXX, zXA⟩ := s
       obtain ⟨H, zm9⟩ := hs
       replace H : Vz N zEi zE3 (JY N x113 mL6) zA3 Ko zFR zTl = some r := H
       replace zFz := zFz.trans hlJ260
       unfold Vz at H
       show Tr _ _ (LF [(4, pV Vs), (8, iv x113), (10, pV zM1), (12, pV zSY), (13, pV zP2), (42, sL zIa zEi zIU), (43, iv 2), (44, iv zE3)]) (LE [(3, bx Vs #[iv 0, .slice none 0 0, .slice none 0 0] 25), (4, bx zM1 #[iv x113, sL zHd zFR zHV, sL zXX zTl zXA] 25), (52, ow zHd zHV 64 zP zFR), (53, ow zXX zXA 46 zH zTl), (54, ow zIa zIU 25 zCu zEi), (55, bx zSY #[iv Ko.1.Unit, sL zAx Ko.1.Tools zAn, sL zAw Ko.1.Steps zAm] 25), (57, bx zP2 #[sv zA3] 9), (58, ow zAx zAn 64 zP Ko.1.Tools), (59, ow zAw zAm 46 zH Ko.1.Steps)]) _
       refine Tr.freeze 59 rfl fun w ziE zTt => ?_
       replace zFz := zFz.trans ziE
       refine Tr.zHS 6 [] [] (by kernel_rfl) (by kernel_rfl) fun zm3 zj9 zlW => ?_
       refine Dr.quiet 0 [(86, .pointer (some ⟨zM1, 2, none⟩))] (by kernel_rfl) rfl rfl (by kernel_rfl) ?_ rfl rfl ?_
       ·refine Tq.va rfl (fun _ _ a c => zB zDj (a.ev rfl)) ?_
        exact Tq.fin (.cons rfl .nil)
       refine Dr.quiet 1 [(87, sL zXX zTl zXA)] (by kernel_rfl) rfl rfl (by kernel_rfl) ?_ rfl rfl ?_
       ·refine Tq.va rfl (fun _ _ a c => zF zDp (a.ev rfl) (rdb c (vs := [iv x113, sL zHd zFR zHV, sL zXX zTl zXA]) (k := 4) rfl 2) rfl) ?_
        exact Tq.fin (.cons rfl .nil)
       refine Dr.quiet 2 [(88, .pointer (some ⟨zSY, 2, none⟩))] (by kernel_rfl) rfl rfl (by kernel_rfl) ?_ rfl rfl ?_
       ·refine Tq.va rfl (fun _ _ a c => zB zDj (a.ev rfl)) ?_
        exact Tq.fin (.cons rfl .nil)
       refine Dr.quiet 3 [(89, sL zAw Ko.1.Steps zAm)] (by kernel_rfl) rfl rfl (by kernel_rfl) ?_ rfl rfl ?_
       ·refine Tq.va rfl (fun _ _ a c => zF zDp (a.ev rfl) (rdb c (vs := [iv Ko.1.Unit, sL zAx Ko.1.Tools zAn, sL zAw Ko.1.Steps zAm]) (k := 55) rfl 2) rfl) ?_
        exact Tq.fin (.cons rfl .nil)
       refine Dr.quiet 4 [(90, .func (.func 34) #[] #[pV zP2])] (by kernel_rfl) rfl rfl (by kernel_rfl) ?_ rfl rfl ?_
       ·refine Tq.zE5 (vs := [pV zP2]) (wn rfl) rfl (zI rfl zT) ?_
        exact Tq.fin (.cons rfl .nil)
       obtain ⟨zQJ, zif, H⟩ := bnd H
       refine Dr.one 5 (by kernel_rfl) ?_
       refine St.VT 5 [65] [emp] (U := (Option Addr × Nat)) (fun u => (sL u.1 zQJ u.2)) (fun O W u => SlF u.1 zQJ.length u.2) (fun u => [ow u.1 u.2 46 zH zQJ]) rfl (zQ rfl zf) (fun _ => rfl) (zNr rfl) rfl (wn rfl) rfl Tryz.call33 (zI rfl (zI rfl zT)) (fun W hW hp hE => zDS N Ko.1.Steps zAw zAm (zTt.zAK (hW.QM hp)) zA3 zP2 (hW.zQa (k := 57) rfl hp rfl) (hW.zUd (k := 57) rfl) zQJ zif hE) ?_
       intro w u zdG hu zmk
       obtain ⟨zSg, zSL⟩ := u
       have gy264_0 := hu
       replace zTt := zTt.le zdG
       replace zFz := zFz.trans zdG
       have zkW : SlF zSg zQJ.length zSL := gy264_0
       show Dr _ _ _ _ _ _ _ _ _ (uf _ 91 (sL zSg zQJ zSL)) (up _ 65 (ow zSg zSL 46 zH zQJ))
       refine Dr.tail (by kernel_rfl) ?_
       refine Tr.freeze 65 rfl fun w zdF ziK => ?_
       replace zTt := zTt.le zdF
       replace zFz := zFz.trans zdF
       obtain ⟨zZP, zkN, H⟩ := bnd H
       refine Tr.zLs 53 (t := zH) (l := zTl) (l2 := zQJ) (wn rfl) rfl rfl rfl rfl (apO ziK) zGV zGW zYM (by decide) za4 rfl zkN fun zbP zay hAl268 => ?_
       refine Tr.va rfl (fun _ _ a c => zB zDj (a.ev rfl)) ?_
       refine Tr.store 4 (cs := [sL zbP zZP zay]) [iv x113, sL zHd zFR zHV, sL zbP zZP zay] (wn rfl) rfl rfl rfl rfl zV6 rfl rfl rfl ?_
       refine Tr.nil (Tr.zl (Tr.zA (Tr.region (Tr.va rfl (fun _ _ a c => QK (a.ev rfl) (a.ev rfl)) ?_))))
       exact Tr.mv rfl rfl (Tr.nil (Tr.zn zFz (zFR, zZP, zEi, (w64 (zE3 + 1)), zHd, zHV, zbP, zay, zIa, zIU) ⟨H, zZ6, hAl268, zWg⟩ (.cons rfl (.cons rfl (.cons rfl (.cons rfl (.cons rfl (.cons rfl .nil)))))) (.cons rfl (.cons rfl (.cons rfl (.cons rfl (.cons rfl .nil)))))))
     | cons xL7 zAP =>
      rw [KS.eq_2] at H
      refine Tr.sr (Tr.va rfl (fun _ _ a c => QI (a.ev rfl) (a.ev rfl)) ?_)
      refine Tr.nil (Tr.zA (Tr.seq (Tr.WK rfl (Jt zE8) ?_)))
      refine Tr.skip (Tr.zA (Tr.seq (Tr.block (Tr.sr (Tr.va rfl (fun _ _ a c => zM zKa (a.ev rfl) zUA (a.ev rfl) (Int.natCast_nonneg _) (QB zE8)) ?_)))))
      refine Tr.zS5 (U := (zP).Ad) (fun u => (zP).ok w.O w.W u xL7) (fun u => (.agg #[sv xL7.Name, sL u.1 xL7.Rects u.2])) (wn rfl) rfl (ldN (κ := 58) (t := zP) (V := fun u => (.agg #[sv xL7.Name, sL u.1 xL7.Rects u.2])) rfl (KL zE8) (fun _ _ u a hc => zZ (cs := [sv xL7.Name, sL u.1 xL7.Rects u.2]) zP5 zG8 (a.ev rfl) (zR.take hc 2) rfl)) ?_
      intro zmI zb5
      obtain ⟨zCf, zCb⟩ := zmI
      have zMW := zb5
      replace zMW : Sl w.O w.W zK zCf zCb xL7.Rects := zMW
      show Tr _ _ (uf _ 65 (.agg #[sv xL7.Name, sL zCf xL7.Rects zCb])) _ _
      refine Tr.alloc 67 (wn rfl) rfl zV3 fun znS => ?_
      refine Tr.store 67 (cs := [sv xL7.Name, sL zCf xL7.Rects zCb]) [sv xL7.Name, sL zCf xL7.Rects zCb] (wn rfl) rfl rfl rfl rfl zG8 rfl rfl rfl ?_
      refine Tr.nil (Tr.zA (Tr.sr (Tr.va rfl (fun _ _ a c => zF zKy (a.ev rfl) (rdb c (vs := [sv zA3]) (k := 57) rfl 0) rfl) ?_)))
      refine Tr.va rfl (fun _ _ a c => zB zHu (a.ev rfl)) ?_
      refine Tr.va rfl (fun _ _ a c => zF zKy (a.ev rfl) (rdb c (vs := [sv xL7.Name, sL zCf xL7.Rects zCb]) (k := 67) rfl 0) rfl) ?_
      obtain ⟨zOj, ht273, H⟩ := bnd H
      refine Tr.va rfl (fun _ _ a c => VS (a.ev rfl) (a.ev rfl) ht273) ?_
      refine Tr.va rfl (fun _ _ a c => zB zHu (a.ev rfl)) ?_
      refine Tr.store 67 (cs := [sv zOj]) [sv zOj, sL zCf xL7.Rects zCb] (wn rfl) rfl rfl rfl rfl zdx rfl rfl rfl ?_
      refine Tr.nil (Tr.zA (Tr.region (Tr.va rfl (fun _ _ a c => zB zEO (a.ev rfl)) ?_)))
      refine Tr.va rfl (fun _ _ a c => zF zLu (a.ev rfl) (rdb c (vs := [iv x113, sL zHd zFR zHV, sL zGu zE7 zGk]) (k := 4) rfl 1) rfl) ?_
      refine Tr.va rfl (fun _ _ a c => zZ (cs := [sv zOj, sL zCf xL7.Rects zCb]) zP5 zG8 (a.ev rfl) (zR.take (rdb c (vs := [sv zOj, sL zCf xL7.Rects zCb]) (k := 67) rfl 0) 2) rfl) ?_
      refine Tr.buildSlice 68 (e := 64) (vs := [(0, .agg #[sv zOj, sL zCf xL7.Rects zCb])]) (cs := [sv zOj, sL zCf xL7.Rects zCb]) (wn rfl) rfl (zq rfl Qi) (by kernel_rfl) fun znR => ?_
      obtain ⟨zZO, zkM, H⟩ := bnd H
      refine Tr.append 52 (t := zP) (l := zFR) (l2 := [(zV.mk zOj xL7.Rects)]) (wn rfl) rfl rfl rfl rfl (fun W hW => ⟨[[sv zOj, sL zCf xL7.Rects zCb]], (.cons ⟨(zCf, zCb), zMW, rfl⟩ .nil), rdb hW (vs := [sv zOj, sL zCf xL7.Rects zCb]) (k := 68) rfl 0⟩) zKW zG8 zcz (by decide) zdi rfl zkM fun zbO zax hAl275 => ?_
      refine Tr.va rfl (fun _ _ a c => zB zEO (a.ev rfl)) ?_
      refine Tr.store 4 (cs := [sL zbO zZO zax]) [iv x113, sL zbO zZO zax, sL zGu zE7 zGk] (wn rfl) rfl rfl rfl rfl zhs rfl rfl rfl ?_
      refine Tr.nil (Tr.zl (Tr.zA (Tr.region (Tr.va rfl (fun _ _ a c => QK (a.ev rfl) (a.ev rfl)) ?_))))
      exact Tr.mv rfl rfl (Tr.nil (Tr.zn zIi (zAP, (iL7 + 1), zZO, zbO, zax) ⟨rfl, Qu zE8, QB zE8, H, hAl275⟩ (.cons rfl (.cons rfl (.cons rfl (.cons rfl (.cons rfl (.cons rfl (.cons rfl (.cons rfl (.cons rfl (.cons rfl (.cons rfl (.cons (congrArg (fun z => some (Value.int .i64 z)) (Qt zE8 zUA)) .nil)))))))))))) (.cons rfl (.cons rfl (.cons rfl (.cons rfl (.cons rfl (.cons rfl (.cons rfl (.cons rfl (.cons rfl .nil)))))))))))
    ·refine Tr.exit (Tr.zk (Tr.zk (Tr.QV (Tr.zA (Tr.sr (Tr.va rfl (fun _ _ a c => zZ (cs := [iv x113, sL zQD zPE zPv, sL zGu zE7 zGk]) WU VD (a.ev rfl) (zR.take (rdb c (vs := [iv x113, sL zQD zPE zPv, sL zGu zE7 zGk]) (k := 4) rfl 0) 3) rfl) ?_))))))
     refine Tr.freeze 52 rfl fun w ziC zTs => ?_
     replace leB := leB.trans ziC
     refine Tr.freeze 53 rfl fun w zdD zZW => ?_
     replace zTs := zTs.le zdD
     replace leB := leB.trans zdD
     obtain ⟨zEb, zib, H⟩ := bnd H
     refine Tr.VT [] [] (U := (Option Addr × Nat) × (Option Addr × Nat)) (fun u => (.tuple #[.agg #[iv zEb.1.Unit, sL u.1.1 zEb.1.Tools u.1.2, sL u.2.1 zEb.1.Steps u.2.2], iv zEb.2])) (fun O W u => Sl O W zP u.1.1 u.1.2 zEb.1.Tools ∧ Sl O W zH u.2.1 u.2.2 zEb.1.Steps) (fun u => []) rfl zf (fun _ => rfl) (wn rfl) rfl Tryz.call24 (zI rfl zT) (fun W hW hp hE => zP9 N (zm.mk x113 zPE zE7) zQD zPv (zTs.zAK (hW.QM hp)) zGu zGk (zZW.zAK (hW.QM hp)) zEb zib hE) ?_
     intro w u zZH hu
     obtain ⟨⟨zKH, zJ7⟩, ⟨zKG, zJ6⟩⟩ := u
     obtain ⟨gy280_0, gy280_1⟩ := hu
     replace zTs := zTs.le zZH
     replace zZW := zZW.le zZH
     replace leB := leB.trans zZH
     have zaK : Sl w.O w.W zP zKH zJ7 zEb.1.Tools := gy280_0 --@phi
     have zaJ : Sl w.O w.W zH zKG zJ6 zEb.1.Steps := gy280_1 --@phi
     show Tr _ _ (uf _ 96 (.tuple #[.agg #[iv zEb.1.Unit, sL zKH zEb.1.Tools zJ7, sL zKG zEb.1.Steps zJ6], iv zEb.2])) (_) _
     refine Tr.va rfl (fun _ _ a c => Qq (a.ev rfl) rfl) ?_
     refine Tr.va rfl (fun _ _ a c => Qq (a.ev rfl) rfl) ?_
     refine Tr.store 3 (cs := [iv zEb.1.Unit, sL zKH zEb.1.Tools zJ7, sL zKG zEb.1.Steps zJ6]) [iv zEb.1.Unit, sL zKH zEb.1.Tools zJ7, sL zKG zEb.1.Steps zJ6] (wn rfl) rfl rfl rfl rfl VD rfl rfl rfl ?_
     refine Tr.asg rfl rfl (Tr.nil (Tr.zA (Tr.ret ?_)))
     obtain rfl := oI H
     exact Tr.out (m := [.agg #[iv zEb.1.Unit, sL zKH zEb.1.Tools zJ7, sL zKG zEb.1.Steps zJ6], iv zEb.2]) [3] (Wq rfl rfl WU VD (zW rfl zX)) (fun W hW => ⟨w, ((zKH, zJ7), (zKG, zJ6)), leB, rfl, ⟨zaK, zaJ⟩, hW.pick (ks := []) (by decide) zf⟩)

theorem zFc (N : Nat) (rec : (List zG) → Option Bool) (hrec : ∀ {w : Bs} (p0 : (List zG)) (zC : Option Addr) (zD : Nat) (zU : Sl w.R w.W zH zC zD p0) (r : Bool) (H : rec p0 = some r) (hE : HF w w.W E0), Calls Tryz.prog 17 [sL zC p0 zD].toArray w.W fun e W' => e = .returned (bV r) ∧ HF w W' E0) {w : Bs} (p0 : (List zG)) (zC : Option Addr) (zD : Nat) (zU : Sl w.R w.W zH zC zD p0) (r : Bool) (H : VX N rec p0 = some r) (hE : HF w w.W E0) : Calls Tryz.prog 17 [sL zC p0 zD].toArray w.W fun e W' => e = .returned (bV r) ∧ HF w W' E0 := by
 unfold VX at H
 have leB := Bs.Le.refl w
 refine Tr.enter (n := 24) Tryz.func17 rfl rfl rfl hE ?_
 refine Tr.sr (Tr.asg rfl rfl (Tr.nil (Tr.zA (Tr.seq (Tr.sr (Tr.asg rfl rfl (Tr.nil (Tr.zA (Tr.block (Tr.loop (σ := Int) (fun m w s => JZ p0 rec m s = some r) (fun s => [(0, sL zC p0 zD), (3, iv s)]) (fun s => []) N 0 H (.cons rfl (.cons rfl .nil)) .nil (fun _ _ h => zA0 (h)) ?_))))))))))
 intro w Qd mL1 zCP hs
 have H := hs
 replace H : JZ p0 rec (mL1 + 1) zCP = some r := H
 replace zU := zU.leR Qd
 replace leB := leB.trans Qd
 rw [JZ.eq_2] at H
 show Tr _ _ (LF [(0, sL zC p0 zD), (3, iv zCP)]) (LE []) _
 refine Tr.seq (Tr.sr (Tr.mv rfl rfl (Tr.mv rfl rfl (Tr.va rfl (fun _ _ a c => QJ zGV (a.ev rfl)) ?_))))
 refine Tr.va rfl (fun _ _ a c => QI (a.ev rfl) (a.ev rfl)) ?_
 refine Tr.nil (Tr.zA (Tr.cond rfl H (fun H => ?_) (fun H => ?_)))
 ·refine Tr.skip (Tr.zA (Tr.seq (Tr.block (Tr.sr (Tr.mv rfl rfl (Tr.mv rfl rfl ?_))))))
  obtain ⟨zD2, zju, H⟩ := bnd H
  obtain ⟨hx1220, hx1221, hx1222⟩ := zz zju
  obtain ⟨zmX, hRu123, zcL, hcu123⟩ := (zU).el hx1222
  obtain ⟨⟨zl1, zlo⟩, ⟨zl0, zln⟩⟩ := zmX
  obtain ⟨zhM, zhL⟩ := Kn.1 zcL
  refine Tr.va rfl (fun _ _ a c => zM zFH (a.ev rfl) zU.form (a.ev rfl) hx1220 hx1221) ?_
  refine Tr.va rfl (fun _ _ a c => zB zHv (a.ev rfl)) ?_
  refine Tr.va rfl (fun _ _ a c => zF QH (a.ev rfl) (zR.drop (rdR hRu123 hcu123 c) 0) rfl) ?_
  refine Tr.va rfl (fun _ _ a c => Qn (a.ev rfl) (a.ev rfl)) ?_
  refine Tr.mv rfl rfl ?_
  obtain ⟨zcc, zRB, H⟩ := bnd H
  refine Tr.Vr 7 [(0, sL zC p0 zD), (3, iv zCP), (23, bV zcc)] [] ?_ ?_
  ·cases zde : (zD2.Kind == 2)
   ·rw [zde] at zRB
    rw [if_neg (by decide)] at zRB
    have H := zRB
    refine Tr.val (wg rfl rfl rfl) rfl (fun _ _ a c => run_move (a.ev rfl)) ?_
    refine Tr.val (wg rfl rfl rfl) rfl (fun _ _ a c => run_move (a.ev rfl)) ?_
    obtain ⟨zba, hx128, H⟩ := bnd H
    obtain ⟨zgL, zgK, zgJ⟩ := zz hx128
    obtain ⟨zmW, hRu129, zcJ, hcu129⟩ := (zU).el zgJ
    obtain ⟨⟨zlz, zlm⟩, ⟨zXT, zW2⟩⟩ := zmW
    obtain ⟨zhK, zMg⟩ := Kn.1 zcJ
    replace zMg : Sl w.R w.W zH zXT zW2 zba.Steps := zMg
    refine Tr.val (wg rfl rfl rfl) rfl (fun _ _ a c => zM zFH (a.ev rfl) zU.form (a.ev rfl) zgL zgK) ?_
    refine Tr.val (wg rfl rfl rfl) rfl (fun _ _ a c => zB zC4 (a.ev rfl)) ?_
    refine Tr.val (wg rfl rfl rfl) rfl (fun _ _ a c => zF zDp (a.ev rfl) (zR.drop (rdR hRu129 hcu129 c) 7) rfl) ?_
    obtain ⟨zHe, zZg, H⟩ := bnd H
    refine Tr.JI (r := (bV zHe)) (wg rfl rfl rfl) rfl Tryz.call17 (zI rfl zT) (fun W hW => hrec zba.Steps zXT zW2 (zMg.ext hW.Qx) zHe zZg (HF.start _)) ?_
    refine Tr.va rfl (fun _ _ a c => zx (a.ev rfl) (a.ev rfl)) ?_
    obtain rfl := oI H
    exact Tr.nil (Tr.JM (.cons rfl (.cons rfl (.cons rfl .nil))) .nil)
   ·rw [zde] at zRB
    rw [if_pos rfl] at zRB
    have H := zRB
    obtain rfl := oI H
    refine Tr.pass rfl rfl rfl rfl rfl (by decide) ?_
    refine Tr.pass rfl rfl rfl rfl rfl (by decide) ?_
    refine Tr.pass rfl rfl rfl rfl rfl (by decide) ?_
    refine Tr.pass rfl rfl rfl rfl rfl (by decide) ?_
    refine Tr.pass rfl rfl rfl rfl rfl (by decide) ?_
    refine Tr.pass rfl rfl rfl rfl rfl (by decide) ?_
    refine Tr.va rfl (fun _ _ a c => zw (a.ev rfl) (a.ev rfl)) ?_
    exact Tr.nil (Tr.JM (.cons rfl (.cons rfl (.cons rfl .nil))) .nil)
  ·show Tr _ _ (LF [(0, sL zC p0 zD), (3, iv zCP), (23, bV zcc)]) (LE []) _
   refine Tr.nil (Tr.zA (Tr.cond rfl H (fun H => ?_) (fun H => ?_)))
   ·refine Tr.sr (Tr.asg rfl rfl (Tr.nil (Tr.zA (Tr.ret (Tr.QT (Tr.zi (Tr.zi (Tr.QT (Tr.zi ?_)))))))))
    obtain rfl := oI H
    exact Tr.out (m := [bV true]) [] (zW rfl zX) (fun W hW => ⟨rfl, hW.low leB⟩)
   ·refine Tr.skip (Tr.zl (Tr.zA (Tr.region (Tr.mv rfl rfl (Tr.va rfl (fun _ _ a c => QK (a.ev rfl) (a.ev rfl)) ?_)))))
    exact Tr.asg rfl rfl (Tr.nil (Tr.zn Qd (w64 (zCP + 1)) H (.cons rfl (.cons rfl .nil)) .nil))
 ·refine Tr.exit (Tr.zk (Tr.zk (Tr.QV (Tr.zA (Tr.sr (Tr.asg rfl rfl (Tr.nil (Tr.zA (Tr.ret ?_)))))))))
  obtain rfl := oI H
  exact Tr.out (m := [bV false]) [] (zW rfl zX) (fun W hW => ⟨rfl, hW.low leB⟩)
theorem zCl : ∀ (N : Nat) {w : Bs} (p0 : (List zG)) (zC : Option Addr) (zD : Nat) (zU : Sl w.R w.W zH zC zD p0) (r : Bool) (H : KZ N p0 = some r) (hE : HF w w.W E0), Calls Tryz.prog 17 [sL zC p0 zD].toArray w.W fun e W' => e = .returned (bV r) ∧ HF w W' E0
 | 0 => by intros; rename_i H _; cases H
 | N + 1 => zFc N (KZ N) (zCl N)

theorem zDq {w : Bs} (p0 : Int) (r : ByteArray) (H : zLU p0 = some r) (hE : HF w w.W E0) : Calls Tryz.prog 46 [iv p0].toArray w.W fun e W' => e = .returned (sv r) ∧ HF w W' E0 :=
 zVV (ρ := Tryz.zPM) Tryz.zeP H hE

end Go.Proofs.YtoageaoknnnfbaaGreatDoor
namespace Go.Proofs
open Go.Shelf
def Tryz.zMz : Go.Shelf.Ren := ⟨fun | 166 => 45 | 240 => 75 | 276 => 101 | n => n, fun | 5 => 5 | 37 => 93 | 70 => 92 | 72 => 95 | 75 => 97 | 80 => 104 | 164 => 157 | n => n, fun n => n⟩
theorem Tryz.zlH : Go.Proofs.Lays.n166 Tryz.prog Tryz.zMz := {
 mixed := by kernel_rfl
 f166 := Tryz.func45.trans (congrArg some (by kernel_rfl))
 f240 := Tryz.func75.trans (congrArg some (by kernel_rfl))
 f276 := Tryz.func101.trans (congrArg some (by kernel_rfl))
 t0 := Tryz.underlying0
 a0 := Tryz.isAgg0
 z0 := Tryz.sizeOf0
 v0 := Tryz.zeroValue0
 t3 := Tryz.underlying3
 a3 := Tryz.isAgg3
 z3 := Tryz.sizeOf3
 v3 := Tryz.zeroValue3
 t4 := Tryz.underlying4
 a4 := Tryz.isAgg4
 z4 := Tryz.sizeOf4
 v4 := Tryz.zeroValue4
 t9 := Tryz.underlying9
 a9 := Tryz.isAgg9
 z9 := Tryz.sizeOf9
 v9 := Tryz.zeroValue9
 t20 := Tryz.underlying20
 a20 := Tryz.isAgg20
 z20 := Tryz.sizeOf20
 v20 := Tryz.zeroValue20
 t37 := Tryz.underlying93
 a37 := Tryz.isAgg93
 z37 := Tryz.sizeOf93
 v37 := Tryz.zeroValue93
 t70 := Tryz.underlying92
 a70 := Tryz.isAgg92
 z70 := Tryz.sizeOf92
 v70 := Tryz.zeroValue92
 t72 := Tryz.underlying95
 a72 := Tryz.isAgg95
 z72 := Tryz.sizeOf95
 v72 := Tryz.zeroValue95
 t75 := Tryz.underlying97
 a75 := Tryz.isAgg97
 z75 := Tryz.sizeOf97
 v75 := Tryz.zeroValue97
 t164 := Tryz.underlying157
 a164 := Tryz.isAgg157
 z164 := Tryz.sizeOf157
 v164 := Tryz.zeroValue157
}
end Go.Proofs
namespace Go.Proofs.YtoageaoknnnfbaaGreatDoor
open Go.RowKit
theorem zmu : Builder.Extra Tryz.prog Tryz.zMz where
 sizeBuilder := by kernel_rfl
 liesBuilder := by kernel_rfl
 t5 := Tryz.underlying5
 a5 := Tryz.isAgg5
 z5 := Tryz.sizeOf5
 v5 := Tryz.zeroValue5
 infoByte := by kernel_rfl
 cellsByte := by kernel_rfl
 sizeByte := by kernel_rfl
 neB5 := by decide
theorem QL {w : Bs} (p0 : ByteArray) (zC : Option Addr) (zD : Nat) (bp0 : Nat) (p1 : ByteArray) (r : ByteArray) (H : sbW p0 p1 = some r) (hE : HF w w.W (LEn [sb 95 5 bp0 zC zD p0])) : Calls Tryz.prog 45 [pV bp0, .string p1].toArray w.W fun e W' => ∃ u : (Option Addr × Nat), e = .returned (.tuple #[.int .i64 p1.size, .nilIface]) ∧ (True) ∧ HF w W' (LEn [sb 95 5 bp0 u.1 u.2 r]) :=
 zYv (ρ := Tryz.zMz) Tryz.zlH zmu H hE

theorem zAN {w : Bs} (p0 : (List zJ)) (zC : Option Addr) (zD : Nat) (zU : Sl w.R w.W QU zC zD p0) (r : ByteArray) (H : zAF p0 = some r) (hE : HF w w.W E0) : Calls Tryz.prog 47 [sL zC p0 zD].toArray w.W fun e W' => e = .returned (sv r) ∧ HF w W' E0 := by
 unfold zAF at H
 have leB := Bs.Le.refl w
 refine Tr.enter (n := 25) Tryz.func47 rfl rfl rfl hE ?_
 refine Tr.sr (Tr.asg rfl rfl (Tr.nil (Tr.zA (Tr.sr (Tr.asg rfl rfl (Tr.nil (Tr.zA (Tr.seq (Tr.sr (Tr.mv rfl rfl ?_))))))))))
 refine Tr.va rfl (fun _ _ a c => QJ zGU (a.ev rfl)) ?_
 refine Tr.mv rfl rfl (Tr.nil (Tr.zA (Tr.block (Tr.loop (σ := (List zJ) × Nat × ByteArray) (fun m w s => m = s.1.length + 1 ∧ s.1 = List.drop s.2.1 p0 ∧ s.2.1 ≤ p0.length ∧ zAO s.1 s.2.1 s.2.2 = some r) (fun s => [(3, sv s.2.2), (6, sL zC p0 zD), (7, iv (p0.length : Int)), (8, iv (s.2.1 : Int))]) (fun s => []) (p0.length + 1) (p0, 0, ByteArray.empty) ⟨rfl, rfl, Nat.zero_le _, H⟩ (.cons rfl (.cons rfl (.cons rfl (.cons rfl .nil)))) .nil (fun _ _ h => absurd h.1 (by simp)) ?_))))
 intro w Qd m s hs
 obtain ⟨zY, iL1, zD2⟩ := s
 obtain ⟨Kj, QF, hiL1, H⟩ := hs
 replace QF : zY = List.drop iL1 p0 := QF
 replace H : zAO zY iL1 zD2 = some r := H
 replace Kj : m + 1 = zY.length + 1 := Kj
 replace zU := zU.leR Qd
 replace leB := leB.trans Qd
 obtain rfl : m = zY.length := by omega
 clear Kj
 show Tr _ _ (LF [(3, sv zD2), (6, sL zC p0 zD), (7, iv (p0.length : Int)), (8, iv (iL1 : Int))]) (LE []) _
 cases zY with
 | nil =>
  rw [zAO.eq_1] at H
  refine Tr.sr (Tr.va rfl (fun _ _ a c => QI (a.ev rfl) (a.ev rfl)) ?_)
  refine Tr.nil (Tr.zA (Tr.seq (Tr.WL rfl (JS QF) ?_)))
  refine Tr.exit (Tr.zk (Tr.zk (Tr.QV (Tr.zA (Tr.sr (Tr.mv rfl rfl (Tr.asg rfl rfl (Tr.nil (Tr.zA (Tr.ret ?_))))))))))
  obtain rfl := oI H
  exact Tr.out (m := [sv zD2]) [] (zW rfl zX) (fun W hW => ⟨rfl, hW.low leB⟩)
 | cons xL1 zY =>
  rw [zAO.eq_2] at H
  refine Tr.sr (Tr.va rfl (fun _ _ a c => QI (a.ev rfl) (a.ev rfl)) ?_)
  refine Tr.nil (Tr.zA (Tr.seq (Tr.WK rfl (Jt QF) ?_)))
  refine Tr.skip (Tr.zA (Tr.seq (Tr.block (Tr.sr (Tr.va rfl (fun _ _ a c => zM zLi (a.ev rfl) zU.form (a.ev rfl) (Int.natCast_nonneg _) (QB QF)) ?_)))))
  refine Tr.va rfl (fun _ _ a c => zZ (cs := [iv xL1.X, iv xL1.Y]) VP Js (a.ev rfl) (zR.take (rdF zCY zU (KL QF) c) 2) rfl) ?_
  refine Tr.alloc 3 (wn rfl) rfl zIo fun znd => ?_
  refine Tr.store 3 (cs := [iv xL1.X, iv xL1.Y]) [iv xL1.X, iv xL1.Y] (wn rfl) rfl rfl rfl rfl Js rfl rfl rfl ?_
  refine Tr.nil (Tr.zA (Tr.draw (by kernel_rfl) (by kernel_rfl) ?_))
  refine Tq.mv rfl rfl (Tq.va rfl (fun _ _ a c => zB Vm (a.ev rfl)) ?_)
  refine Tq.va rfl (fun _ _ a c => zF QH (a.ev rfl) (rdb c (vs := [iv xL1.X, iv xL1.Y]) (k := 3) rfl 0) rfl) ?_
  obtain ⟨zRX, zZh, H⟩ := bnd H
  refine Tq.JI (r := (sv zRX)) (wn rfl) rfl Tryz.call46 (zI rfl zT) (fun W hW => zDq xL1.X zRX zZh (HF.start _)) ?_
  obtain ⟨zho, ht125, H⟩ := bnd H
  refine Tq.va rfl (fun _ _ a c => VS (a.ev rfl) (a.ev rfl) ht125) ?_
  obtain ⟨zhn, ht126, H⟩ := bnd H
  refine Tq.va rfl (fun _ _ a c => VS (a.ev rfl) (a.ev rfl) ht126) ?_
  refine Tq.va rfl (fun _ _ a c => zB VZ (a.ev rfl)) ?_
  refine Tq.va rfl (fun _ _ a c => zF QH (a.ev rfl) (rdb c (vs := [iv xL1.X, iv xL1.Y]) (k := 3) rfl 1) rfl) ?_
  obtain ⟨zE0, zTv, H⟩ := bnd H
  refine Tq.JI (r := (sv zE0)) (wn rfl) rfl Tryz.call46 (zI rfl zT) (fun W hW => zDq xL1.Y zE0 zTv (HF.start _)) ?_
  obtain ⟨zhm, ht128, H⟩ := bnd H
  refine Tq.va rfl (fun _ _ a c => VS (a.ev rfl) (a.ev rfl) ht128) ?_
  obtain ⟨zdw, ht129, H⟩ := bnd H
  refine Tq.va rfl (fun _ _ a c => VS (a.ev rfl) (a.ev rfl) ht129) ?_
  refine Tq.asg rfl rfl (Tq.nil (Tr.zl (Tr.zA (Tr.region (Tr.va rfl (fun _ _ a c => QK (a.ev rfl) (a.ev rfl)) ?_)))))
  exact Tr.mv rfl rfl (Tr.nil (Tr.zn Qd (zY, (iL1 + 1), zdw) ⟨rfl, Qu QF, QB QF, H⟩ (.cons rfl (.cons rfl (.cons rfl (.cons (congrArg (fun z => some (Value.int .i64 z)) (Qt QF zU.form)) .nil)))) .nil))

theorem zID (N : Nat) (rec : ByteArray → (List zG) → Option ByteArray) (hrec : ∀ {w : Bs} (p0 : ByteArray) (zC : Option Addr) (zD : Nat) (bp0 : Nat) (p1 : (List zG)) (zh : Option Addr) (zg : Nat) (Qh : Sl w.R w.W zH zh zg p1) (r : ByteArray) (H : rec p0 p1 = some r) (hE : HF w w.W (LEn [sb 95 5 bp0 zC zD p0])), Calls Tryz.prog 48 [pV bp0, sL zh p1 zg].toArray w.W fun e W' => ∃ u : (Option Addr × Nat), e = .returned (.tuple #[]) ∧ (True) ∧ HF w W' (LEn [sb 95 5 bp0 u.1 u.2 r])) {w : Bs} (p0 : ByteArray) (zC : Option Addr) (zD : Nat) (bp0 : Nat) (p1 : (List zG)) (zh : Option Addr) (zg : Nat) (Qh : Sl w.R w.W zH zh zg p1) (r : ByteArray) (H : zCo N rec p0 p1 = some r) (hE : HF w w.W (LEn [sb 95 5 bp0 zC zD p0])) : Calls Tryz.prog 48 [pV bp0, sL zh p1 zg].toArray w.W fun e W' => ∃ u : (Option Addr × Nat), e = .returned (.tuple #[]) ∧ (True) ∧ HF w W' (LEn [sb 95 5 bp0 u.1 u.2 r]) := by
 unfold zCo at H
 have leB := Bs.Le.refl w
 refine Tr.enter (n := 91) Tryz.func48 rfl rfl rfl hE ?_
 refine Tr.sr (Tr.mv rfl rfl (Tr.va rfl (fun _ _ a c => QJ zGV (a.ev rfl)) ?_))
 refine Tr.mv rfl rfl (Tr.nil (Tr.zA (Tr.block (Tr.loop (σ := (List zG) × Nat × ByteArray × (Option Addr) × Nat) (fun m w s => m = s.1.length + 1 ∧ s.1 = List.drop s.2.1 p1 ∧ s.2.1 ≤ p1.length ∧ Qo rec s.1 s.2.1 s.2.2.1 = some r) (fun s => [(0, pV bp0), (6, sL zh p1 zg), (7, iv (p1.length : Int)), (8, iv (s.2.1 : Int))]) (fun s => [(0, sb 95 5 bp0 s.2.2.2.1 s.2.2.2.2 s.2.2.1)]) (p1.length + 1) (p1, 0, p0, zC, zD) ⟨rfl, rfl, Nat.zero_le _, H⟩ (.cons rfl (.cons rfl (.cons rfl (.cons rfl .nil)))) (.cons rfl .nil) (fun _ _ h => absurd h.1 (by simp)) ?_))))
 intro w Qd m s hs
 obtain ⟨zY, iL1, m194, Am194, cm194⟩ := s
 obtain ⟨Kj, QF, hiL1, H⟩ := hs
 replace QF : zY = List.drop iL1 p1 := QF
 replace H : Qo rec zY iL1 m194 = some r := H
 replace Kj : m + 1 = zY.length + 1 := Kj
 replace Qh := Qh.leR Qd
 replace leB := leB.trans Qd
 obtain rfl : m = zY.length := by omega
 clear Kj
 show Tr _ _ (LF [(0, pV bp0), (6, sL zh p1 zg), (7, iv (p1.length : Int)), (8, iv (iL1 : Int))]) (LE [(0, sb 95 5 bp0 Am194 cm194 m194)]) _
 cases zY with
 | nil =>
  rw [Qo.eq_1] at H
  refine Tr.sr (Tr.va rfl (fun _ _ a c => QI (a.ev rfl) (a.ev rfl)) ?_)
  refine Tr.nil (Tr.zA (Tr.seq (Tr.WL rfl (JS QF) ?_)))
  refine Tr.exit (Tr.zk (Tr.zk (Tr.QV (Tr.zRp ?_))))
  obtain rfl := oI H
  exact Tr.out (m := []) [] zX (fun W hW => ⟨(Am194, cm194), rfl, trivial, HF.zFO leB (hW.pick (ks := [0]) (by decide) (zQ rfl zf)) ⟨zd4, trivial⟩⟩)
 | cons xL1 zY =>
  rw [Qo.eq_2] at H
  refine Tr.sr (Tr.va rfl (fun _ _ a c => QI (a.ev rfl) (a.ev rfl)) ?_)
  refine Tr.nil (Tr.zA (Tr.seq (Tr.WK rfl (Jt QF) ?_)))
  refine Tr.skip (Tr.zA (Tr.seq (Tr.block (Tr.sr ?_))))
  obtain ⟨zmM, hRu195, zb9, hcu195⟩ := (Qh).el (KL QF)
  obtain ⟨⟨zBe, zBZ⟩, ⟨zBd, zBY⟩⟩ := zmM
  obtain ⟨zMb, zMa⟩ := Kn.1 zb9
  replace zMb : Sl w.R w.W QU zBe zBZ xL1.Points := zMb
  replace zMa : Sl w.R w.W zH zBd zBY xL1.Steps := zMa
  refine Tr.va rfl (fun _ _ a c => zM zFH (a.ev rfl) Qh.form (a.ev rfl) (Int.natCast_nonneg _) (QB QF)) ?_
  refine Tr.va rfl (fun _ _ a c => zZ (cs := [iv xL1.Kind, sv xL1.Name, iv xL1.At.X, iv xL1.At.Y, sL zBe xL1.Points zBZ, iv xL1.NX, iv xL1.NY, sL zBd xL1.Steps zBY]) zP6 zGW (a.ev rfl) (zR.take (rdR hRu195 hcu195 c) 8) rfl) ?_
  refine Tr.alloc 11 (wn rfl) rfl zV4 fun znU => ?_
  refine Tr.store 11 (cs := [iv xL1.Kind, sv xL1.Name, iv xL1.At.X, iv xL1.At.Y, sL zBe xL1.Points zBZ, iv xL1.NX, iv xL1.NY, sL zBd xL1.Steps zBY]) [iv xL1.Kind, sv xL1.Name, iv xL1.At.X, iv xL1.At.Y, sL zBe xL1.Points zBZ, iv xL1.NX, iv xL1.NY, sL zBd xL1.Steps zBY] (wn rfl) rfl rfl rfl rfl zGW rfl rfl rfl ?_
  refine Tr.nil (Tr.zA (Tr.sr (Tr.va rfl (fun _ _ a c => zB zHv (a.ev rfl)) ?_)))
  refine Tr.va rfl (fun _ _ a c => zF QH (a.ev rfl) (rdb c (vs := [iv xL1.Kind, sv xL1.Name, iv xL1.At.X, iv xL1.At.Y, sL zBe xL1.Points zBZ, iv xL1.NX, iv xL1.NY, sL zBd xL1.Steps zBY]) (k := 11) rfl 0) rfl) ?_
  refine Tr.nil (Tr.zA (Tr.block (Tr.sr (Tr.va rfl (fun _ _ a c => Qn (a.ev rfl) (a.ev rfl)) ?_))))
  refine Tr.asg rfl rfl (Tr.nil (Tr.zA (Tr.cond rfl H (fun H => ?_) (fun H => ?_))))
  ·refine Tr.region (Tr.mv rfl rfl ?_)
   obtain ⟨zXg, ziz, H⟩ := bnd H
   refine Tr.VM [0] [sb 95 5 bp0 Am194 cm194 m194] (U := (Option Addr × Nat)) (fun u => (.tuple #[iv (((⟨#[100, 97, 114, 107, 10]⟩) : ByteArray).size : Int), .nilIface])) (fun u => True) (fun u => [sb 95 5 bp0 u.1 u.2 zXg]) rfl (zQ rfl zf) (fun _ => rfl) (wn rfl) rfl Tryz.call45 (zI rfl (zI rfl zT)) (fun W hW hp hE => QL m194 Am194 cm194 bp0 (⟨#[100, 97, 114, 107, 10]⟩) zXg ziz hE) ?_
   intro u hu
   obtain ⟨zXR, zWz⟩ := u
   have gy197_0 := hu
   have zkh : True := gy197_0 --@phi
   show Tr _ _ (uf _ 17 (.tuple #[iv (((⟨#[100, 97, 114, 107, 10]⟩) : ByteArray).size : Int), .nilIface])) (up _ 0 (sb 95 5 bp0 zXR zWz zXg)) _
   refine Tr.nil (Tr.zl (Tr.zl (Tr.zA (Tr.region (Tr.va rfl (fun _ _ a c => QK (a.ev rfl) (a.ev rfl)) ?_)))))
   exact Tr.mv rfl rfl (Tr.nil (Tr.zn Qd (zY, (iL1 + 1), zXg, zXR, zWz) ⟨rfl, Qu QF, QB QF, H⟩ (.cons rfl (.cons rfl (.cons rfl (.cons (congrArg (fun z => some (Value.int .i64 z)) (Qt QF Qh.form)) .nil)))) (.cons rfl .nil)))
  ·refine Tr.sr (Tr.va rfl (fun _ _ a c => Qn (a.ev rfl) (a.ev rfl)) ?_)
   refine Tr.asg rfl rfl (Tr.nil (Tr.zA (Tr.cond rfl H (fun H => ?_) (fun H => ?_))))
   ·refine Tr.region (Tr.mv rfl rfl ?_)
    obtain ⟨zXf, ziy, H⟩ := bnd H
    refine Tr.VM [0] [sb 95 5 bp0 Am194 cm194 m194] (U := (Option Addr × Nat)) (fun u => (.tuple #[iv (((⟨#[99, 108, 101, 97, 114, 10]⟩) : ByteArray).size : Int), .nilIface])) (fun u => True) (fun u => [sb 95 5 bp0 u.1 u.2 zXf]) rfl (zQ rfl zf) (fun _ => rfl) (wn rfl) rfl Tryz.call45 (zI rfl (zI rfl zT)) (fun W hW hp hE => QL m194 Am194 cm194 bp0 (⟨#[99, 108, 101, 97, 114, 10]⟩) zXf ziy hE) ?_
    intro u hu
    obtain ⟨zXQ, zWy⟩ := u
    have gy199_0 := hu
    have zkg : True := gy199_0 --@phi
    show Tr _ _ (uf _ 21 (.tuple #[iv (((⟨#[99, 108, 101, 97, 114, 10]⟩) : ByteArray).size : Int), .nilIface])) (up _ 0 (sb 95 5 bp0 zXQ zWy zXf)) _
    refine Tr.nil (Tr.zl (Tr.zl (Tr.zA (Tr.region (Tr.va rfl (fun _ _ a c => QK (a.ev rfl) (a.ev rfl)) ?_)))))
    exact Tr.mv rfl rfl (Tr.nil (Tr.zn Qd (zY, (iL1 + 1), zXf, zXQ, zWy) ⟨rfl, Qu QF, QB QF, H⟩ (.cons rfl (.cons rfl (.cons rfl (.cons (congrArg (fun z => some (Value.int .i64 z)) (Qt QF Qh.form)) .nil)))) (.cons rfl .nil)))
   ·refine Tr.sr (Tr.va rfl (fun _ _ a c => Qn (a.ev rfl) (a.ev rfl)) ?_)
    refine Tr.asg rfl rfl (Tr.nil (Tr.zA (Tr.cond rfl H (fun H => ?_) (fun H => ?_))))
    ·refine Tr.region (Tr.mv rfl rfl (Tr.va rfl (fun _ _ a c => zB zJ4 (a.ev rfl)) ?_))
     refine Tr.va rfl (fun _ _ a c => zF zKy (a.ev rfl) (rdb c (vs := [iv xL1.Kind, sv xL1.Name, iv xL1.At.X, iv xL1.At.Y, sL zBe xL1.Points zBZ, iv xL1.NX, iv xL1.NY, sL zBd xL1.Steps zBY]) (k := 11) rfl 1) rfl) ?_
     obtain ⟨t201, ht201, H⟩ := bnd H
     refine Tr.va rfl (fun _ _ a c => VS (a.ev rfl) (a.ev rfl) ht201) ?_
     obtain ⟨zYi, ht202, H⟩ := bnd H
     refine Tr.va rfl (fun _ _ a c => VS (a.ev rfl) (a.ev rfl) ht202) ?_
     obtain ⟨zXe, zix, H⟩ := bnd H
     refine Tr.VM [0] [sb 95 5 bp0 Am194 cm194 m194] (U := (Option Addr × Nat)) (fun u => (.tuple #[iv ((zYi : ByteArray).size : Int), .nilIface])) (fun u => True) (fun u => [sb 95 5 bp0 u.1 u.2 zXe]) rfl (zQ rfl zf) (fun _ => rfl) (wn rfl) rfl Tryz.call45 (zI rfl (zI rfl zT)) (fun W hW hp hE => QL m194 Am194 cm194 bp0 zYi zXe zix hE) ?_
     intro u hu
     obtain ⟨zXP, zWx⟩ := u
     have gy203_0 := hu
     have zkf : True := gy203_0 --@phi
     show Tr _ _ (uf _ 29 (.tuple #[iv ((zYi : ByteArray).size : Int), .nilIface])) (up _ 0 (sb 95 5 bp0 zXP zWx zXe)) _
     refine Tr.nil (Tr.zl (Tr.zl (Tr.zA (Tr.region (Tr.va rfl (fun _ _ a c => QK (a.ev rfl) (a.ev rfl)) ?_)))))
     exact Tr.mv rfl rfl (Tr.nil (Tr.zn Qd (zY, (iL1 + 1), zXe, zXP, zWx) ⟨rfl, Qu QF, QB QF, H⟩ (.cons rfl (.cons rfl (.cons rfl (.cons (congrArg (fun z => some (Value.int .i64 z)) (Qt QF Qh.form)) .nil)))) (.cons rfl .nil)))
    ·refine Tr.sr (Tr.va rfl (fun _ _ a c => Qn (a.ev rfl) (a.ev rfl)) ?_)
     refine Tr.asg rfl rfl (Tr.nil (Tr.zA (Tr.cond rfl H (fun H => ?_) (fun H => ?_))))
     ·refine Tr.region (Tr.mv rfl rfl (Tr.va rfl (fun _ _ a c => zB zDh (a.ev rfl)) ?_))
      refine Tr.va rfl (fun _ _ a c => zZ (cs := [iv xL1.At.X, iv xL1.At.Y]) VP Js (a.ev rfl) (zR.take (rdb c (vs := [iv xL1.Kind, sv xL1.Name, iv xL1.At.X, iv xL1.At.Y, sL zBe xL1.Points zBZ, iv xL1.NX, iv xL1.NY, sL zBd xL1.Steps zBY]) (k := 11) rfl 2) 2) rfl) ?_
      refine Tr.buildSlice 12 (e := 43) (vs := [(0, .agg #[iv xL1.At.X, iv xL1.At.Y])]) (cs := [iv xL1.At.X, iv xL1.At.Y]) (wn rfl) rfl (zq rfl Qi) (by kernel_rfl) fun zm1 => ?_
      refine Tr.own 12 QU [xL1.At] (css := [[iv xL1.At.X, iv xL1.At.Y]]) rfl (.cons ⟨(), trivial, rfl⟩ .nil) rfl (by decide) (zCR rfl) ?_
      obtain ⟨zbT, ziw, H⟩ := bnd H
      refine Tr.JI (r := (sv zbT)) (wn rfl) rfl Tryz.call47 (zI rfl zT) (fun W hW => zAN [xL1.At] (some ⟨zm1, 0, none⟩) 1 (hW.zEA (k := 12) rfl) zbT ziw (HF.start _)) ?_
      obtain ⟨zhl, ht207, H⟩ := bnd H
      refine Tr.va rfl (fun _ _ a c => VS (a.ev rfl) (a.ev rfl) ht207) ?_
      obtain ⟨t208, ht208, H⟩ := bnd H
      refine Tr.va rfl (fun _ _ a c => VS (a.ev rfl) (a.ev rfl) ht208) ?_
      obtain ⟨zMF, zZe, H⟩ := bnd H
      refine Tr.VM [0] [sb 95 5 bp0 Am194 cm194 m194] (U := (Option Addr × Nat)) (fun u => (.tuple #[iv ((t208 : ByteArray).size : Int), .nilIface])) (fun u => True) (fun u => [sb 95 5 bp0 u.1 u.2 zMF]) rfl (zQ rfl zf) (fun _ => rfl) (wn rfl) rfl Tryz.call45 (zI rfl (zI rfl zT)) (fun W hW hp hE => QL m194 Am194 cm194 bp0 t208 zMF zZe hE) ?_
      intro u hu
      obtain ⟨zL7, zLk⟩ := u
      have gy209_0 := hu
      have zaN : True := gy209_0 --@phi
      show Tr _ _ (uf _ 39 (.tuple #[iv ((t208 : ByteArray).size : Int), .nilIface])) (up _ 0 (sb 95 5 bp0 zL7 zLk zMF)) _
      refine Tr.nil (Tr.zl (Tr.zl (Tr.zA (Tr.region (Tr.va rfl (fun _ _ a c => QK (a.ev rfl) (a.ev rfl)) ?_)))))
      exact Tr.mv rfl rfl (Tr.nil (Tr.zn Qd (zY, (iL1 + 1), zMF, zL7, zLk) ⟨rfl, Qu QF, QB QF, H⟩ (.cons rfl (.cons rfl (.cons rfl (.cons (congrArg (fun z => some (Value.int .i64 z)) (Qt QF Qh.form)) .nil)))) (.cons rfl .nil)))
     ·refine Tr.sr (Tr.va rfl (fun _ _ a c => Qn (a.ev rfl) (a.ev rfl)) ?_)
      refine Tr.asg rfl rfl (Tr.nil (Tr.zA (Tr.cond rfl H (fun H => ?_) (fun H => ?_))))
      ·refine Tr.region (Tr.mv rfl rfl (Tr.va rfl (fun _ _ a c => zB zDh (a.ev rfl)) ?_))
       refine Tr.va rfl (fun _ _ a c => zZ (cs := [iv xL1.At.X, iv xL1.At.Y]) VP Js (a.ev rfl) (zR.take (rdb c (vs := [iv xL1.Kind, sv xL1.Name, iv xL1.At.X, iv xL1.At.Y, sL zBe xL1.Points zBZ, iv xL1.NX, iv xL1.NY, sL zBd xL1.Steps zBY]) (k := 11) rfl 2) 2) rfl) ?_
       refine Tr.buildSlice 13 (e := 43) (vs := [(0, .agg #[iv xL1.At.X, iv xL1.At.Y])]) (cs := [iv xL1.At.X, iv xL1.At.Y]) (wn rfl) rfl (zq rfl Qi) (by kernel_rfl) fun zlL => ?_
       refine Tr.own 13 QU [xL1.At] (css := [[iv xL1.At.X, iv xL1.At.Y]]) rfl (.cons ⟨(), trivial, rfl⟩ .nil) rfl (by decide) (zCR rfl) ?_
       obtain ⟨zDU, zZd, H⟩ := bnd H
       refine Tr.JI (r := (sv zDU)) (wn rfl) rfl Tryz.call47 (zI rfl zT) (fun W hW => zAN [xL1.At] (some ⟨zlL, 0, none⟩) 1 (hW.zEA (k := 13) rfl) zDU zZd (HF.start _)) ?_
       obtain ⟨t213, ht213, H⟩ := bnd H
       refine Tr.va rfl (fun _ _ a c => VS (a.ev rfl) (a.ev rfl) ht213) ?_
       obtain ⟨zYh, ht214, H⟩ := bnd H
       refine Tr.va rfl (fun _ _ a c => VS (a.ev rfl) (a.ev rfl) ht214) ?_
       obtain ⟨zXc, zit, H⟩ := bnd H
       refine Tr.VM [0] [sb 95 5 bp0 Am194 cm194 m194] (U := (Option Addr × Nat)) (fun u => (.tuple #[iv ((zYh : ByteArray).size : Int), .nilIface])) (fun u => True) (fun u => [sb 95 5 bp0 u.1 u.2 zXc]) rfl (zQ rfl zf) (fun _ => rfl) (wn rfl) rfl Tryz.call45 (zI rfl (zI rfl zT)) (fun W hW hp hE => QL m194 Am194 cm194 bp0 zYh zXc zit hE) ?_
       intro u hu
       obtain ⟨zXN, zWv⟩ := u
       have gy215_0 := hu
       have zkd : True := gy215_0 --@phi
       show Tr _ _ (uf _ 49 (.tuple #[iv ((zYh : ByteArray).size : Int), .nilIface])) (up _ 0 (sb 95 5 bp0 zXN zWv zXc)) _
       refine Tr.nil (Tr.zl (Tr.zl (Tr.zA (Tr.region (Tr.va rfl (fun _ _ a c => QK (a.ev rfl) (a.ev rfl)) ?_)))))
       exact Tr.mv rfl rfl (Tr.nil (Tr.zn Qd (zY, (iL1 + 1), zXc, zXN, zWv) ⟨rfl, Qu QF, QB QF, H⟩ (.cons rfl (.cons rfl (.cons rfl (.cons (congrArg (fun z => some (Value.int .i64 z)) (Qt QF Qh.form)) .nil)))) (.cons rfl .nil)))
      ·refine Tr.sr (Tr.va rfl (fun _ _ a c => Qn (a.ev rfl) (a.ev rfl)) ?_)
       refine Tr.asg rfl rfl (Tr.nil (Tr.zA (Tr.cond rfl H (fun H => ?_) (fun H => ?_))))
       ·refine Tr.region (Tr.mv rfl rfl (Tr.va rfl (fun _ _ a c => zB zDh (a.ev rfl)) ?_))
        refine Tr.va rfl (fun _ _ a c => zZ (cs := [iv xL1.At.X, iv xL1.At.Y]) VP Js (a.ev rfl) (zR.take (rdb c (vs := [iv xL1.Kind, sv xL1.Name, iv xL1.At.X, iv xL1.At.Y, sL zBe xL1.Points zBZ, iv xL1.NX, iv xL1.NY, sL zBd xL1.Steps zBY]) (k := 11) rfl 2) 2) rfl) ?_
        refine Tr.buildSlice 14 (e := 43) (vs := [(0, .agg #[iv xL1.At.X, iv xL1.At.Y])]) (cs := [iv xL1.At.X, iv xL1.At.Y]) (wn rfl) rfl (zq rfl Qi) (by kernel_rfl) fun zmz => ?_
        refine Tr.own 14 QU [xL1.At] (css := [[iv xL1.At.X, iv xL1.At.Y]]) rfl (.cons ⟨(), trivial, rfl⟩ .nil) rfl (by decide) (zCR rfl) ?_
        obtain ⟨zXb, zis, H⟩ := bnd H
        refine Tr.JI (r := (sv zXb)) (wn rfl) rfl Tryz.call47 (zI rfl zT) (fun W hW => zAN [xL1.At] (some ⟨zmz, 0, none⟩) 1 (hW.zEA (k := 14) rfl) zXb zis (HF.start _)) ?_
        obtain ⟨zhk, ht219, H⟩ := bnd H
        refine Tr.va rfl (fun _ _ a c => VS (a.ev rfl) (a.ev rfl) ht219) ?_
        obtain ⟨zYg, ht220, H⟩ := bnd H
        refine Tr.va rfl (fun _ _ a c => VS (a.ev rfl) (a.ev rfl) ht220) ?_
        obtain ⟨zXa, zir, H⟩ := bnd H
        refine Tr.VM [0] [sb 95 5 bp0 Am194 cm194 m194] (U := (Option Addr × Nat)) (fun u => (.tuple #[iv ((zYg : ByteArray).size : Int), .nilIface])) (fun u => True) (fun u => [sb 95 5 bp0 u.1 u.2 zXa]) rfl (zQ rfl zf) (fun _ => rfl) (wn rfl) rfl Tryz.call45 (zI rfl (zI rfl zT)) (fun W hW hp hE => QL m194 Am194 cm194 bp0 zYg zXa zir hE) ?_
        intro u hu
        obtain ⟨zXM, zWu⟩ := u
        have gy221_0 := hu
        have zkc : True := gy221_0 --@phi
        show Tr _ _ (uf _ 59 (.tuple #[iv ((zYg : ByteArray).size : Int), .nilIface])) (up _ 0 (sb 95 5 bp0 zXM zWu zXa)) _
        refine Tr.nil (Tr.zl (Tr.zl (Tr.zA (Tr.region (Tr.va rfl (fun _ _ a c => QK (a.ev rfl) (a.ev rfl)) ?_)))))
        exact Tr.mv rfl rfl (Tr.nil (Tr.zn Qd (zY, (iL1 + 1), zXa, zXM, zWu) ⟨rfl, Qu QF, QB QF, H⟩ (.cons rfl (.cons rfl (.cons rfl (.cons (congrArg (fun z => some (Value.int .i64 z)) (Qt QF Qh.form)) .nil)))) (.cons rfl .nil)))
       ·refine Tr.sr (Tr.va rfl (fun _ _ a c => Qn (a.ev rfl) (a.ev rfl)) ?_)
        refine Tr.asg rfl rfl (Tr.nil (Tr.zA (Tr.cond rfl H (fun H => ?_) (fun H => ?_))))
        ·refine Tr.region (Tr.mv rfl rfl (Tr.va rfl (fun _ _ a c => zB zCW (a.ev rfl)) ?_))
         refine Tr.va rfl (fun _ _ a c => zF zIW (a.ev rfl) (rdb c (vs := [iv xL1.Kind, sv xL1.Name, iv xL1.At.X, iv xL1.At.Y, sL zBe xL1.Points zBZ, iv xL1.NX, iv xL1.NY, sL zBd xL1.Steps zBY]) (k := 11) rfl 4) rfl) ?_
         obtain ⟨zbS, ziq, H⟩ := bnd H
         refine Tr.JI (r := (sv zbS)) (wn rfl) rfl Tryz.call47 (zI rfl zT) (fun W hW => zAN xL1.Points zBe zBZ (zMb.ext hW.Qx) zbS ziq (HF.start _)) ?_
         obtain ⟨zhj, ht224, H⟩ := bnd H
         refine Tr.va rfl (fun _ _ a c => VS (a.ev rfl) (a.ev rfl) ht224) ?_
         obtain ⟨zYf, ht225, H⟩ := bnd H
         refine Tr.va rfl (fun _ _ a c => VS (a.ev rfl) (a.ev rfl) ht225) ?_
         obtain ⟨zXZ, zio, H⟩ := bnd H
         refine Tr.VM [0] [sb 95 5 bp0 Am194 cm194 m194] (U := (Option Addr × Nat)) (fun u => (.tuple #[iv ((zYf : ByteArray).size : Int), .nilIface])) (fun u => True) (fun u => [sb 95 5 bp0 u.1 u.2 zXZ]) rfl (zQ rfl zf) (fun _ => rfl) (wn rfl) rfl Tryz.call45 (zI rfl (zI rfl zT)) (fun W hW hp hE => QL m194 Am194 cm194 bp0 zYf zXZ zio hE) ?_
         intro u hu
         obtain ⟨zXL, zWt⟩ := u
         have gy226_0 := hu
         have zkb : True := gy226_0 --@phi
         show Tr _ _ (uf _ 68 (.tuple #[iv ((zYf : ByteArray).size : Int), .nilIface])) (up _ 0 (sb 95 5 bp0 zXL zWt zXZ)) _
         refine Tr.nil (Tr.zl (Tr.zl (Tr.zA (Tr.region (Tr.va rfl (fun _ _ a c => QK (a.ev rfl) (a.ev rfl)) ?_)))))
         exact Tr.mv rfl rfl (Tr.nil (Tr.zn Qd (zY, (iL1 + 1), zXZ, zXL, zWt) ⟨rfl, Qu QF, QB QF, H⟩ (.cons rfl (.cons rfl (.cons rfl (.cons (congrArg (fun z => some (Value.int .i64 z)) (Qt QF Qh.form)) .nil)))) (.cons rfl .nil)))
        ·refine Tr.sr (Tr.va rfl (fun _ _ a c => Qn (a.ev rfl) (a.ev rfl)) ?_)
         refine Tr.asg rfl rfl (Tr.nil (Tr.zA (Tr.cond rfl H (fun H => ?_) (fun H => ?_))))
         ·refine Tr.sr (Tr.mv rfl rfl (Tr.va rfl (fun _ _ a c => zB zLg (a.ev rfl)) ?_))
          refine Tr.va rfl (fun _ _ a c => zF QH (a.ev rfl) (rdb c (vs := [iv xL1.Kind, sv xL1.Name, iv xL1.At.X, iv xL1.At.Y, sL zBe xL1.Points zBZ, iv xL1.NX, iv xL1.NY, sL zBd xL1.Steps zBY]) (k := 11) rfl 5) rfl) ?_
          refine Tr.va rfl (fun _ _ a c => zB zLf (a.ev rfl)) ?_
          refine Tr.va rfl (fun _ _ a c => zF QH (a.ev rfl) (rdb c (vs := [iv xL1.Kind, sv xL1.Name, iv xL1.At.X, iv xL1.At.Y, sL zBe xL1.Points zBZ, iv xL1.NX, iv xL1.NY, sL zBd xL1.Steps zBY]) (k := 11) rfl 6) rfl) ?_
          refine Tr.build (vs := [(0, iv xL1.NX), (1, iv xL1.NY)]) (cs := [iv xL1.NX, iv xL1.NY]) (wn rfl) rfl (zq rfl (zq rfl Qi)) (by kernel_rfl) ?_
          refine Tr.va rfl (fun _ _ a c => zB zDh (a.ev rfl)) ?_
          refine Tr.va rfl (fun _ _ a c => zZ (cs := [iv xL1.At.X, iv xL1.At.Y]) VP Js (a.ev rfl) (zR.take (rdb c (vs := [iv xL1.Kind, sv xL1.Name, iv xL1.At.X, iv xL1.At.Y, sL zBe xL1.Points zBZ, iv xL1.NX, iv xL1.NY, sL zBd xL1.Steps zBY]) (k := 11) rfl 2) 2) rfl) ?_
          refine Tr.buildSlice 15 (e := 43) (vs := [(0, .agg #[iv xL1.NX, iv xL1.NY]), (1, .agg #[iv xL1.At.X, iv xL1.At.Y])]) (cs := [iv xL1.NX, iv xL1.NY, iv xL1.At.X, iv xL1.At.Y]) (wn rfl) rfl (zq rfl (zq rfl Qi)) (by kernel_rfl) fun zmy => ?_
          refine Tr.own 15 QU [(zJ.mk xL1.NX xL1.NY), xL1.At] (css := [[iv xL1.NX, iv xL1.NY], [iv xL1.At.X, iv xL1.At.Y]]) rfl (.cons ⟨(), trivial, rfl⟩ (.cons ⟨(), trivial, rfl⟩ .nil)) rfl (by decide) (zCR rfl) ?_
          obtain ⟨zbR, zin, H⟩ := bnd H
          refine Tr.JI (r := (sv zbR)) (wn rfl) rfl Tryz.call47 (zI rfl zT) (fun W hW => zAN [(zJ.mk xL1.NX xL1.NY), xL1.At] (some ⟨zmy, 0, none⟩) 2 (hW.zEA (k := 15) rfl) zbR zin (HF.start _)) ?_
          obtain ⟨zhi, ht230, H⟩ := bnd H
          refine Tr.va rfl (fun _ _ a c => VS (a.ev rfl) (a.ev rfl) ht230) ?_
          obtain ⟨zYe, ht231, H⟩ := bnd H
          refine Tr.va rfl (fun _ _ a c => VS (a.ev rfl) (a.ev rfl) ht231) ?_
          obtain ⟨zUu, zim, H⟩ := bnd H
          refine Tr.VM [0] [sb 95 5 bp0 Am194 cm194 m194] (U := (Option Addr × Nat)) (fun u => (.tuple #[iv ((zYe : ByteArray).size : Int), .nilIface])) (fun u => True) (fun u => [sb 95 5 bp0 u.1 u.2 zUu]) rfl (zQ rfl zf) (fun _ => rfl) (wn rfl) rfl Tryz.call45 (zI rfl (zI rfl zT)) (fun W hW hp hE => QL m194 Am194 cm194 bp0 zYe zUu zim hE) ?_
          intro u hu
          obtain ⟨zSi, zSN⟩ := u
          have gy232_0 := hu
          have zka : True := gy232_0 --@phi
          show Tr _ _ (uf _ 83 (.tuple #[iv ((zYe : ByteArray).size : Int), .nilIface])) (up _ 0 (sb 95 5 bp0 zSi zSN zUu)) _
          refine Tr.nil (Tr.zA (Tr.sr (Tr.mv rfl rfl (Tr.va rfl (fun _ _ a c => zB zC4 (a.ev rfl)) ?_))))
          refine Tr.va rfl (fun _ _ a c => zF zDp (a.ev rfl) (rdb c (vs := [iv xL1.Kind, sv xL1.Name, iv xL1.At.X, iv xL1.At.Y, sL zBe xL1.Points zBZ, iv xL1.NX, iv xL1.NY, sL zBd xL1.Steps zBY]) (k := 11) rfl 7) rfl) ?_
          obtain ⟨zUt, zik, H⟩ := bnd H
          refine Tr.VM [0] [sb 95 5 bp0 zSi zSN zUu] (U := (Option Addr × Nat)) (fun u => (.tuple #[])) (fun u => True) (fun u => [sb 95 5 bp0 u.1 u.2 zUt]) rfl (zQ rfl zf) (fun _ => rfl) (wn rfl) rfl Tryz.call48 (zI rfl (zI rfl zT)) (fun W hW hp hE => hrec zUu zSi zSN bp0 xL1.Steps zBd zBY (zMa.ext (hW.QM hp)) zUt zik hE) ?_
          intro u hu
          obtain ⟨zSh, zSM⟩ := u
          have gy234_0 := hu
          have zkZ : True := gy234_0 --@phi
          show Tr _ _ (uf _ 87 (.tuple #[])) (up _ 0 (sb 95 5 bp0 zSh zSM zUt)) _
          refine Tr.nil (Tr.zA (Tr.region (Tr.mv rfl rfl ?_)))
          obtain ⟨zXY, zii, H⟩ := bnd H
          refine Tr.VM [0] [sb 95 5 bp0 zSh zSM zUt] (U := (Option Addr × Nat)) (fun u => (.tuple #[iv (((⟨#[100, 111, 110, 101, 10]⟩) : ByteArray).size : Int), .nilIface])) (fun u => True) (fun u => [sb 95 5 bp0 u.1 u.2 zXY]) rfl (zQ rfl zf) (fun _ => rfl) (wn rfl) rfl Tryz.call45 (zI rfl (zI rfl zT)) (fun W hW hp hE => QL zUt zSh zSM bp0 (⟨#[100, 111, 110, 101, 10]⟩) zXY zii hE) ?_
          intro u hu
          obtain ⟨zXK, zWs⟩ := u
          have gy236_0 := hu
          have zkX : True := gy236_0 --@phi
          show Tr _ _ (uf _ 89 (.tuple #[iv (((⟨#[100, 111, 110, 101, 10]⟩) : ByteArray).size : Int), .nilIface])) (up _ 0 (sb 95 5 bp0 zXK zWs zXY)) _
          refine Tr.nil (Tr.zl (Tr.zl (Tr.zA (Tr.region (Tr.va rfl (fun _ _ a c => QK (a.ev rfl) (a.ev rfl)) ?_)))))
          exact Tr.mv rfl rfl (Tr.nil (Tr.zn Qd (zY, (iL1 + 1), zXY, zXK, zWs) ⟨rfl, Qu QF, QB QF, H⟩ (.cons rfl (.cons rfl (.cons rfl (.cons (congrArg (fun z => some (Value.int .i64 z)) (Qt QF Qh.form)) .nil)))) (.cons rfl .nil)))
         ·refine Tr.skip (Tr.zl (Tr.zl (Tr.zA (Tr.region (Tr.va rfl (fun _ _ a c => QK (a.ev rfl) (a.ev rfl)) ?_)))))
          exact Tr.mv rfl rfl (Tr.nil (Tr.zn Qd (zY, (iL1 + 1), m194, Am194, cm194) ⟨rfl, Qu QF, QB QF, H⟩ (.cons rfl (.cons rfl (.cons rfl (.cons (congrArg (fun z => some (Value.int .i64 z)) (Qt QF Qh.form)) .nil)))) (.cons rfl .nil)))
theorem zEr : ∀ (N : Nat) {w : Bs} (p0 : ByteArray) (zC : Option Addr) (zD : Nat) (bp0 : Nat) (p1 : (List zG)) (zh : Option Addr) (zg : Nat) (Qh : Sl w.R w.W zH zh zg p1) (r : ByteArray) (H : zB0 N p0 p1 = some r) (hE : HF w w.W (LEn [sb 95 5 bp0 zC zD p0])), Calls Tryz.prog 48 [pV bp0, sL zh p1 zg].toArray w.W fun e W' => ∃ u : (Option Addr × Nat), e = .returned (.tuple #[]) ∧ (True) ∧ HF w W' (LEn [sb 95 5 bp0 u.1 u.2 r])
 | 0 => by intros; rename_i H _; cases H
 | N + 1 => zID N (zB0 N) (zEr N)

theorem zG3 {w : Bs} (p0 : ByteArray) (zC : Option Addr) (zD : Nat) (bp0 : Nat) (r : (Int × ByteArray)) (H : sbL p0 = some r) (hE : HF w w.W (LEn [sb 95 5 bp0 zC zD p0])) : Calls Tryz.prog 49 [pV bp0].toArray w.W fun e W' => ∃ u : (Option Addr × Nat), e = .returned (iv r.1) ∧ (True) ∧ HF w W' (LEn [sb 95 5 bp0 u.1 u.2 r.2]) :=
 zd3 (ρ := Tryz.zRO) Tryz.zlG H hE

end Go.Proofs.YtoageaoknnnfbaaGreatDoor
namespace Go.Proofs
open Go.Shelf
def Tryz.zMy : Go.Shelf.Ren := ⟨fun | 169 => 50 | n => n, fun | 5 => 5 | 37 => 93 | 70 => 92 | 72 => 95 | 127 => 132 | n => n, fun n => n⟩
theorem Tryz.zlF : Go.Proofs.Lays.n169 Tryz.prog Tryz.zMy := {
 mixed := by kernel_rfl
 f169 := Tryz.func50.trans (congrArg some (by kernel_rfl))
 t0 := Tryz.underlying0
 a0 := Tryz.isAgg0
 z0 := Tryz.sizeOf0
 v0 := Tryz.zeroValue0
 t3 := Tryz.underlying3
 a3 := Tryz.isAgg3
 z3 := Tryz.sizeOf3
 v3 := Tryz.zeroValue3
 t9 := Tryz.underlying9
 a9 := Tryz.isAgg9
 z9 := Tryz.sizeOf9
 v9 := Tryz.zeroValue9
 t37 := Tryz.underlying93
 a37 := Tryz.isAgg93
 z37 := Tryz.sizeOf93
 v37 := Tryz.zeroValue93
 t70 := Tryz.underlying92
 a70 := Tryz.isAgg92
 z70 := Tryz.sizeOf92
 v70 := Tryz.zeroValue92
 t72 := Tryz.underlying95
 a72 := Tryz.isAgg95
 z72 := Tryz.sizeOf95
 v72 := Tryz.zeroValue95
 t127 := Tryz.underlying132
 a127 := Tryz.isAgg132
 z127 := Tryz.sizeOf132
 v127 := Tryz.zeroValue132
}
end Go.Proofs
namespace Go.Proofs.YtoageaoknnnfbaaGreatDoor
open Go.RowKit
theorem zmt : Builder.Extra Tryz.prog Tryz.zMy where
 sizeBuilder := by kernel_rfl
 liesBuilder := by kernel_rfl
 t5 := Tryz.underlying5
 a5 := Tryz.isAgg5
 z5 := Tryz.sizeOf5
 v5 := Tryz.zeroValue5
 infoByte := by kernel_rfl
 cellsByte := by kernel_rfl
 sizeByte := by kernel_rfl
 neB5 := by decide
theorem zFY {w : Bs} (p0 : ByteArray) (zC : Option Addr) (zD : Nat) (bp0 : Nat) (r : (ByteArray × ByteArray)) (H : sbS p0 = some r) (hE : HF w w.W (LEn [sb 95 5 bp0 zC zD p0])) : Calls Tryz.prog 50 [pV bp0].toArray w.W fun e W' => ∃ u : (Option Addr × Nat), e = .returned (sv r.1) ∧ (True) ∧ HF w W' (LEn [sb 95 5 bp0 u.1 u.2 r.2]) :=
 zXq (ρ := Tryz.zMy) Tryz.zlF zmt H hE

end Go.Proofs.YtoageaoknnnfbaaGreatDoor
