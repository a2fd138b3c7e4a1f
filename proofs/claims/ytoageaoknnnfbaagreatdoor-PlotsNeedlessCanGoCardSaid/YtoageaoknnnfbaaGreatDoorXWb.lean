/- The walks: each function computes its plain function. -/
import Derived.Test.YtoageaoknnnfbaaGreatDoorXWa
namespace Go.Proofs.YtoageaoknnnfbaaGreatDoor
open Go.RowKit
set_option maxRecDepth 100000
set_option maxHeartbeats 1000000
theorem F_shape_SetOf_ok (N : Nat) {w : Bs} (p0 : (List zR)) (Ap0_0 : Option Addr) (cp0_0 : Nat) (hp0_0 : Sl w.R w.W zM Ap0_0 cp0_0 p0) (r : (List zS)) (H : F_shape_SetOf N p0 = some r) (hE : HF w w.W (LEn [emp])) : Calls Tryz.prog 59 [(.slice Ap0_0 (p0).length cp0_0)].toArray w.W fun e W' => ∃ (w' : Bs) (u : (Option Addr × Nat)), w.Le w' ∧ e = .returned (.slice u.1 (r).length u.2) ∧ (SlF u.1 (r).length u.2) ∧ HF w' W' (LEn [ow u.1 u.2 107 zH r]) := by
 unfold F_shape_SetOf at H
 have leB := Bs.Le.refl w
 refine Tr.enter (n := 83) Tryz.func59 rfl rfl rfl hE ?_
 refine Tr.sr ?_
 refine Tr.asg rfl rfl ?_
 refine Tr.nilOwn 1 107 zH ?_
 show Tr _ _ (uf _ 2 (.slice none (([] : List zS)).length 0)) _ _
 refine Tr.nil (Tr.zA ?_)
 refine Tr.sr ?_
 refine Tr.mv rfl rfl ?_
 obtain ⟨y100, hy100, H⟩ := bnd H
 refine Tr.callM [2] [emp] (U := (Option Addr × Nat)) (fun u => (.slice u.1 (y100).length u.2)) (fun u => SlF u.1 (y100).length u.2) (fun u => [ow u.1 u.2 36 zM y100]) rfl (zK rfl za) (fun _ => rfl) (wn rfl) rfl Tryz.call80 (zF rfl zN) (fun W hW hp hE => F_slices_Clone_Rect_ok p0 Ap0_0 cp0_0 (hp0_0.ext (hW.extS hp)) y100 hy100 hE) ?_
 intro u hu
 obtain ⟨Ay100_0, cy100_0⟩ := u
 have gy100_0 := hu
 have hgy100_0 : SlF Ay100_0 (y100).length cy100_0 := gy100_0 --@phi
 show Tr _ _ (uf _ 11 (.slice Ay100_0 (y100).length cy100_0)) (up _ 2 (ow Ay100_0 cy100_0 36 zM y100)) _
 refine Tr.asg rfl rfl ?_
 refine Tr.nil (Tr.zA ?_)
 refine Tr.sr ?_
 refine Tr.mv rfl rfl ?_
 obtain ⟨y102, hy102, H⟩ := bnd H
 refine Tr.callM [2] [ow Ay100_0 cy100_0 36 zM y100] (U := Unit) (fun u => (.tuple #[])) (fun u => (y102).length = (y100).length) (fun u => [ow Ay100_0 cy100_0 36 zM y102]) rfl (zK rfl za) (fun _ => rfl) (wn rfl) rfl Tryz.call81 (zF rfl (zF rfl zN)) (fun W hW hp hE => F_slices_SortFunc_TRect_ok y100 Ay100_0 cy100_0 (fun z0 z1 => F_shape_SetOf_1 z0 z1) 82 [] Tryz.call82 (fun w' he z0 z1 y hy => F_shape_SetOf_1_ok z0 z1 y hy (HF.start _)) y102 hy102 hE) ?_
 intro u hu
 have gky102_0 := hu
 have hgky102_0 : (y102).length = (y100).length := gky102_0 --@phi
 have hfky102_0 : SlF Ay100_0 (y102).length cy100_0 := by rw [hgky102_0]; exact hgy100_0
 show Tr _ _ (uf _ 13 (.tuple #[])) (up _ 2 (ow Ay100_0 cy100_0 36 zM y102)) _
 refine Tr.sel (lf := [(0, (.slice Ay100_0 (y102).length cy100_0)), (2, (.slice none (([] : List zS)).length 0)), (10, (.slice Ap0_0 (p0).length cp0_0)), (11, (.slice Ay100_0 (y102).length cy100_0)), (12, (.slice Ay100_0 (y102).length cy100_0)), (13, (.tuple #[]))]) (le := [(1, ow none 0 107 zH ([] : List zS)), (2, ow Ay100_0 cy100_0 36 zM y102)]) (.cons (slenV rfl (by rw [hgky102_0])) (.cons rfl (.cons rfl (.cons (slenV rfl (by rw [hgky102_0])) (.cons (slenV rfl (by rw [hgky102_0])) (.cons rfl .nil)))))) (.cons rfl (.cons rfl .nil)) ?_
 refine Tr.nil (Tr.zA ?_)
 refine Tr.sr ?_
 refine Tr.alloc 3 (wn rfl) rfl ze_38 fun b104 => ?_
 refine Tr.nil (Tr.zA ?_)
 refine Tr.seq ?_
 refine Tr.sr ?_
 refine Tr.mv rfl rfl ?_
 refine Tr.va rfl (fun _ _ h1 h2 => zl un_31 (h1.ev rfl)) ?_
 refine Tr.mv rfl rfl ?_
 refine Tr.nil (Tr.zA ?_)
 refine Tr.block ?_
 refine Tr.nilOwn 12 3 zX ?_
 refine Tr.loop (σ := (List zR) × Nat × (List Int) × (Option Addr) × Nat) (fun m w s => m = s.1.length + 1 ∧ s.1 = List.drop s.2.1 y102 ∧ s.2.1 ≤ y102.length ∧ F_shape_SetOf_L1 N y102 s.1 s.2.1 s.2.2.1 = some r ∧ SlF s.2.2.2.1 (s.2.2.1).length s.2.2.2.2) (fun s => [(0, (.slice Ay100_0 (y102).length cy100_0)), (3, (.pointer (some ⟨b104, 0, none⟩))), (14, (.slice Ay100_0 (y102).length cy100_0)), (15, (iv (y102.length : Int))), (16, (iv (s.2.1 : Int)))]) (fun s => [(2, ow Ay100_0 cy100_0 36 zM y102), (3, bx b104 #[(.slice s.2.2.2.1 (s.2.2.1).length s.2.2.2.2)] 38), (12, ow s.2.2.2.1 s.2.2.2.2 3 zX s.2.2.1)]) (y102.length + 1) (y102, 0, ([] : List Int), none, 0) ⟨rfl, rfl, Nat.zero_le _, H, slf_nil⟩ (.cons rfl (.cons rfl (.cons rfl (.cons rfl (.cons rfl .nil))))) (.cons rfl (.cons rfl (.cons rfl .nil))) (fun _ _ h => absurd h.1 (by simp)) ?_
 intro w leL1 m s hs
 obtain ⟨restL1, iL1, l119, Al119, cl119⟩ := s
 obtain ⟨hmL1, hdL1, hiL1, H, hl119⟩ := hs
 replace hdL1 : restL1 = List.drop iL1 y102 := hdL1
 replace H : F_shape_SetOf_L1 N y102 restL1 iL1 l119 = some r := H
 replace hmL1 : m + 1 = restL1.length + 1 := hmL1
 replace leB := leB.trans leL1
 replace hl119 : SlF Al119 (l119).length cl119 := hl119
 obtain rfl : m = restL1.length := by omega
 clear hmL1
 show Tr _ _ (LF [(0, (.slice Ay100_0 (y102).length cy100_0)), (3, (.pointer (some ⟨b104, 0, none⟩))), (14, (.slice Ay100_0 (y102).length cy100_0)), (15, (iv (y102.length : Int))), (16, (iv (iL1 : Int)))]) (LE [(2, ow Ay100_0 cy100_0 36 zM y102), (3, bx b104 #[(.slice Al119 (l119).length cl119)] 38), (12, ow Al119 cl119 3 zX l119)]) _
 cases restL1 with
 | nil =>
  rw [F_shape_SetOf_L1.eq_1] at H
  refine Tr.sr ?_
  refine Tr.va rfl (fun _ _ h1 h2 => zn (h1.ev rfl) (h1.ev rfl)) ?_
  refine Tr.nil (Tr.zA ?_)
  refine Tr.seq ?_
  refine Tr.condF rfl (range_nil hdL1) ?_
  refine Tr.exit (Tr.zV (Tr.zV (Tr.zw (Tr.zA ?_))))
  refine Tr.sr ?_
  refine Tr.va rfl (fun _ _ h1 h2 => zC ag_38 (h1.ev rfl) (rdb h2 (vs := [(.slice Al119 (l119).length cl119)]) (k := 3) rfl 0) rfl) ?_
  obtain ⟨y120, hy120, H⟩ := bnd H
  refine Tr.callM [12] [ow Al119 cl119 3 zX l119] (U := Unit) (fun u => (.tuple #[])) (fun u => (y120).length = (l119).length) (fun u => [ow Al119 cl119 3 zX y120]) rfl (zK rfl za) (fun _ => rfl) (wn rfl) rfl Tryz.call83 (zF rfl zN) (fun W hW hp hE => F_slices_Sort_int_ok l119 Al119 cl119 y120 hy120 hE) ?_
  intro u hu
  have gky120_0 := hu
  have hgky120_0 : (y120).length = (l119).length := gky120_0 --@phi
  have hfky120_0 : SlF Al119 (y120).length cl119 := by rw [hgky120_0]; exact hl119
  show Tr _ _ (uf _ 29 (.tuple #[])) (up _ 12 (ow Al119 cl119 3 zX y120)) _
  refine Tr.sel (lf := [(0, (.slice Ay100_0 (y102).length cy100_0)), (3, (.pointer (some ⟨b104, 0, none⟩))), (14, (.slice Ay100_0 (y102).length cy100_0)), (15, (iv (y102.length : Int))), (16, (iv (iL1 : Int))), (17, (.bool (decide ((iL1 : Int) < (y102.length : Int))))), (28, (.slice Al119 (y120).length cl119)), (29, (.tuple #[]))]) (le := [(2, ow Ay100_0 cy100_0 36 zM y102), (3, bx b104 #[(.slice Al119 (y120).length cl119)] 38), (12, ow Al119 cl119 3 zX y120)]) (.cons rfl (.cons rfl (.cons rfl (.cons rfl (.cons rfl (.cons rfl (.cons (slenV rfl (by rw [hgky120_0])) (.cons rfl .nil)))))))) (.cons rfl (.cons (ebx rfl (by rw [hgky120_0])) (.cons rfl .nil))) ?_
  refine Tr.nil (Tr.zA ?_)
  refine Tr.sr ?_
  refine Tr.va rfl (fun _ _ h1 h2 => zC ag_38 (h1.ev rfl) (rdb h2 (vs := [(.slice Al119 (y120).length cl119)]) (k := 3) rfl 0) rfl) ?_
  obtain ⟨y122, hy122, H⟩ := bnd H
  refine Tr.callM [12] [ow Al119 cl119 3 zX y120] (U := (Option Addr × Nat)) (fun u => (.slice u.1 (y122).length u.2)) (fun u => SlF u.1 (y122).length u.2) (fun u => [ow u.1 u.2 3 zX y122]) rfl (zK rfl za) (fun _ => rfl) (wn rfl) rfl Tryz.call84 (zF rfl zN) (fun W hW hp hE => F_slices_Compact_int_ok y120 Al119 cl119 y122 hy122 hE) ?_
  intro u hu
  obtain ⟨Ay122_0, cy122_0⟩ := u
  have gy122_0 := hu
  have hgy122_0 : SlF Ay122_0 (y122).length cy122_0 := gy122_0 --@phi
  show Tr _ _ (uf _ 31 (.slice Ay122_0 (y122).length cy122_0)) (up _ 12 (ow Ay122_0 cy122_0 3 zX y122)) _
  refine Tr.store 3 (cs := [(.slice Ay122_0 (y122).length cy122_0)]) [(.slice Ay122_0 (y122).length cy122_0)] (wn rfl) rfl rfl rfl rfl sz_38 rfl rfl rfl ?_
  refine Tr.nil (Tr.zA ?_)
  refine Tr.sr ?_
  refine Tr.asg rfl rfl ?_
  refine Tr.nilOwn 13 107 zH ?_
  show Tr _ _ (uf _ 6 (.slice none (([] : List zS)).length 0)) _ _
  refine Tr.nil (Tr.zA ?_)
  refine Tr.sr ?_
  refine Tr.asg rfl rfl ?_
  refine Tr.nilOwn 14 36 zM ?_
  show Tr _ _ (uf _ 7 (.slice none (([] : List zR)).length 0)) _ _
  refine Tr.nil (Tr.zA ?_)
  refine Tr.sr ?_
  refine Tr.asg rfl rfl ?_
  refine Tr.nil (Tr.zA ?_)
  refine Tr.seq ?_
  refine Tr.sr ?_
  refine Tr.alloc 15 (wn rfl) rfl ze_3 fun b124 => ?_
  refine Tr.store 15 (cs := [(iv 0)]) [(iv 0)] (wn rfl) rfl rfl rfl rfl sz_3 rfl rfl rfl ?_
  refine Tr.nil (Tr.zA ?_)
  refine Tr.block ?_
  refine Tr.ren 15 29 rfl rfl rfl ?_
  refine Tr.loop (σ := Int × (List zS) × (List zR) × Int × Nat × (Option Addr) × Nat × (Option Addr) × Nat) (fun m w s => F_shape_SetOf_L4 N y102 y122 m s.1 s.2.1 s.2.2.1 s.2.2.2.1 = some r ∧ SlF s.2.2.2.2.2.1 (s.2.1).length s.2.2.2.2.2.2.1 ∧ SlF s.2.2.2.2.2.2.2.1 (s.2.2.1).length s.2.2.2.2.2.2.2.2) (fun s => [(0, (.slice Ay100_0 (y102).length cy100_0)), (3, (.pointer (some ⟨b104, 0, none⟩))), (6, (.slice s.2.2.2.2.2.1 (s.2.1).length s.2.2.2.2.2.2.1)), (7, (.slice s.2.2.2.2.2.2.2.1 (s.2.2.1).length s.2.2.2.2.2.2.2.2)), (8, (iv s.2.2.2.1)), (9, (.pointer (some ⟨s.2.2.2.2.1, 0, none⟩)))]) (fun s => [(2, ow Ay100_0 cy100_0 36 zM y102), (3, bx b104 #[(.slice Ay122_0 (y122).length cy122_0)] 38), (12, ow Ay122_0 cy122_0 3 zX y122), (13, ow s.2.2.2.2.2.1 s.2.2.2.2.2.2.1 107 zH s.2.1), (14, ow s.2.2.2.2.2.2.2.1 s.2.2.2.2.2.2.2.2 36 zM s.2.2.1), (29, bx s.2.2.2.2.1 #[(iv s.1)] 3)]) N (0, ([] : List zS), ([] : List zR), 0, b124, none, 0, none, 0) ⟨H, slf_nil, slf_nil⟩ (.cons rfl (.cons rfl (.cons rfl (.cons rfl (.cons rfl (.cons rfl .nil)))))) (.cons rfl (.cons rfl (.cons rfl (.cons rfl (.cons rfl (.cons rfl .nil)))))) (fun _ _ h => noSome (h.1)) ?_
  intro w leL4 mL4 s hs
  obtain ⟨x229, l230, l231, x232, bv227, Al230, cl230, Al231, cl231⟩ := s
  obtain ⟨H, hl230, hl231⟩ := hs
  replace H : F_shape_SetOf_L4 N y102 y122 (mL4 + 1) x229 l230 l231 x232 = some r := H
  replace leB := leB.trans leL4
  replace leL1 := leL1.trans leL4
  replace hl230 : SlF Al230 (l230).length cl230 := hl230
  replace hl231 : SlF Al231 (l231).length cl231 := hl231
  rw [F_shape_SetOf_L4.eq_2] at H
  show Tr _ _ (LF [(0, (.slice Ay100_0 (y102).length cy100_0)), (3, (.pointer (some ⟨b104, 0, none⟩))), (6, (.slice Al230 (l230).length cl230)), (7, (.slice Al231 (l231).length cl231)), (8, (iv x232)), (9, (.pointer (some ⟨bv227, 0, none⟩)))]) (LE [(2, ow Ay100_0 cy100_0 36 zM y102), (3, bx b104 #[(.slice Ay122_0 (y122).length cy122_0)] 38), (12, ow Ay122_0 cy122_0 3 zX y122), (13, ow Al230 cl230 107 zH l230), (14, ow Al231 cl231 36 zM l231), (29, bx bv227 #[(iv x229)] 3)]) _
  refine Tr.seq ?_
  refine Tr.sr ?_
  refine Tr.va rfl (fun _ _ h1 h2 => zC ag_3 (h1.ev rfl) (rdb h2 (vs := [(iv x229)]) (k := 29) rfl 0) rfl) ?_
  refine Tr.va rfl (fun _ _ h1 h2 => zm (h1.ev rfl) (h1.ev rfl)) ?_
  refine Tr.va rfl (fun _ _ h1 h2 => zC ag_38 (h1.ev rfl) (rdb h2 (vs := [(.slice Ay122_0 (y122).length cy122_0)]) (k := 3) rfl 0) rfl) ?_
  refine Tr.va rfl (fun _ _ h1 h2 => zl un_38 (h1.ev rfl)) ?_
  refine Tr.va rfl (fun _ _ h1 h2 => zn (h1.ev rfl) (h1.ev rfl)) ?_
  refine Tr.nil (Tr.zA ?_)
  refine Tr.cond rfl H (fun H => ?_) (fun H => ?_)
  ·refine Tr.skip (Tr.zA ?_)
   refine Tr.seq ?_
   refine Tr.block ?_
   refine Tr.sr ?_
   refine Tr.mv rfl rfl ?_
   refine Tr.mkFunc (vs := [(.pointer (some ⟨b104, 0, none⟩)), (.pointer (some ⟨bv227, 0, none⟩))]) (wn rfl) rfl (zF rfl (zF rfl zN)) ?_
   obtain ⟨y233, hy233, H⟩ := bnd H
   refine Tr.callM [14] [ow Al231 cl231 36 zM l231] (U := (Option Addr × Nat)) (fun u => (.slice u.1 (y233).length u.2)) (fun u => SlF u.1 (y233).length u.2) (fun u => [ow u.1 u.2 36 zM y233]) rfl (zK rfl za) (fun _ => rfl) (wn rfl) rfl Tryz.call85 (zF rfl (zF rfl zN)) (fun W hW hp hE => F_slices_DeleteFunc_Rect_ok N l231 Al231 cl231 (fun z0 => F_shape_SetOf_2 z0 y122 x229) 86 [(.pointer (some ⟨b104, 0, none⟩)), (.pointer (some ⟨bv227, 0, none⟩))] Tryz.call86 (fun w' he z0 y hy => F_shape_SetOf_2_ok z0 y122 Ay122_0 cy122_0 ((hW.slS (k := 12) rfl hp rfl).ext he) b104 (he.r _ (hW.boxS (k := 3) rfl hp rfl)) (he.cells (hW.boxS (k := 3) rfl hp rfl) (hW.boxC (k := 3) rfl)) x229 bv227 (he.r _ (hW.boxS (k := 29) rfl hp rfl)) (he.cells (hW.boxS (k := 29) rfl hp rfl) (hW.boxC (k := 29) rfl)) y hy (HF.start _)) y233 hy233 hE) ?_
   intro u hu
   obtain ⟨Ay233_0, cy233_0⟩ := u
   have gy233_0 := hu
   have hgy233_0 : SlF Ay233_0 (y233).length cy233_0 := gy233_0 --@phi
   show Tr _ _ (uf _ 41 (.slice Ay233_0 (y233).length cy233_0)) (up _ 14 (ow Ay233_0 cy233_0 36 zM y233)) _
   refine Tr.asg rfl rfl ?_
   refine Tr.nil (Tr.zA ?_)
   refine Tr.seq ?_
   refine Tr.block ?_
   refine Tr.loop (σ := (List zR) × Int × (Option Addr) × Nat) (fun m w s => F_shape_SetOf_L5 y102 y122 x229 l230 (F_shape_SetOf_L4 N y102 y122 mL4) m s.1 s.2.1 = some r ∧ SlF s.2.2.1 (s.1).length s.2.2.2) (fun s => [(0, (.slice Ay100_0 (y102).length cy100_0)), (3, (.pointer (some ⟨b104, 0, none⟩))), (6, (.slice Al230 (l230).length cl230)), (7, (.slice s.2.2.1 (s.1).length s.2.2.2)), (8, (iv s.2.1)), (9, (.pointer (some ⟨bv227, 0, none⟩)))]) (fun s => [(2, ow Ay100_0 cy100_0 36 zM y102), (3, bx b104 #[(.slice Ay122_0 (y122).length cy122_0)] 38), (12, ow Ay122_0 cy122_0 3 zX y122), (13, ow Al230 cl230 107 zH l230), (14, ow s.2.2.1 s.2.2.2 36 zM s.1), (29, bx bv227 #[(iv x229)] 3)]) N (y233, x232, Ay233_0, cy233_0) ⟨H, hgy233_0⟩ (.cons rfl (.cons rfl (.cons rfl (.cons rfl (.cons rfl (.cons rfl .nil)))))) (.cons rfl (.cons rfl (.cons rfl (.cons rfl (.cons rfl (.cons rfl .nil)))))) (fun _ _ h => noSome (h.1)) ?_
   intro w leL5 mL5 s hs
   obtain ⟨l257, x258, Al257, cl257⟩ := s
   obtain ⟨H, hl257⟩ := hs
   replace H : F_shape_SetOf_L5 y102 y122 x229 l230 (F_shape_SetOf_L4 N y102 y122 mL4) (mL5 + 1) l257 x258 = some r := H
   replace leB := leB.trans leL5
   replace leL1 := leL1.trans leL5
   replace leL4 := leL4.trans leL5
   replace hl257 : SlF Al257 (l257).length cl257 := hl257
   rw [F_shape_SetOf_L5.eq_2] at H
   show Tr _ _ (LF [(0, (.slice Ay100_0 (y102).length cy100_0)), (3, (.pointer (some ⟨b104, 0, none⟩))), (6, (.slice Al230 (l230).length cl230)), (7, (.slice Al257 (l257).length cl257)), (8, (iv x258)), (9, (.pointer (some ⟨bv227, 0, none⟩)))]) (LE [(2, ow Ay100_0 cy100_0 36 zM y102), (3, bx b104 #[(.slice Ay122_0 (y122).length cy122_0)] 38), (12, ow Ay122_0 cy122_0 3 zX y122), (13, ow Al230 cl230 107 zH l230), (14, ow Al257 cl257 36 zM l257), (29, bx bv227 #[(iv x229)] 3)]) _
   refine Tr.seq ?_
   refine Tr.seq ?_
   refine Tr.draw (by kernel_rfl) (by kernel_rfl) ?_
   refine Tq.mv rfl rfl ?_
   refine Tq.mv rfl rfl ?_
   refine Tq.va rfl (fun _ _ h1 h2 => zl un_31 (h1.ev rfl)) ?_
   refine Tq.va rfl (fun _ _ h1 h2 => zn (h1.ev rfl) (h1.ev rfl)) ?_
   refine Tq.mv rfl rfl ?_
   obtain ⟨g261, hg261, H⟩ := bnd H
   refine Tq.mid 11 [(0, (.slice Ay100_0 (y102).length cy100_0)), (3, (.pointer (some ⟨b104, 0, none⟩))), (6, (.slice Al230 (l230).length cl230)), (7, (.slice Al257 (l257).length cl257)), (8, (iv x258)), (9, (.pointer (some ⟨bv227, 0, none⟩))), (57, (.bool g261))] ?_ ?_
   ·cases hg276 : (decide (x258 < (y102.length : Int)))
    ·rw [hg276] at hg261
     rw [if_neg (by decide)] at hg261
     have H := hg261
     obtain rfl := Option.some.inj H
     refine Tq.pass rfl rfl rfl rfl rfl (by decide) ?_
     refine Tq.pass rfl rfl rfl rfl rfl (by decide) ?_
     refine Tq.pass rfl rfl rfl rfl rfl (by decide) ?_
     refine Tq.pass rfl rfl rfl rfl rfl (by decide) ?_
     refine Tq.pass rfl rfl rfl rfl rfl (by decide) ?_
     refine Tq.pass rfl rfl rfl rfl rfl (by decide) ?_
     refine Tq.pass rfl rfl rfl rfl rfl (by decide) ?_
     refine Tq.pass rfl rfl rfl rfl rfl (by decide) ?_
     refine Tq.pass rfl rfl rfl rfl rfl (by decide) ?_
     refine Tq.pass rfl rfl rfl rfl rfl (by decide) ?_
     refine Tq.va rfl (fun _ _ h1 h2 => ze (h1.ev rfl) (h1.ev rfl)) ?_
     exact Tq.fin (.cons rfl (.cons rfl (.cons rfl (.cons rfl (.cons rfl (.cons rfl (.cons rfl .nil)))))))
    ·rw [hg276] at hg261
     rw [if_pos rfl] at hg261
     have H := hg261
     refine Tq.val (wg rfl rfl rfl) rfl (fun _ _ h1 h2 => run_move (h1.ev rfl)) ?_
     refine Tq.val (wg rfl rfl rfl) rfl (fun _ _ h1 h2 => run_move (h1.ev rfl)) ?_
     obtain ⟨x262, hx262, H⟩ := bnd H
     obtain ⟨hx2620, hx2621, hx2622⟩ := zq hx262
     refine Tq.val (wg rfl rfl rfl) rfl (fun _ _ h1 h2 => zI el_31 (h1.ev rfl) hfky102_0 (h1.ev rfl) hx2620 hx2621) ?_
     refine Tq.val (wg rfl rfl rfl) rfl (fun _ _ h1 h2 => zB fo_36_1 (h1.ev rfl)) ?_
     refine Tq.val (wg rfl rfl rfl) rfl (fun _ _ h1 h2 => zC ag_3 (h1.ev rfl) (zO.drop (rdo ef_TRect (k := 2) h2 rfl hx2622) 1) rfl) ?_
     refine Tq.val (wg rfl rfl rfl) rfl (fun _ _ h1 h2 => zC ag_38 (h1.ev rfl) (rdb h2 (vs := [(.slice Ay122_0 (y122).length cy122_0)]) (k := 3) rfl 0) rfl) ?_
     refine Tq.val (wg rfl rfl rfl) rfl (fun _ _ h1 h2 => zC ag_3 (h1.ev rfl) (rdb h2 (vs := [(iv x229)]) (k := 29) rfl 0) rfl) ?_
     obtain ⟨x263, hx263, H⟩ := bnd H
     obtain ⟨hx2630, hx2631, hx2632⟩ := zq hx263
     refine Tq.val (wg rfl rfl rfl) rfl (fun _ _ h1 h2 => zI el_38 (h1.ev rfl) hgy122_0 (h1.ev rfl) hx2630 hx2631) ?_
     refine Tq.val (wg rfl rfl rfl) rfl (fun _ _ h1 h2 => zC ag_3 (h1.ev rfl) (rdo ef_i64 (k := 12) h2 rfl hx2632) rfl) ?_
     refine Tq.val (wg rfl rfl rfl) rfl (fun _ _ h1 h2 => run_leq (h1.ev rfl) (h1.ev rfl)) ?_
     refine Tq.va rfl (fun _ _ h1 h2 => zb (h1.ev rfl) (h1.ev rfl)) ?_
     obtain rfl := Option.some.inj H
     exact Tq.fin (.cons rfl (.cons rfl (.cons rfl (.cons rfl (.cons rfl (.cons rfl (.cons rfl .nil)))))))
   ·refine Tq.nil (Tr.zA ?_)
    refine Tr.cond rfl H (fun H => ?_) (fun H => ?_)
    ·refine Tr.skip (Tr.zA ?_)
     refine Tr.block ?_
     refine Tr.region ?_
     refine Tr.mv rfl rfl ?_
     refine Tr.mv rfl rfl ?_
     refine Tr.mv rfl rfl ?_
     obtain ⟨x264, hx264, H⟩ := bnd H
     obtain ⟨hx2640, hx2641, hx2642⟩ := zq hx264
     refine Tr.va rfl (fun _ _ h1 h2 => zI el_31 (h1.ev rfl) hfky102_0 (h1.ev rfl) hx2640 hx2641) ?_
     refine Tr.va rfl (fun _ _ h1 h2 => zQ (cs := [(iv x264.X0), (iv x264.Y0), (iv x264.X1), (iv x264.Y1)]) ag_36 sz_36 (h1.ev rfl) (zO.take (rdo ef_TRect (k := 2) h2 rfl hx2642) 4) rfl) ?_
     refine Tr.buildSlice 32 (e := 36) (vs := [(0, (.agg #[(iv x264.X0), (iv x264.Y0), (iv x264.X1), (iv x264.Y1)]))]) (cs := [(iv x264.X0), (iv x264.Y0), (iv x264.X1), (iv x264.Y1)]) (wn rfl) rfl (zY rfl evs_nil) (by kernel_rfl) fun b265 => ?_
     obtain ⟨l266, hl266, H⟩ := bnd H
     refine Tr.append 14 (t := zM) (l := l257) (l2 := [x264]) (wn rfl) rfl rfl rfl rfl (fun W hW => ⟨[[(iv x264.X0), (iv x264.Y0), (iv x264.X1), (iv x264.Y1)]], (.cons ⟨(), trivial, rfl⟩ .nil), rdb hW (vs := [(iv x264.X0), (iv x264.Y0), (iv x264.X1), (iv x264.Y1)]) (k := 32) rfl 0⟩) un_31 sz_36 zl_36 (by decide) by_36 rfl hl266 fun Al266 cl266 hAl266 => ?_
     refine Tr.mv rfl rfl ?_
     refine Tr.va rfl (fun _ _ h1 h2 => zm (h1.ev rfl) (h1.ev rfl)) ?_
     refine Tr.asg rfl rfl ?_
     refine Tr.asg rfl rfl ?_
     refine Tr.nil (Tr.zT ?_)
     exact Tr.zW leL5 (l266, (w64 (x258 + 1)), Al266, cl266) ⟨H, hAl266⟩ (.cons rfl (.cons rfl (.cons rfl (.cons rfl (.cons rfl (.cons rfl .nil)))))) (.cons rfl (.cons rfl (.cons rfl (.cons rfl (.cons rfl (.cons rfl .nil))))))
    ·refine Tr.exit (Tr.zV (Tr.zV (Tr.zw (Tr.zA ?_))))
     refine Tr.drawC 13 [(11, (ow Al257 cl257 36 zM l257).S)] [] (by kernel_rfl) (by kernel_rfl) fun sz267 hlosz267 hEsz267 => ?_
     refine Dr.quietP 0 (by kernel_rfl) rfl (wn rfl) rfl (by kernel_rfl) (fun _ _ h1 => run_move (h1.ev rfl)) rfl ?_
     refine Dr.quietZ 1 [(68, (.slice Ay122_0 (y122).length cy122_0))] [11] false (by kernel_rfl) rfl rfl (by kernel_rfl) (fun W W' h2 hsW hk => HF.keepZ (le := [(3, bx b104 #[(.slice Ay122_0 (y122).length cy122_0)] 38)]) (ks := [(14, (ow Al257 cl257 36 zM l257).S)]) (s0 := sz267) false h2 hk (fun h => absurd h (by decide)) (.cons rfl .nil) (fun b hb => hb.elim (fun ⟨p, hp, hf, hb⟩ => by simp only [List.mem_cons, List.not_mem_nil, or_false] at hp; rcases hp with rfl; exact .inl ⟨_, List.mem_cons_self, hb⟩) (fun hb => absurd hb.1 (by decide))) (List.forall_mem_cons.2 ⟨fun b hb => hb, (fun _ h => nomatch h)⟩) rfl) ?_ rfl rfl ?_
     ·refine Tq.va rfl (fun _ _ h1 h2 => zC ag_38 (h1.ev rfl) (rdb h2 (vs := [(.slice Ay122_0 (y122).length cy122_0)]) (k := 3) rfl 0) rfl) ?_
      exact Tq.fin (.cons rfl .nil)
     refine Dr.quietZ 2 [(69, (iv x229))] [11] false (by kernel_rfl) rfl rfl (by kernel_rfl) (fun W W' h2 hsW hk => HF.keepZ (le := [(29, bx bv227 #[(iv x229)] 3)]) (ks := [(14, (ow Al257 cl257 36 zM l257).S)]) (s0 := sz267) false h2 hk (fun h => absurd h (by decide)) (.cons rfl .nil) (fun b hb => hb.elim (fun ⟨p, hp, hf, hb⟩ => by simp only [List.mem_cons, List.not_mem_nil, or_false] at hp; rcases hp with rfl; exact .inl ⟨_, List.mem_cons_self, hb⟩) (fun hb => absurd hb.1 (by decide))) (List.forall_mem_cons.2 ⟨fun b hb => hb, (fun _ h => nomatch h)⟩) rfl) ?_ rfl rfl ?_
     ·refine Tq.va rfl (fun _ _ h1 h2 => zC ag_3 (h1.ev rfl) (rdb h2 (vs := [(iv x229)]) (k := 29) rfl 0) rfl) ?_
      exact Tq.fin (.cons rfl .nil)
     obtain ⟨x268, hx268, H⟩ := bnd H
     obtain ⟨hx2680, hx2681, hx2682⟩ := zq hx268
     refine Dr.quietP 3 (by kernel_rfl) rfl (wn rfl) rfl (by kernel_rfl) (fun _ _ h1 => zI el_38 (h1.ev rfl) hgy122_0 (h1.ev rfl) hx2680 hx2681) rfl ?_
     refine Dr.quietZ 4 [(71, (iv x268))] [11] false (by kernel_rfl) rfl rfl (by kernel_rfl) (fun W W' h2 hsW hk => HF.keepZ (le := [(12, ow Ay122_0 cy122_0 3 zX y122)]) (ks := [(14, (ow Al257 cl257 36 zM l257).S)]) (s0 := sz267) false h2 hk (fun h => absurd h (by decide)) (.cons rfl .nil) (fun b hb => hb.elim (fun ⟨p, hp, hf, hb⟩ => by simp only [List.mem_cons, List.not_mem_nil, or_false] at hp; rcases hp with rfl; exact .inl ⟨_, List.mem_cons_self, hb⟩) (fun hb => absurd hb.1 (by decide))) (List.forall_mem_cons.2 ⟨fun b hb => hb, (fun _ h => nomatch h)⟩) rfl) ?_ rfl rfl ?_
     ·refine Tq.va rfl (fun _ _ h1 h2 => zC ag_3 (h1.ev rfl) (rdo ef_i64 (k := 12) h2 rfl hx2682) rfl) ?_
      exact Tq.fin (.cons rfl .nil)
     refine Dr.quietZ 5 [(72, (.slice Ay122_0 (y122).length cy122_0))] [11] false (by kernel_rfl) rfl rfl (by kernel_rfl) (fun W W' h2 hsW hk => HF.keepZ (le := [(3, bx b104 #[(.slice Ay122_0 (y122).length cy122_0)] 38)]) (ks := [(14, (ow Al257 cl257 36 zM l257).S)]) (s0 := sz267) false h2 hk (fun h => absurd h (by decide)) (.cons rfl .nil) (fun b hb => hb.elim (fun ⟨p, hp, hf, hb⟩ => by simp only [List.mem_cons, List.not_mem_nil, or_false] at hp; rcases hp with rfl; exact .inl ⟨_, List.mem_cons_self, hb⟩) (fun hb => absurd hb.1 (by decide))) (List.forall_mem_cons.2 ⟨fun b hb => hb, (fun _ h => nomatch h)⟩) rfl) ?_ rfl rfl ?_
     ·refine Tq.va rfl (fun _ _ h1 h2 => zC ag_38 (h1.ev rfl) (rdb h2 (vs := [(.slice Ay122_0 (y122).length cy122_0)]) (k := 3) rfl 0) rfl) ?_
      exact Tq.fin (.cons rfl .nil)
     refine Dr.quietZ 6 [(73, (iv x229))] [11] false (by kernel_rfl) rfl rfl (by kernel_rfl) (fun W W' h2 hsW hk => HF.keepZ (le := [(29, bx bv227 #[(iv x229)] 3)]) (ks := [(14, (ow Al257 cl257 36 zM l257).S)]) (s0 := sz267) false h2 hk (fun h => absurd h (by decide)) (.cons rfl .nil) (fun b hb => hb.elim (fun ⟨p, hp, hf, hb⟩ => by simp only [List.mem_cons, List.not_mem_nil, or_false] at hp; rcases hp with rfl; exact .inl ⟨_, List.mem_cons_self, hb⟩) (fun hb => absurd hb.1 (by decide))) (List.forall_mem_cons.2 ⟨fun b hb => hb, (fun _ h => nomatch h)⟩) rfl) ?_ rfl rfl ?_
     ·refine Tq.va rfl (fun _ _ h1 h2 => zC ag_3 (h1.ev rfl) (rdb h2 (vs := [(iv x229)]) (k := 29) rfl 0) rfl) ?_
      exact Tq.fin (.cons rfl .nil)
     refine Dr.quietP 7 (by kernel_rfl) rfl (wn rfl) rfl (by kernel_rfl) (fun _ _ h1 => zm (h1.ev rfl) (h1.ev rfl)) rfl ?_
     obtain ⟨x269, hx269, H⟩ := bnd H
     obtain ⟨hx2690, hx2691, hx2692⟩ := zq hx269
     refine Dr.quietP 8 (by kernel_rfl) rfl (wn rfl) rfl (by kernel_rfl) (fun _ _ h1 => zI el_38 (h1.ev rfl) hgy122_0 (h1.ev rfl) hx2690 hx2691) rfl ?_
     refine Dr.quietZ 9 [(76, (iv x269))] [11] false (by kernel_rfl) rfl rfl (by kernel_rfl) (fun W W' h2 hsW hk => HF.keepZ (le := [(12, ow Ay122_0 cy122_0 3 zX y122)]) (ks := [(14, (ow Al257 cl257 36 zM l257).S)]) (s0 := sz267) false h2 hk (fun h => absurd h (by decide)) (.cons rfl .nil) (fun b hb => hb.elim (fun ⟨p, hp, hf, hb⟩ => by simp only [List.mem_cons, List.not_mem_nil, or_false] at hp; rcases hp with rfl; exact .inl ⟨_, List.mem_cons_self, hb⟩) (fun hb => absurd hb.1 (by decide))) (List.forall_mem_cons.2 ⟨fun b hb => hb, (fun _ h => nomatch h)⟩) rfl) ?_ rfl rfl ?_
     ·refine Tq.va rfl (fun _ _ h1 h2 => zC ag_3 (h1.ev rfl) (rdo ef_i64 (k := 12) h2 rfl hx2692) rfl) ?_
      exact Tq.fin (.cons rfl .nil)
     refine Dr.quiet 10 [(77, (.slice Al257 (l257).length cl257))] (by kernel_rfl) rfl rfl (by kernel_rfl) ?_ rfl rfl ?_
     ·refine Tq.mv rfl rfl ?_
      exact Tq.fin (.cons rfl .nil)
     obtain ⟨y270, hy270, H⟩ := bnd H
     refine Dr.one 11 (by kernel_rfl) ?_
     refine St.callM 11 [14, 33] [ow Al257 cl257 36 zM l257, emp] (U := (Option Addr × Nat)) (fun u => (.slice u.1 (y270.1).length u.2)) (fun u => SlF u.1 (y270.1).length u.2 ∧ (y270.2).length = (l257).length) (fun u => [ow Al257 cl257 36 zM y270.2, ow u.1 u.2 3 zX y270.1]) rfl (zK rfl (zK rfl za)) (fun _ => rfl) (fun b ⟨e, he, hS⟩ => by simp only [List.mem_cons, List.not_mem_nil, or_false] at he; rcases he with rfl | rfl; exact .inl ⟨_, List.mem_cons_self, rfl, hS⟩; exact hS.elim) rfl (wn rfl) rfl Tryz.call88 (zF rfl zN) (fun W hW hp hE => F_shape_stretches_ok l257 Al257 cl257 y270 hy270 hE) ?_
     intro u hu hsy270
     obtain ⟨Ay270_0, cy270_0⟩ := u
     obtain ⟨gy270_0, gky270_0⟩ := hu
     have hgy270_0 : SlF Ay270_0 (y270.1).length cy270_0 := gy270_0
     have hgky270_0 : (y270.2).length = (l257).length := gky270_0
     have hfky270_0 : SlF Al257 (y270.2).length cl257 := by rw [hgky270_0]; exact hl257
     show Dr _ _ _ _ _ _ _ _ _ (uf _ 78 (.slice Ay270_0 (y270.1).length cy270_0)) (up (up _ 33 (ow Ay270_0 cy270_0 3 zX y270.1)) 14 (ow Al257 cl257 36 zM y270.2))
     refine Dr.use (lf := [(0, (.slice Ay100_0 (y102).length cy100_0)), (3, (.pointer (some ⟨b104, 0, none⟩))), (6, (.slice Al230 (l230).length cl230)), (7, (.slice Al257 (y270.2).length cl257)), (8, (iv x258)), (9, (.pointer (some ⟨bv227, 0, none⟩))), (57, (.bool g261)), (67, (.slice Al230 (l230).length cl230)), (68, (.slice Ay122_0 (y122).length cy122_0)), (69, (iv x229)), (70, (.pointer (some ⟨adB Ay122_0, adO Ay122_0 + (x229).toNat * 1, none⟩))), (71, (iv x268)), (72, (.slice Ay122_0 (y122).length cy122_0)), (73, (iv x229)), (74, (iv (w64 (x229 + 1)))), (75, (.pointer (some ⟨adB Ay122_0, adO Ay122_0 + ((w64 (x229 + 1))).toNat * 1, none⟩))), (76, (iv x269)), (77, (.slice Al257 (y270.2).length cl257)), (78, (.slice Ay270_0 (y270.1).length cy270_0))]) (le := [(2, ow Ay100_0 cy100_0 36 zM y102), (3, bx b104 #[(.slice Ay122_0 (y122).length cy122_0)] 38), (12, ow Ay122_0 cy122_0 3 zX y122), (13, ow Al230 cl230 107 zH l230), (14, ow Al257 cl257 36 zM y270.2), (29, bx bv227 #[(iv x229)] 3), (33, ow Ay270_0 cy270_0 3 zX y270.1)]) ?_ rfl (.cons rfl (.cons rfl (.cons rfl (.cons (slenV rfl (by rw [hgky270_0])) (.cons rfl (.cons rfl (.cons rfl (.cons rfl (.cons rfl (.cons rfl (.cons rfl (.cons rfl (.cons rfl (.cons rfl (.cons rfl (.cons rfl (.cons rfl (.cons (slenV rfl (by rw [hgky270_0])) (.cons rfl .nil))))))))))))))))))) (.cons rfl (.cons rfl (.cons rfl (.cons rfl (.cons rfl (.cons rfl (.cons rfl .nil)))))))
     refine Dr.quiet 12 [(79, (.agg #[(iv x268), (iv x269), (.slice Ay270_0 (y270.1).length cy270_0)]))] (by kernel_rfl) rfl rfl (by kernel_rfl) ?_ rfl rfl ?_
     ·refine Tq.build (vs := [(0, (iv x268)), (1, (iv x269)), (2, (.slice Ay270_0 (y270.1).length cy270_0))]) (cs := [(iv x268), (iv x269), (.slice Ay270_0 (y270.1).length cy270_0)]) (wn rfl) rfl (zY rfl (zY rfl (zY rfl evs_nil))) (by kernel_rfl) ?_
      exact Tq.fin (.cons rfl .nil)
     refine Dr.tail (by kernel_rfl) ?_
     refine Tr.freeze 33 rfl fun w le273 hz272 => ?_
     replace leB := leB.trans le273
     replace leL1 := leL1.trans le273
     replace leL4 := leL4.trans le273
     replace leL5 := leL5.trans le273
     obtain ⟨y274, hy274, H⟩ := bnd H
     refine Tr.callG [13] [ow Al230 cl230 107 zH l230] (U := (Option Addr × Nat)) (fun u => (.slice u.1 (y274).length u.2)) (fun O W u => SlF u.1 (y274).length u.2) (fun u => [ow u.1 u.2 107 zH y274]) rfl (zK rfl za) (fun _ => rfl) (wn rfl) rfl Tryz.call87 (zF rfl (zF rfl zN)) (fun W hW hp hE => F_shape_Set__push_ok l230 Al230 cl230 (zS.mk x268 x269 y270.1) Ay270_0 cy270_0 (hz272.extO (hW.extS hp)) y274 hy274 hE) ?_
     intro w u le275 hu
     obtain ⟨Ay274_0, cy274_0⟩ := u
     have gy274_0 := hu
     replace hz272 := hz272.le le275
     replace leB := leB.trans le275
     replace leL1 := leL1.trans le275
     replace leL4 := leL4.trans le275
     replace leL5 := leL5.trans le275
     have hgy274_0 : SlF Ay274_0 (y274).length cy274_0 := gy274_0 --@phi
     show Tr _ _ (uf _ 80 (.slice Ay274_0 (y274).length cy274_0)) (up _ 13 (ow Ay274_0 cy274_0 107 zH y274)) _
     refine Tr.asg rfl rfl ?_
     refine Tr.nil (Tr.zT (Tr.zA ?_))
     refine Tr.seq ?_
     refine Tr.sr ?_
     refine Tr.va rfl (fun _ _ h1 h2 => zC ag_3 (h1.ev rfl) (rdb h2 (vs := [(iv x229)]) (k := 29) rfl 0) rfl) ?_
     refine Tr.nil (Tr.zA ?_)
     refine Tr.region ?_
     refine Tr.alloc 34 (wn rfl) rfl ze_3 fun b276 => ?_
     refine Tr.store 34 (cs := [(iv x229)]) [(iv x229)] (wn rfl) rfl rfl rfl rfl sz_3 rfl rfl rfl ?_
     refine Tr.nil (Tr.zA ?_)
     refine Tr.region ?_
     refine Tr.va rfl (fun _ _ h1 h2 => zC ag_3 (h1.ev rfl) (rdb h2 (vs := [(iv x229)]) (k := 34) rfl 0) rfl) ?_
     refine Tr.va rfl (fun _ _ h1 h2 => zm (h1.ev rfl) (h1.ev rfl)) ?_
     refine Tr.store 34 (cs := [(iv (w64 (x229 + 1)))]) [(iv (w64 (x229 + 1)))] (wn rfl) rfl rfl rfl rfl sz_3 rfl rfl rfl ?_
     refine Tr.nil ?_
     refine Tr.dropK 29 ?_
     refine Tr.ren 34 29 rfl rfl rfl ?_
     exact Tr.zW leL4 ((w64 (x229 + 1)), y274, y270.2, x258, b276, Ay274_0, cy274_0, Al257, cl257) ⟨H, hgy274_0, hfky270_0⟩ (.cons rfl (.cons rfl (.cons rfl (.cons rfl (.cons rfl (.cons rfl .nil)))))) (.cons rfl (.cons rfl (.cons rfl (.cons rfl (.cons rfl (.cons rfl .nil))))))
  ·refine Tr.exit (Tr.zV (Tr.zV (Tr.zw (Tr.zA ?_))))
   refine Tr.sr ?_
   refine Tr.mv rfl rfl ?_
   refine Tr.asg rfl rfl ?_
   refine Tr.nil (Tr.zA ?_)
   refine Tr.ret ?_
   obtain rfl := Option.some.inj H
   exact Tr.out (m := [(.slice Al230 (l230).length cl230)]) [] (zL rfl zP) (fun W hW => ⟨w, (Al230, cl230), leB, rfl, hl230, hW.pick (ks := [13]) (by decide) (zK rfl za)⟩)
 | cons xL1 restL1 =>
  rw [F_shape_SetOf_L1.eq_2] at H
  refine Tr.sr ?_
  refine Tr.va rfl (fun _ _ h1 h2 => zn (h1.ev rfl) (h1.ev rfl)) ?_
  refine Tr.nil (Tr.zA ?_)
  refine Tr.seq ?_
  refine Tr.condT rfl (range_on hdL1) ?_
  refine Tr.skip (Tr.zA ?_)
  refine Tr.seq ?_
  refine Tr.block ?_
  refine Tr.sr ?_
  refine Tr.va rfl (fun _ _ h1 h2 => zI el_31 (h1.ev rfl) hfky102_0 (h1.ev rfl) (Int.natCast_nonneg _) (zf hdL1)) ?_
  refine Tr.va rfl (fun _ _ h1 h2 => zQ (cs := [(iv xL1.X0), (iv xL1.Y0), (iv xL1.X1), (iv xL1.Y1)]) ag_36 sz_36 (h1.ev rfl) (zO.take (rdo ef_TRect (k := 2) h2 rfl (range_at hdL1)) 4) rfl) ?_
  refine Tr.alloc 35 (wn rfl) rfl ze_36 fun b277 => ?_
  refine Tr.store 35 (cs := [(iv xL1.X0), (iv xL1.Y0), (iv xL1.X1), (iv xL1.Y1)]) [(iv xL1.X0), (iv xL1.Y0), (iv xL1.X1), (iv xL1.Y1)] (wn rfl) rfl rfl rfl rfl sz_36 rfl rfl rfl ?_
  refine Tr.nil (Tr.zA ?_)
  refine Tr.region ?_
  refine Tr.va rfl (fun _ _ h1 h2 => zC ag_38 (h1.ev rfl) (rdb h2 (vs := [(.slice Al119 (l119).length cl119)]) (k := 3) rfl 0) rfl) ?_
  refine Tr.va rfl (fun _ _ h1 h2 => zB fo_36_1 (h1.ev rfl)) ?_
  refine Tr.va rfl (fun _ _ h1 h2 => zC ag_3 (h1.ev rfl) (rdb h2 (vs := [(iv xL1.X0), (iv xL1.Y0), (iv xL1.X1), (iv xL1.Y1)]) (k := 35) rfl 1) rfl) ?_
  refine Tr.va rfl (fun _ _ h1 h2 => zB fo_36_3 (h1.ev rfl)) ?_
  refine Tr.va rfl (fun _ _ h1 h2 => zC ag_3 (h1.ev rfl) (rdb h2 (vs := [(iv xL1.X0), (iv xL1.Y0), (iv xL1.X1), (iv xL1.Y1)]) (k := 35) rfl 3) rfl) ?_
  refine Tr.buildSlice 36 (e := 3) (vs := [(0, (iv xL1.Y0)), (1, (iv xL1.Y1))]) (cs := [(iv xL1.Y0), (iv xL1.Y1)]) (wn rfl) rfl (zY rfl (zY rfl evs_nil)) (by kernel_rfl) fun b278 => ?_
  obtain ⟨l279, hl279, H⟩ := bnd H
  refine Tr.append 12 (t := zX) (l := l119) (l2 := [xL1.Y0, xL1.Y1]) (wn rfl) rfl rfl rfl rfl (fun W hW => ⟨[[(iv xL1.Y0)], [(iv xL1.Y1)]], (.cons ⟨(), trivial, rfl⟩ (.cons ⟨(), trivial, rfl⟩ .nil)), rdb hW (vs := [(iv xL1.Y0), (iv xL1.Y1)]) (k := 36) rfl 0⟩) un_38 sz_3 zl_3 (by decide) by_3 rfl hl279 fun Al279 cl279 hAl279 => ?_
  refine Tr.store 3 (cs := [(.slice Al279 (l279).length cl279)]) [(.slice Al279 (l279).length cl279)] (wn rfl) rfl rfl rfl rfl sz_38 rfl rfl rfl ?_
  refine Tr.nil (Tr.zT (Tr.zA ?_))
  refine Tr.region ?_
  refine Tr.va rfl (fun _ _ h1 h2 => zm (h1.ev rfl) (h1.ev rfl)) ?_
  refine Tr.mv rfl rfl ?_
  refine Tr.nil ?_
  exact Tr.zW leL1 (restL1, (iL1 + 1), l279, Al279, cl279) ⟨rfl, zAI hdL1, zf hdL1, H, hAl279⟩ (.cons rfl (.cons rfl (.cons rfl (.cons rfl (.cons (congrArg (fun z => some (Value.int .i64 z)) (zAH hdL1 hfky102_0)) .nil))))) (.cons rfl (.cons rfl (.cons rfl .nil)))

theorem F_plot_newMachine_ok (N : Nat) {w : Bs} (p0 : TPlot) (Ap0_0 : Option Addr) (cp0_0 : Nat) (hp0_0 : Sl w.O w.W zh Ap0_0 cp0_0 p0.Tools) (Ap0_1 : Option Addr) (cp0_1 : Nat) (hp0_1 : Sl w.O w.W zG Ap0_1 cp0_1 p0.Steps) (r : zo) (H : F_plot_newMachine N p0 = some r) (hE : HF w w.W (LEn [emp, emp, emp])) : Calls Tryz.prog 55 [(.agg #[(iv p0.Unit), (.slice Ap0_0 (p0.Tools).length cp0_0), (.slice Ap0_1 (p0.Steps).length cp0_1)])].toArray w.W fun e W' => ∃ (w' : Bs) (u : (Option Addr × Nat) × (Option Addr × Nat) × (Option Addr × Nat) × (Option Addr × Nat) × (Option Addr × Nat)), w.Le w' ∧ e = .returned (.pointer (some ⟨u.2.2.2.2.2, 0, none⟩)) ∧ (Sl w'.O w'.W zh u.1.1 u.1.2 r.p.Tools ∧ Sl w'.O w'.W zG u.2.1.1 u.2.1.2 r.p.Steps ∧ SlF u.2.2.1.1 (r.tools).length u.2.2.1.2 ∧ SlF u.2.2.2.1.1 (r.image).length u.2.2.2.1.2 ∧ True) ∧ HF w' W' (LEn [ow u.2.2.1.1 u.2.2.1.2 66 zAA r.tools, ow u.2.2.2.1.1 u.2.2.2.1.2 107 zH r.image, bx u.2.2.2.2.2 #[(iv r.p.Unit), (.slice u.1.1 (r.p.Tools).length u.1.2), (.slice u.2.1.1 (r.p.Steps).length u.2.1.2), (.slice u.2.2.1.1 (r.tools).length u.2.2.1.2), (.slice u.2.2.2.1.1 (r.image).length u.2.2.2.1.2), (.bool r.clear), (iv r.tool), (iv r.place.X), (iv r.place.Y), (.bool r.placed), (iv r.off), (iv r.on)] 77]) := by
 unfold F_plot_newMachine at H
 have leB := Bs.Le.refl w
 refine Tr.enter (n := 64) Tryz.func55 rfl rfl rfl hE ?_
 refine Tr.sr ?_
 refine Tr.box 1 (cs := [(iv p0.Unit), (.slice Ap0_0 (p0.Tools).length cp0_0), (.slice Ap0_1 (p0.Steps).length cp0_1)]) (wn rfl) rfl rfl rfl fun b100 => ?_
 refine Tr.asg rfl rfl ?_
 refine Tr.nil (Tr.zA ?_)
 refine Tr.sr ?_
 refine Tr.va rfl (fun _ _ h1 h2 => zQ (cs := [(iv p0.Unit), (.slice Ap0_0 (p0.Tools).length cp0_0), (.slice Ap0_1 (p0.Steps).length cp0_1)]) ag_25 sz_25 (h1.ev rfl) (zO.take (rdb h2 (vs := [(iv p0.Unit), (.slice Ap0_0 (p0.Tools).length cp0_0), (.slice Ap0_1 (p0.Steps).length cp0_1)]) (k := 1) rfl 0) 3) rfl) ?_
 refine Tr.build (vs := [(0, (.agg #[(iv p0.Unit), (.slice Ap0_0 (p0.Tools).length cp0_0), (.slice Ap0_1 (p0.Steps).length cp0_1)])), (4, (iv (-1)))]) (cs := [(iv p0.Unit), (.slice Ap0_0 (p0.Tools).length cp0_0), (.slice Ap0_1 (p0.Steps).length cp0_1), (.slice none 0 0), (.slice none 0 0), (.bool false), (iv (-1)), (iv 0), (iv 0), (.bool false), (iv 0), (iv 0)]) (wn rfl) rfl (zY rfl (zY rfl evs_nil)) (by kernel_rfl) ?_
 refine Tr.box 2 (cs := [(iv p0.Unit), (.slice Ap0_0 (p0.Tools).length cp0_0), (.slice Ap0_1 (p0.Steps).length cp0_1), (.slice none 0 0), (.slice none 0 0), (.bool false), (iv (-1)), (iv 0), (iv 0), (.bool false), (iv 0), (iv 0)]) (wn rfl) rfl rfl rfl fun b101 => ?_
 refine Tr.asg rfl rfl ?_
 refine Tr.nil (Tr.zA ?_)
 refine Tr.seq ?_
 refine Tr.sr ?_
 refine Tr.va rfl (fun _ _ h1 h2 => zB fo_25_1 (h1.ev rfl)) ?_
 refine Tr.va rfl (fun _ _ h1 h2 => zC ag_22 (h1.ev rfl) (rdb h2 (vs := [(iv p0.Unit), (.slice Ap0_0 (p0.Tools).length cp0_0), (.slice Ap0_1 (p0.Steps).length cp0_1)]) (k := 1) rfl 1) rfl) ?_
 refine Tr.va rfl (fun _ _ h1 h2 => zl un_22 (h1.ev rfl)) ?_
 refine Tr.mv rfl rfl ?_
 refine Tr.nil (Tr.zA ?_)
 refine Tr.block ?_
 refine Tr.nilOwn 27 66 zAA ?_
 refine Tr.loop (σ := (List zAF) × Nat × (List (List zS)) × (Option Addr) × Nat) (fun m w s => m = s.1.length + 1 ∧ s.1 = List.drop s.2.1 p0.Tools ∧ s.2.1 ≤ p0.Tools.length ∧ zAM N p0 s.1 s.2.1 s.2.2.1 = some r ∧ SlF s.2.2.2.1 (s.2.2.1).length s.2.2.2.2) (fun s => [(1, (.pointer (some ⟨b100, 0, none⟩))), (3, (.pointer (some ⟨b101, 0, none⟩))), (13, (.slice Ap0_0 (p0.Tools).length cp0_0)), (14, (iv (p0.Tools.length : Int))), (15, (iv (s.2.1 : Int)))]) (fun s => [(1, bx b100 #[(iv p0.Unit), (.slice Ap0_0 (p0.Tools).length cp0_0), (.slice Ap0_1 (p0.Steps).length cp0_1)] 25), (2, bx b101 #[(iv p0.Unit), (.slice Ap0_0 (p0.Tools).length cp0_0), (.slice Ap0_1 (p0.Steps).length cp0_1), (.slice s.2.2.2.1 (s.2.2.1).length s.2.2.2.2), (.slice none 0 0), (.bool false), (iv (-1)), (iv 0), (iv 0), (.bool false), (iv 0), (iv 0)] 77), (27, ow s.2.2.2.1 s.2.2.2.2 66 zAA s.2.2.1)]) (p0.Tools.length + 1) (p0.Tools, 0, ([] : List (List zS)), none, 0) ⟨rfl, rfl, Nat.zero_le _, H, slf_nil⟩ (.cons rfl (.cons rfl (.cons rfl (.cons rfl (.cons rfl .nil))))) (.cons rfl (.cons rfl (.cons rfl .nil))) (fun _ _ h => absurd h.1 (by simp)) ?_
 intro w leL3 m s hs
 obtain ⟨restL3, iL3, l164, Al164, cl164⟩ := s
 obtain ⟨hmL3, hdL3, hiL3, H, hl164⟩ := hs
 replace hdL3 : restL3 = List.drop iL3 p0.Tools := hdL3
 replace H : zAM N p0 restL3 iL3 l164 = some r := H
 replace hmL3 : m + 1 = restL3.length + 1 := hmL3
 replace hp0_0 := hp0_0.le leL3
 replace hp0_1 := hp0_1.le leL3
 replace leB := leB.trans leL3
 replace hl164 : SlF Al164 (l164).length cl164 := hl164
 obtain rfl : m = restL3.length := by omega
 clear hmL3
 show Tr _ _ (LF [(1, (.pointer (some ⟨b100, 0, none⟩))), (3, (.pointer (some ⟨b101, 0, none⟩))), (13, (.slice Ap0_0 (p0.Tools).length cp0_0)), (14, (iv (p0.Tools.length : Int))), (15, (iv (iL3 : Int)))]) (LE [(1, bx b100 #[(iv p0.Unit), (.slice Ap0_0 (p0.Tools).length cp0_0), (.slice Ap0_1 (p0.Steps).length cp0_1)] 25), (2, bx b101 #[(iv p0.Unit), (.slice Ap0_0 (p0.Tools).length cp0_0), (.slice Ap0_1 (p0.Steps).length cp0_1), (.slice Al164 (l164).length cl164), (.slice none 0 0), (.bool false), (iv (-1)), (iv 0), (iv 0), (.bool false), (iv 0), (iv 0)] 77), (27, ow Al164 cl164 66 zAA l164)]) _
 cases restL3 with
 | nil =>
  rw [zAM.eq_1] at H
  refine Tr.sr ?_
  refine Tr.va rfl (fun _ _ h1 h2 => zn (h1.ev rfl) (h1.ev rfl)) ?_
  refine Tr.nil (Tr.zA ?_)
  refine Tr.seq ?_
  refine Tr.condF rfl (range_nil hdL3) ?_
  refine Tr.exit (Tr.zV (Tr.zV (Tr.zw (Tr.zA ?_))))
  refine Tr.sr ?_
  refine Tr.mv rfl rfl ?_
  refine Tr.asg rfl rfl ?_
  refine Tr.nil (Tr.zA ?_)
  refine Tr.ret ?_
  obtain rfl := Option.some.inj H
  refine Tr.nilOwn 28 107 zH ?_
  exact Tr.out (m := [(.pointer (some ⟨b101, 0, none⟩))]) [] (zL rfl zP) (fun W hW => ⟨w, ((Ap0_0, cp0_0), (Ap0_1, cp0_1), (Al164, cl164), (none, 0), (none, b101)), leB, rfl, ⟨hp0_0, hp0_1, hl164, slf_nil, trivial⟩, hW.pick (ks := [27, 28, 2]) (by decide) (zK rfl (zK rfl (zK rfl za)))⟩)
 | cons xL3 restL3 =>
  rw [zAM.eq_2] at H
  refine Tr.sr ?_
  refine Tr.va rfl (fun _ _ h1 h2 => zn (h1.ev rfl) (h1.ev rfl)) ?_
  refine Tr.nil (Tr.zA ?_)
  refine Tr.seq ?_
  refine Tr.condT rfl (range_on hdL3) ?_
  refine Tr.skip (Tr.zA ?_)
  refine Tr.seq ?_
  refine Tr.block ?_
  refine Tr.sr ?_
  obtain ⟨u165, hRu165, hoku165, hcu165⟩ := (hp0_0).el (range_at hdL3)
  obtain ⟨Au165_0, cu165_0⟩ := u165
  have hoku165_0 := hoku165
  replace hoku165_0 : Sl w.O w.W zM Au165_0 cu165_0 xL3.Rects := hoku165_0
  replace hRu165 : w.R (adB Ap0_0) := Or.inl hRu165
  refine Tr.va rfl (fun _ _ h1 h2 => zI el_22 (h1.ev rfl) hp0_0.form (h1.ev rfl) (Int.natCast_nonneg _) (zf hdL3)) ?_
  refine Tr.va rfl (fun _ _ h1 h2 => zQ (cs := [(sv xL3.Name), (.slice Au165_0 (xL3.Rects).length cu165_0)]) ag_64 sz_64 (h1.ev rfl) (zO.take (rdR hRu165 hcu165 h2) 2) rfl) ?_
  refine Tr.alloc 29 (wn rfl) rfl ze_64 fun b166 => ?_
  refine Tr.store 29 (cs := [(sv xL3.Name), (.slice Au165_0 (xL3.Rects).length cu165_0)]) [(sv xL3.Name), (.slice Au165_0 (xL3.Rects).length cu165_0)] (wn rfl) rfl rfl rfl rfl sz_64 rfl rfl rfl ?_
  refine Tr.nil (Tr.zA ?_)
  refine Tr.sr ?_
  refine Tr.asg rfl rfl ?_
  refine Tr.nilOwn 30 36 zM ?_
  show Tr _ _ (uf _ 6 (.slice none (([] : List zR)).length 0)) _ _
  refine Tr.nil (Tr.zA ?_)
  refine Tr.seq ?_
  refine Tr.sr ?_
  refine Tr.va rfl (fun _ _ h1 h2 => zB fo_64_1 (h1.ev rfl)) ?_
  refine Tr.va rfl (fun _ _ h1 h2 => zC ag_31 (h1.ev rfl) (rdb h2 (vs := [(sv xL3.Name), (.slice Au165_0 (xL3.Rects).length cu165_0)]) (k := 29) rfl 1) rfl) ?_
  refine Tr.va rfl (fun _ _ h1 h2 => zl un_31 (h1.ev rfl)) ?_
  refine Tr.mv rfl rfl ?_
  refine Tr.nil (Tr.zA ?_)
  refine Tr.block ?_
  refine Tr.loop (σ := (List zR) × Nat × (List zR) × (Option Addr) × Nat) (fun m w s => m = s.1.length + 1 ∧ s.1 = List.drop s.2.1 xL3.Rects ∧ s.2.1 ≤ xL3.Rects.length ∧ F_plot_newMachine_L4 N p0 l164 (zAM N p0 restL3 (iL3 + 1)) s.1 s.2.1 s.2.2.1 = some r ∧ SlF s.2.2.2.1 (s.2.2.1).length s.2.2.2.2) (fun s => [(1, (.pointer (some ⟨b100, 0, none⟩))), (3, (.pointer (some ⟨b101, 0, none⟩))), (6, (.slice s.2.2.2.1 (s.2.2.1).length s.2.2.2.2)), (13, (.slice Ap0_0 (p0.Tools).length cp0_0)), (14, (iv (p0.Tools.length : Int))), (15, (iv (iL3 : Int))), (20, (.slice Au165_0 (xL3.Rects).length cu165_0)), (21, (iv (xL3.Rects.length : Int))), (22, (iv (s.2.1 : Int)))]) (fun s => [(1, bx b100 #[(iv p0.Unit), (.slice Ap0_0 (p0.Tools).length cp0_0), (.slice Ap0_1 (p0.Steps).length cp0_1)] 25), (2, bx b101 #[(iv p0.Unit), (.slice Ap0_0 (p0.Tools).length cp0_0), (.slice Ap0_1 (p0.Steps).length cp0_1), (.slice Al164 (l164).length cl164), (.slice none 0 0), (.bool false), (iv (-1)), (iv 0), (iv 0), (.bool false), (iv 0), (iv 0)] 77), (27, ow Al164 cl164 66 zAA l164), (30, ow s.2.2.2.1 s.2.2.2.2 36 zM s.2.2.1)]) (xL3.Rects.length + 1) (xL3.Rects, 0, ([] : List zR), none, 0) ⟨rfl, rfl, Nat.zero_le _, H, slf_nil⟩ (.cons rfl (.cons rfl (.cons rfl (.cons rfl (.cons rfl (.cons rfl (.cons rfl (.cons rfl (.cons rfl .nil))))))))) (.cons rfl (.cons rfl (.cons rfl (.cons rfl .nil)))) (fun _ _ h => absurd h.1 (by simp)) ?_
  intro w leL4 m s hs
  obtain ⟨restL4, iL4, l181, Al181, cl181⟩ := s
  obtain ⟨hmL4, hdL4, hiL4, H, hl181⟩ := hs
  replace hdL4 : restL4 = List.drop iL4 xL3.Rects := hdL4
  replace H : F_plot_newMachine_L4 N p0 l164 (zAM N p0 restL3 (iL3 + 1)) restL4 iL4 l181 = some r := H
  replace hmL4 : m + 1 = restL4.length + 1 := hmL4
  replace hp0_0 := hp0_0.le leL4
  replace hp0_1 := hp0_1.le leL4
  replace hoku165_0 := hoku165_0.le leL4
  replace leB := leB.trans leL4
  replace leL3 := leL3.trans leL4
  replace hl181 : SlF Al181 (l181).length cl181 := hl181
  obtain rfl : m = restL4.length := by omega
  clear hmL4
  show Tr _ _ (LF [(1, (.pointer (some ⟨b100, 0, none⟩))), (3, (.pointer (some ⟨b101, 0, none⟩))), (6, (.slice Al181 (l181).length cl181)), (13, (.slice Ap0_0 (p0.Tools).length cp0_0)), (14, (iv (p0.Tools.length : Int))), (15, (iv (iL3 : Int))), (20, (.slice Au165_0 (xL3.Rects).length cu165_0)), (21, (iv (xL3.Rects.length : Int))), (22, (iv (iL4 : Int)))]) (LE [(1, bx b100 #[(iv p0.Unit), (.slice Ap0_0 (p0.Tools).length cp0_0), (.slice Ap0_1 (p0.Steps).length cp0_1)] 25), (2, bx b101 #[(iv p0.Unit), (.slice Ap0_0 (p0.Tools).length cp0_0), (.slice Ap0_1 (p0.Steps).length cp0_1), (.slice Al164 (l164).length cl164), (.slice none 0 0), (.bool false), (iv (-1)), (iv 0), (iv 0), (.bool false), (iv 0), (iv 0)] 77), (27, ow Al164 cl164 66 zAA l164), (30, ow Al181 cl181 36 zM l181)]) _
  cases restL4 with
  | nil =>
   rw [F_plot_newMachine_L4.eq_1] at H
   refine Tr.sr ?_
   refine Tr.va rfl (fun _ _ h1 h2 => zn (h1.ev rfl) (h1.ev rfl)) ?_
   refine Tr.nil (Tr.zA ?_)
   refine Tr.seq ?_
   refine Tr.condF rfl (range_nil hdL4) ?_
   refine Tr.exit (Tr.zV (Tr.zV (Tr.zw (Tr.zA ?_))))
   refine Tr.drawC 9 [(8, (ow Al164 cl164 66 zAA l164).S)] [] (by kernel_rfl) (by kernel_rfl) fun sz182 hlosz182 hEsz182 => ?_
   refine Dr.quietP 0 (by kernel_rfl) rfl (wn rfl) rfl (by kernel_rfl) (fun _ _ h1 => run_move (h1.ev rfl)) rfl ?_
   refine Dr.quietP 1 (by kernel_rfl) rfl (wn rfl) rfl (by kernel_rfl) (fun _ _ h1 => run_move (h1.ev rfl)) rfl ?_
   refine Dr.quietP 2 (by kernel_rfl) rfl (wn rfl) rfl (by kernel_rfl) (fun _ _ h1 => zg (h1.ev rfl)) rfl ?_
   refine Dr.quietP 3 (by kernel_rfl) rfl (wn rfl) rfl (by kernel_rfl) (fun _ _ h1 => zB fo_77_1 (h1.ev rfl)) rfl ?_
   refine Dr.quiet 4 [(55, (.slice Al164 (l164).length cl164))] (by kernel_rfl) rfl rfl (by kernel_rfl) ?_ rfl rfl ?_
   ·refine Tq.va rfl (fun _ _ h1 h2 => zC ag_75 (h1.ev rfl) (rdb h2 (vs := [(iv p0.Unit), (.slice Ap0_0 (p0.Tools).length cp0_0), (.slice Ap0_1 (p0.Steps).length cp0_1), (.slice Al164 (l164).length cl164), (.slice none 0 0), (.bool false), (iv (-1)), (iv 0), (iv 0), (.bool false), (iv 0), (iv 0)]) (k := 2) rfl 3) rfl) ?_
    exact Tq.fin (.cons rfl .nil)
   refine Dr.quietP 5 (by kernel_rfl) rfl (wn rfl) rfl (by kernel_rfl) (fun _ _ h1 => run_move (h1.ev rfl)) rfl ?_
   obtain ⟨y183, hy183, H⟩ := bnd H
   refine Dr.one 6 (by kernel_rfl) ?_
   refine St.callG 6 [35] [emp] (U := (Option Addr × Nat)) (fun u => (.slice u.1 (y183).length u.2)) (fun O W u => SlF u.1 (y183).length u.2) (fun u => [ow u.1 u.2 107 zH y183]) rfl (zK rfl za) (fun _ => rfl) (insS_no rfl) rfl (wn rfl) rfl Tryz.call59 (zF rfl zN) (fun W hW hp hE => F_shape_SetOf_ok N l181 Al181 cl181 (hW.slS (k := 30) rfl hp rfl) y183 hy183 hE) ?_
   intro w u le184 hu hsy183
   obtain ⟨Ay183_0, cy183_0⟩ := u
   have gy183_0 := hu
   replace hp0_0 := hp0_0.le le184
   replace hp0_1 := hp0_1.le le184
   replace hoku165_0 := hoku165_0.le le184
   replace leB := leB.trans le184
   replace leL3 := leL3.trans le184
   replace leL4 := leL4.trans le184
   have hgy183_0 : SlF Ay183_0 (y183).length cy183_0 := gy183_0
   show Dr _ _ _ _ _ _ _ _ _ (uf _ 57 (.slice Ay183_0 (y183).length cy183_0)) (up _ 35 (ow Ay183_0 cy183_0 107 zH y183))
   refine Dr.one 7 (by kernel_rfl) ?_
   refine St.freeze 35 rfl fun w le186 hz185 => ?_
   replace hp0_0 := hp0_0.le le186
   replace hp0_1 := hp0_1.le le186
   replace hoku165_0 := hoku165_0.le le186
   replace leB := leB.trans le186
   replace leL3 := leL3.trans le186
   replace leL4 := leL4.trans le186
   refine St.buildSlice 7 36 (e := 66) (vs := [(0, (.slice Ay183_0 (y183).length cy183_0))]) (cs := [(.slice Ay183_0 (y183).length cy183_0)]) rfl (wn rfl) rfl (zY rfl evs_nil) (by kernel_rfl) fun b187 hb187 => ?_
   obtain ⟨l188, hl188, H⟩ := bnd H
   refine Dr.one 8 (by kernel_rfl) ?_
   refine St.append 8 27 (t' := zAA) (ll := l164) (l2 := [y183]) (fun b hb => .inl ⟨_, List.mem_cons_self, rfl, hb⟩) rfl (wn rfl) rfl rfl rfl rfl (fun W hW => ⟨[[(.slice Ay183_0 (y183).length cy183_0)]], (.cons ⟨(Ay183_0, cy183_0), hz185, rfl⟩ .nil), rdb hW (vs := [(.slice Ay183_0 (y183).length cy183_0)]) (k := 36) rfl 0⟩) un_75 sz_66 zl_66 (by decide) by_66 rfl hl188 fun Al188 cl188 hAl188 => ?_
   refine Dr.tail (by kernel_rfl) ?_
   refine Tr.va rfl (fun _ _ h1 h2 => zg (h1.ev rfl)) ?_
   refine Tr.va rfl (fun _ _ h1 h2 => zB fo_77_1 (h1.ev rfl)) ?_
   refine Tr.store 2 (cs := [(.slice Al188 (l188).length cl188)]) [(iv p0.Unit), (.slice Ap0_0 (p0.Tools).length cp0_0), (.slice Ap0_1 (p0.Steps).length cp0_1), (.slice Al188 (l188).length cl188), (.slice none 0 0), (.bool false), (iv (-1)), (iv 0), (iv 0), (.bool false), (iv 0), (iv 0)] (wn rfl) rfl rfl rfl rfl sz_75 rfl rfl rfl ?_
   refine Tr.nil (Tr.zT (Tr.zA ?_))
   refine Tr.region ?_
   refine Tr.va rfl (fun _ _ h1 h2 => zm (h1.ev rfl) (h1.ev rfl)) ?_
   refine Tr.mv rfl rfl ?_
   refine Tr.nil ?_
   exact Tr.zW leL3 (restL3, (iL3 + 1), l188, Al188, cl188) ⟨rfl, zAI hdL3, zf hdL3, H, hAl188⟩ (.cons rfl (.cons rfl (.cons rfl (.cons rfl (.cons (congrArg (fun z => some (Value.int .i64 z)) (zAH hdL3 hp0_0.form)) .nil))))) (.cons rfl (.cons rfl (.cons rfl .nil)))
  | cons xL4 restL4 =>
   rw [F_plot_newMachine_L4.eq_2] at H
   refine Tr.sr ?_
   refine Tr.va rfl (fun _ _ h1 h2 => zn (h1.ev rfl) (h1.ev rfl)) ?_
   refine Tr.nil (Tr.zA ?_)
   refine Tr.seq ?_
   refine Tr.condT rfl (range_on hdL4) ?_
   refine Tr.skip (Tr.zA ?_)
   refine Tr.seq ?_
   refine Tr.block ?_
   refine Tr.sr ?_
   refine Tr.va rfl (fun _ _ h1 h2 => zI el_31 (h1.ev rfl) hoku165_0.form (h1.ev rfl) (Int.natCast_nonneg _) (zf hdL4)) ?_
   refine Tr.va rfl (fun _ _ h1 h2 => zQ (cs := [(iv xL4.X0), (iv xL4.Y0), (iv xL4.X1), (iv xL4.Y1)]) ag_36 sz_36 (h1.ev rfl) (zO.take (rdF ef_TRect (hoku165_0.rl) (range_at hdL4) h2) 4) rfl) ?_
   refine Tr.alloc 37 (wn rfl) rfl ze_36 fun b189 => ?_
   refine Tr.store 37 (cs := [(iv xL4.X0), (iv xL4.Y0), (iv xL4.X1), (iv xL4.Y1)]) [(iv xL4.X0), (iv xL4.Y0), (iv xL4.X1), (iv xL4.Y1)] (wn rfl) rfl rfl rfl rfl sz_36 rfl rfl rfl ?_
   refine Tr.nil (Tr.zA ?_)
   refine Tr.region ?_
   refine Tr.mv rfl rfl ?_
   refine Tr.va rfl (fun _ _ h1 h2 => zB fo_36_0 (h1.ev rfl)) ?_
   refine Tr.va rfl (fun _ _ h1 h2 => zC ag_3 (h1.ev rfl) (rdb h2 (vs := [(iv xL4.X0), (iv xL4.Y0), (iv xL4.X1), (iv xL4.Y1)]) (k := 37) rfl 0) rfl) ?_
   refine Tr.va rfl (fun _ _ h1 h2 => zB fo_25_0 (h1.ev rfl)) ?_
   refine Tr.va rfl (fun _ _ h1 h2 => zC ag_3 (h1.ev rfl) (rdb h2 (vs := [(iv p0.Unit), (.slice Ap0_0 (p0.Tools).length cp0_0), (.slice Ap0_1 (p0.Steps).length cp0_1)]) (k := 1) rfl 0) rfl) ?_
   refine Tr.va rfl (fun _ _ h1 h2 => run_mul (h1.ev rfl) (h1.ev rfl)) ?_
   refine Tr.va rfl (fun _ _ h1 h2 => zB fo_36_1 (h1.ev rfl)) ?_
   refine Tr.va rfl (fun _ _ h1 h2 => zC ag_3 (h1.ev rfl) (rdb h2 (vs := [(iv xL4.X0), (iv xL4.Y0), (iv xL4.X1), (iv xL4.Y1)]) (k := 37) rfl 1) rfl) ?_
   refine Tr.va rfl (fun _ _ h1 h2 => zB fo_25_0 (h1.ev rfl)) ?_
   refine Tr.va rfl (fun _ _ h1 h2 => zC ag_3 (h1.ev rfl) (rdb h2 (vs := [(iv p0.Unit), (.slice Ap0_0 (p0.Tools).length cp0_0), (.slice Ap0_1 (p0.Steps).length cp0_1)]) (k := 1) rfl 0) rfl) ?_
   refine Tr.va rfl (fun _ _ h1 h2 => run_mul (h1.ev rfl) (h1.ev rfl)) ?_
   refine Tr.va rfl (fun _ _ h1 h2 => zB fo_36_2 (h1.ev rfl)) ?_
   refine Tr.va rfl (fun _ _ h1 h2 => zC ag_3 (h1.ev rfl) (rdb h2 (vs := [(iv xL4.X0), (iv xL4.Y0), (iv xL4.X1), (iv xL4.Y1)]) (k := 37) rfl 2) rfl) ?_
   refine Tr.va rfl (fun _ _ h1 h2 => zB fo_25_0 (h1.ev rfl)) ?_
   refine Tr.va rfl (fun _ _ h1 h2 => zC ag_3 (h1.ev rfl) (rdb h2 (vs := [(iv p0.Unit), (.slice Ap0_0 (p0.Tools).length cp0_0), (.slice Ap0_1 (p0.Steps).length cp0_1)]) (k := 1) rfl 0) rfl) ?_
   refine Tr.va rfl (fun _ _ h1 h2 => run_mul (h1.ev rfl) (h1.ev rfl)) ?_
   refine Tr.va rfl (fun _ _ h1 h2 => zB fo_36_3 (h1.ev rfl)) ?_
   refine Tr.va rfl (fun _ _ h1 h2 => zC ag_3 (h1.ev rfl) (rdb h2 (vs := [(iv xL4.X0), (iv xL4.Y0), (iv xL4.X1), (iv xL4.Y1)]) (k := 37) rfl 3) rfl) ?_
   refine Tr.va rfl (fun _ _ h1 h2 => zB fo_25_0 (h1.ev rfl)) ?_
   refine Tr.va rfl (fun _ _ h1 h2 => zC ag_3 (h1.ev rfl) (rdb h2 (vs := [(iv p0.Unit), (.slice Ap0_0 (p0.Tools).length cp0_0), (.slice Ap0_1 (p0.Steps).length cp0_1)]) (k := 1) rfl 0) rfl) ?_
   refine Tr.va rfl (fun _ _ h1 h2 => run_mul (h1.ev rfl) (h1.ev rfl)) ?_
   refine Tr.build (vs := [(0, (iv (w64 (xL4.X0 * p0.Unit)))), (1, (iv (w64 (xL4.Y0 * p0.Unit)))), (2, (iv (w64 (xL4.X1 * p0.Unit)))), (3, (iv (w64 (xL4.Y1 * p0.Unit))))]) (cs := [(iv (w64 (xL4.X0 * p0.Unit))), (iv (w64 (xL4.Y0 * p0.Unit))), (iv (w64 (xL4.X1 * p0.Unit))), (iv (w64 (xL4.Y1 * p0.Unit)))]) (wn rfl) rfl (zY rfl (zY rfl (zY rfl (zY rfl evs_nil)))) (by kernel_rfl) ?_
   refine Tr.buildSlice 38 (e := 36) (vs := [(0, (.agg #[(iv (w64 (xL4.X0 * p0.Unit))), (iv (w64 (xL4.Y0 * p0.Unit))), (iv (w64 (xL4.X1 * p0.Unit))), (iv (w64 (xL4.Y1 * p0.Unit)))]))]) (cs := [(iv (w64 (xL4.X0 * p0.Unit))), (iv (w64 (xL4.Y0 * p0.Unit))), (iv (w64 (xL4.X1 * p0.Unit))), (iv (w64 (xL4.Y1 * p0.Unit)))]) (wn rfl) rfl (zY rfl evs_nil) (by kernel_rfl) fun b190 => ?_
   obtain ⟨l191, hl191, H⟩ := bnd H
   refine Tr.append 30 (t := zM) (l := l181) (l2 := [(zR.mk (w64 (xL4.X0 * p0.Unit)) (w64 (xL4.Y0 * p0.Unit)) (w64 (xL4.X1 * p0.Unit)) (w64 (xL4.Y1 * p0.Unit)))]) (wn rfl) rfl rfl rfl rfl (fun W hW => ⟨[[(iv (w64 (xL4.X0 * p0.Unit))), (iv (w64 (xL4.Y0 * p0.Unit))), (iv (w64 (xL4.X1 * p0.Unit))), (iv (w64 (xL4.Y1 * p0.Unit)))]], (.cons ⟨(), trivial, rfl⟩ .nil), rdb hW (vs := [(iv (w64 (xL4.X0 * p0.Unit))), (iv (w64 (xL4.Y0 * p0.Unit))), (iv (w64 (xL4.X1 * p0.Unit))), (iv (w64 (xL4.Y1 * p0.Unit)))]) (k := 38) rfl 0⟩) un_31 sz_36 zl_36 (by decide) by_36 rfl hl191 fun Al191 cl191 hAl191 => ?_
   refine Tr.asg rfl rfl ?_
   refine Tr.nil (Tr.zT (Tr.zA ?_))
   refine Tr.region ?_
   refine Tr.va rfl (fun _ _ h1 h2 => zm (h1.ev rfl) (h1.ev rfl)) ?_
   refine Tr.mv rfl rfl ?_
   refine Tr.nil ?_
   exact Tr.zW leL4 (restL4, (iL4 + 1), l191, Al191, cl191) ⟨rfl, zAI hdL4, zf hdL4, H, hAl191⟩ (.cons rfl (.cons rfl (.cons rfl (.cons rfl (.cons rfl (.cons rfl (.cons rfl (.cons rfl (.cons (congrArg (fun z => some (Value.int .i64 z)) (zAH hdL4 hoku165_0.form)) .nil))))))))) (.cons rfl (.cons rfl (.cons rfl (.cons rfl .nil))))

theorem F_plot_machine__moved_ok {w : Bs} (p0 : zo) (Ap0_0 : Option Addr) (cp0_0 : Nat) (hp0_0 : Sl w.R w.W zh Ap0_0 cp0_0 p0.p.Tools) (Ap0_1 : Option Addr) (cp0_1 : Nat) (hp0_1 : Sl w.R w.W zG Ap0_1 cp0_1 p0.p.Steps) (Ap0_2 : Option Addr) (cp0_2 : Nat) (hp0_2 : Sl w.R w.W zAA Ap0_2 cp0_2 p0.tools) (Ap0_3 : Option Addr) (cp0_3 : Nat) (hp0_3 : Sl w.R w.W zH Ap0_3 cp0_3 p0.image) (bp0 : Nat) (hbp0 : w.R bp0) (hcp0 : zO w.W bp0 0 [(iv p0.p.Unit), (.slice Ap0_0 (p0.p.Tools).length cp0_0), (.slice Ap0_1 (p0.p.Steps).length cp0_1), (.slice Ap0_2 (p0.tools).length cp0_2), (.slice Ap0_3 (p0.image).length cp0_3), (.bool p0.clear), (iv p0.tool), (iv p0.place.X), (iv p0.place.Y), (.bool p0.placed), (iv p0.off), (iv p0.on)]) (p1 : zJ) (p2 : zJ) (r : zJ) (H : F_plot_machine__moved p0 p1 p2 = some r) (hE : HF w w.W E0) : Calls Tryz.prog 103 [(.pointer (some ⟨bp0, 0, none⟩)), (.agg #[(iv p1.X), (iv p1.Y)]), (.agg #[(iv p2.X), (iv p2.Y)])].toArray w.W fun e W' => e = .returned (.agg #[(iv r.X), (iv r.Y)]) ∧ HF w W' E0 := by
 unfold F_plot_machine__moved at H
 have leB := Bs.Le.refl w
 refine Tr.enter (n := 30) Tryz.func103 rfl rfl rfl hE ?_
 refine Tr.sr ?_
 refine Tr.box 1 (cs := [(iv p1.X), (iv p1.Y)]) (wn rfl) rfl rfl rfl fun b100 => ?_
 refine Tr.box 2 (cs := [(iv p2.X), (iv p2.Y)]) (wn rfl) rfl rfl rfl fun b101 => ?_
 refine Tr.alloc 3 (wn rfl) rfl ze_43 fun b102 => ?_
 refine Tr.nil (Tr.zA ?_)
 refine Tr.seq ?_
 refine Tr.drawTail 22 (by kernel_rfl) (by kernel_rfl) ?_
 refine Tq.va rfl (fun _ _ h1 h2 => zB fo_43_0 (h1.ev rfl)) ?_
 refine Tq.va rfl (fun _ _ h1 h2 => zC ag_3 (h1.ev rfl) (rdb h2 (vs := [(iv p1.X), (iv p1.Y)]) (k := 1) rfl 0) rfl) ?_
 refine Tq.mv rfl rfl ?_
 refine Tq.va rfl (fun _ _ h1 h2 => zg (h1.ev rfl)) ?_
 refine Tq.va rfl (fun _ _ h1 h2 => zB fo_77_0 (h1.ev rfl)) ?_
 refine Tq.va rfl (fun _ _ h1 h2 => zB fo_25_0 (h1.ev rfl)) ?_
 refine Tq.va rfl (fun _ _ h1 h2 => zC ag_3 (h1.ev rfl) (zO.drop (zO.drop (rdR hbp0 hcp0 h2) 0) 0) rfl) ?_
 refine Tq.va rfl (fun _ _ h1 h2 => run_mul (h1.ev rfl) (h1.ev rfl)) ?_
 refine Tq.va rfl (fun _ _ h1 h2 => zB fo_43_0 (h1.ev rfl)) ?_
 refine Tq.va rfl (fun _ _ h1 h2 => zC ag_3 (h1.ev rfl) (rdb h2 (vs := [(iv p2.X), (iv p2.Y)]) (k := 2) rfl 0) rfl) ?_
 refine Tq.va rfl (fun _ _ h1 h2 => zm (h1.ev rfl) (h1.ev rfl)) ?_
 refine Tq.va rfl (fun _ _ h1 h2 => zB fo_43_1 (h1.ev rfl)) ?_
 refine Tq.va rfl (fun _ _ h1 h2 => zC ag_3 (h1.ev rfl) (rdb h2 (vs := [(iv p1.X), (iv p1.Y)]) (k := 1) rfl 1) rfl) ?_
 refine Tq.mv rfl rfl ?_
 refine Tq.va rfl (fun _ _ h1 h2 => zg (h1.ev rfl)) ?_
 refine Tq.va rfl (fun _ _ h1 h2 => zB fo_77_0 (h1.ev rfl)) ?_
 refine Tq.va rfl (fun _ _ h1 h2 => zB fo_25_0 (h1.ev rfl)) ?_
 refine Tq.va rfl (fun _ _ h1 h2 => zC ag_3 (h1.ev rfl) (zO.drop (zO.drop (rdR hbp0 hcp0 h2) 0) 0) rfl) ?_
 refine Tq.va rfl (fun _ _ h1 h2 => run_mul (h1.ev rfl) (h1.ev rfl)) ?_
 refine Tq.va rfl (fun _ _ h1 h2 => zB fo_43_1 (h1.ev rfl)) ?_
 refine Tq.va rfl (fun _ _ h1 h2 => zC ag_3 (h1.ev rfl) (rdb h2 (vs := [(iv p2.X), (iv p2.Y)]) (k := 2) rfl 1) rfl) ?_
 refine Tq.va rfl (fun _ _ h1 h2 => zm (h1.ev rfl) (h1.ev rfl)) ?_
 refine Tq.nil ?_
 refine Tr.build (vs := [(0, (iv (w64 ((w64 (p1.X * p0.p.Unit)) + p2.X)))), (1, (iv (w64 ((w64 (p1.Y * p0.p.Unit)) + p2.Y))))]) (cs := [(iv (w64 ((w64 (p1.X * p0.p.Unit)) + p2.X))), (iv (w64 ((w64 (p1.Y * p0.p.Unit)) + p2.Y)))]) (wn rfl) rfl (zY rfl (zY rfl evs_nil)) (by kernel_rfl) ?_
 refine Tr.store 3 (cs := [(iv (w64 ((w64 (p1.X * p0.p.Unit)) + p2.X))), (iv (w64 ((w64 (p1.Y * p0.p.Unit)) + p2.Y)))]) [(iv (w64 ((w64 (p1.X * p0.p.Unit)) + p2.X))), (iv (w64 ((w64 (p1.Y * p0.p.Unit)) + p2.Y)))] (wn rfl) rfl rfl rfl rfl sz_43 rfl rfl rfl ?_
 refine Tr.nil (Tr.zA ?_)
 refine Tr.ret ?_
 obtain rfl := Option.some.inj H
 exact Tr.out (m := [(.agg #[(iv (w64 ((w64 (p1.X * p0.p.Unit)) + p2.X))), (iv (w64 ((w64 (p1.Y * p0.p.Unit)) + p2.Y)))])]) [3] (res_cell rfl rfl ag_43 sz_43 zP) (fun W hW => ⟨rfl, hW.low leB⟩)

theorem F_shape_within_ok {w : Bs} (p0 : Int) (p1 : Int) (p2 : Int) (r : Bool) (H : F_shape_within p0 p1 p2 = some r) (hE : HF w w.W E0) : Calls Tryz.prog 158 [(iv p0), (iv p1), (iv p2)].toArray w.W fun e W' => e = .returned (.bool r) ∧ HF w W' E0 := by
 unfold F_shape_within at H
 have leB := Bs.Le.refl w
 refine Tr.enter (n := 15) Tryz.func158 rfl rfl rfl hE ?_
 refine Tr.sr ?_
 refine Tr.asg rfl rfl ?_
 refine Tr.nil (Tr.zA ?_)
 refine Tr.sr ?_
 refine Tr.mv rfl rfl ?_
 refine Tr.mv rfl rfl ?_
 refine Tr.va rfl (fun _ _ h1 h2 => run_geq (h1.ev rfl) (h1.ev rfl)) ?_
 refine Tr.mv rfl rfl ?_
 refine Tr.mid0 4 [(14, (.bool ((decide (p1 ≤ p0)) && (decide (p0 ≤ p2)))))] [] ?_ ?_
 ·cases hg99 : (decide (p1 ≤ p0))
  ·refine Tr.pass rfl rfl rfl rfl rfl (by decide) ?_
   refine Tr.pass rfl rfl rfl rfl rfl (by decide) ?_
   refine Tr.pass rfl rfl rfl rfl rfl (by decide) ?_
   refine Tr.va rfl (fun _ _ h1 h2 => ze (h1.ev rfl) (h1.ev rfl)) ?_
   exact Tr.nil (Tr.fin0 (.cons rfl .nil) .nil)
  ·refine Tr.val (wg rfl rfl rfl) rfl (fun _ _ h1 h2 => run_move (h1.ev rfl)) ?_
   refine Tr.val (wg rfl rfl rfl) rfl (fun _ _ h1 h2 => run_move (h1.ev rfl)) ?_
   refine Tr.val (wg rfl rfl rfl) rfl (fun _ _ h1 h2 => run_leq (h1.ev rfl) (h1.ev rfl)) ?_
   refine Tr.va rfl (fun _ _ h1 h2 => zb (h1.ev rfl) (h1.ev rfl)) ?_
   exact Tr.nil (Tr.fin0 (.cons rfl .nil) .nil)
 ·show Tr _ _ (LF [(14, (.bool ((decide (p1 ≤ p0)) && (decide (p0 ≤ p2)))))]) (LE []) _
  refine Tr.asg rfl rfl ?_
  refine Tr.nil (Tr.zA ?_)
  refine Tr.ret ?_
  obtain rfl := Option.some.inj H
  exact Tr.out (m := [(.bool ((decide (p1 ≤ p0)) && (decide (p0 ≤ p2))))]) [] (zL rfl zP) (fun W hW => ⟨rfl, hW.low leB⟩)

theorem F_shape_IsAt_ok {w : Bs} (p0 : Int) (r : Bool) (H : F_shape_IsAt p0 = some r) (hE : HF w w.W E0) : Calls Tryz.prog 129 [(iv p0)].toArray w.W fun e W' => e = .returned (.bool r) ∧ HF w W' E0 := by
 unfold F_shape_IsAt at H
 have leB := Bs.Le.refl w
 refine Tr.enter (n := 5) Tryz.func129 rfl rfl rfl hE ?_
 refine Tr.sr ?_
 refine Tr.asg rfl rfl ?_
 refine Tr.nil (Tr.zA ?_)
 refine Tr.sr ?_
 refine Tr.mv rfl rfl ?_
 obtain ⟨y100, hy100, H⟩ := bnd H
 refine Tr.call0 (r := (.bool y100)) (wn rfl) rfl Tryz.call158 (zF rfl (zF rfl (zF rfl zN))) (fun W hW => F_shape_within_ok p0 (-1000000) 1000000 y100 hy100 (HF.start _)) ?_
 refine Tr.asg rfl rfl ?_
 refine Tr.nil (Tr.zA ?_)
 refine Tr.ret ?_
 obtain rfl := Option.some.inj H
 exact Tr.out (m := [(.bool y100)]) [] (zL rfl zP) (fun W hW => ⟨rfl, hW.low leB⟩)

theorem F_shape_IsPoint_ok {w : Bs} (p0 : zJ) (r : Bool) (H : F_shape_IsPoint p0 = some r) (hE : HF w w.W E0) : Calls Tryz.prog 123 [(.agg #[(iv p0.X), (iv p0.Y)])].toArray w.W fun e W' => e = .returned (.bool r) ∧ HF w W' E0 := by
 unfold F_shape_IsPoint at H
 have leB := Bs.Le.refl w
 refine Tr.enter (n := 11) Tryz.func123 rfl rfl rfl hE ?_
 refine Tr.sr ?_
 refine Tr.box 1 (cs := [(iv p0.X), (iv p0.Y)]) (wn rfl) rfl rfl rfl fun b100 => ?_
 refine Tr.asg rfl rfl ?_
 refine Tr.nil (Tr.zA ?_)
 refine Tr.sr ?_
 refine Tr.va rfl (fun _ _ h1 h2 => zB fo_43_0 (h1.ev rfl)) ?_
 refine Tr.va rfl (fun _ _ h1 h2 => zC ag_3 (h1.ev rfl) (rdb h2 (vs := [(iv p0.X), (iv p0.Y)]) (k := 1) rfl 0) rfl) ?_
 obtain ⟨y101, hy101, H⟩ := bnd H
 refine Tr.call0 (r := (.bool y101)) (wn rfl) rfl Tryz.call129 (zF rfl zN) (fun W hW => F_shape_IsAt_ok p0.X y101 hy101 (HF.start _)) ?_
 refine Tr.mv rfl rfl ?_
 obtain ⟨g103, hg103, H⟩ := bnd H
 refine Tr.mid0 4 [(10, (.bool g103))] [(1, bx b100 #[(iv p0.X), (iv p0.Y)] 43)] ?_ ?_
 ·cases hg104 : y101
  ·rw [hg104] at hg103
   rw [if_neg (by decide)] at hg103
   have H := hg103
   obtain rfl := Option.some.inj H
   refine Tr.pass rfl rfl rfl rfl rfl (by decide) ?_
   refine Tr.pass rfl rfl rfl rfl rfl (by decide) ?_
   refine Tr.pass rfl rfl rfl rfl rfl (by decide) ?_
   refine Tr.va rfl (fun _ _ h1 h2 => ze (h1.ev rfl) (h1.ev rfl)) ?_
   exact Tr.nil (Tr.fin0 (.cons rfl .nil) (.cons rfl .nil))
  ·rw [hg104] at hg103
   rw [if_pos rfl] at hg103
   have H := hg103
   refine Tr.val (wg rfl rfl rfl) rfl (fun _ _ h1 h2 => zB fo_43_1 (h1.ev rfl)) ?_
   refine Tr.val (wg rfl rfl rfl) rfl (fun _ _ h1 h2 => zC ag_3 (h1.ev rfl) (rdb h2 (vs := [(iv p0.X), (iv p0.Y)]) (k := 1) rfl 1) rfl) ?_
   obtain ⟨y104, hy104, H⟩ := bnd H
   refine Tr.call0 (r := (.bool y104)) (wg rfl rfl rfl) rfl Tryz.call129 (zF rfl zN) (fun W hW => F_shape_IsAt_ok p0.Y y104 hy104 (HF.start _)) ?_
   refine Tr.va rfl (fun _ _ h1 h2 => zb (h1.ev rfl) (h1.ev rfl)) ?_
   obtain rfl := Option.some.inj H
   exact Tr.nil (Tr.fin0 (.cons rfl .nil) (.cons rfl .nil))
 ·show Tr _ _ (LF [(10, (.bool g103))]) (LE [(1, bx b100 #[(iv p0.X), (iv p0.Y)] 43)]) _
  refine Tr.asg rfl rfl ?_
  refine Tr.nil (Tr.zA ?_)
  refine Tr.ret ?_
  obtain rfl := Option.some.inj H
  exact Tr.out (m := [(.bool g103)]) [] (zL rfl zP) (fun W hW => ⟨rfl, hW.low leB⟩)

theorem F_plot_far_ok {w : Bs} (p0 : zJ) (p1 : zJ) (r : Int) (H : F_plot_far p0 p1 = some r) (hE : HF w w.W E0) : Calls Tryz.prog 124 [(.agg #[(iv p0.X), (iv p0.Y)]), (.agg #[(iv p1.X), (iv p1.Y)])].toArray w.W fun e W' => e = .returned (iv r) ∧ HF w W' E0 := by
 unfold F_plot_far at H
 have leB := Bs.Le.refl w
 refine Tr.enter (n := 28) Tryz.func124 rfl rfl rfl hE ?_
 refine Tr.sr ?_
 refine Tr.box 1 (cs := [(iv p0.X), (iv p0.Y)]) (wn rfl) rfl rfl rfl fun b100 => ?_
 refine Tr.box 2 (cs := [(iv p1.X), (iv p1.Y)]) (wn rfl) rfl rfl rfl fun b101 => ?_
 refine Tr.asg rfl rfl ?_
 refine Tr.nil (Tr.zA ?_)
 refine Tr.sr ?_
 refine Tr.va rfl (fun _ _ h1 h2 => zB fo_43_0 (h1.ev rfl)) ?_
 refine Tr.va rfl (fun _ _ h1 h2 => zC ag_3 (h1.ev rfl) (rdb h2 (vs := [(iv p0.X), (iv p0.Y)]) (k := 1) rfl 0) rfl) ?_
 refine Tr.va rfl (fun _ _ h1 h2 => zB fo_43_0 (h1.ev rfl)) ?_
 refine Tr.va rfl (fun _ _ h1 h2 => zC ag_3 (h1.ev rfl) (rdb h2 (vs := [(iv p1.X), (iv p1.Y)]) (k := 2) rfl 0) rfl) ?_
 refine Tr.va rfl (fun _ _ h1 h2 => run_sub (h1.ev rfl) (h1.ev rfl)) ?_
 refine Tr.va rfl (fun _ _ h1 h2 => zB fo_43_0 (h1.ev rfl)) ?_
 refine Tr.va rfl (fun _ _ h1 h2 => zC ag_3 (h1.ev rfl) (rdb h2 (vs := [(iv p1.X), (iv p1.Y)]) (k := 2) rfl 0) rfl) ?_
 refine Tr.va rfl (fun _ _ h1 h2 => zB fo_43_0 (h1.ev rfl)) ?_
 refine Tr.va rfl (fun _ _ h1 h2 => zC ag_3 (h1.ev rfl) (rdb h2 (vs := [(iv p0.X), (iv p0.Y)]) (k := 1) rfl 0) rfl) ?_
 refine Tr.va rfl (fun _ _ h1 h2 => run_sub (h1.ev rfl) (h1.ev rfl)) ?_
 refine Tr.va rfl (fun _ _ h1 h2 => run_max (h1.ev rfl) (h1.ev rfl) _) ?_
 refine Tr.va rfl (fun _ _ h1 h2 => zB fo_43_1 (h1.ev rfl)) ?_
 refine Tr.va rfl (fun _ _ h1 h2 => zC ag_3 (h1.ev rfl) (rdb h2 (vs := [(iv p0.X), (iv p0.Y)]) (k := 1) rfl 1) rfl) ?_
 refine Tr.va rfl (fun _ _ h1 h2 => zB fo_43_1 (h1.ev rfl)) ?_
 refine Tr.va rfl (fun _ _ h1 h2 => zC ag_3 (h1.ev rfl) (rdb h2 (vs := [(iv p1.X), (iv p1.Y)]) (k := 2) rfl 1) rfl) ?_
 refine Tr.va rfl (fun _ _ h1 h2 => run_sub (h1.ev rfl) (h1.ev rfl)) ?_
 refine Tr.va rfl (fun _ _ h1 h2 => zB fo_43_1 (h1.ev rfl)) ?_
 refine Tr.va rfl (fun _ _ h1 h2 => zC ag_3 (h1.ev rfl) (rdb h2 (vs := [(iv p1.X), (iv p1.Y)]) (k := 2) rfl 1) rfl) ?_
 refine Tr.va rfl (fun _ _ h1 h2 => zB fo_43_1 (h1.ev rfl)) ?_
 refine Tr.va rfl (fun _ _ h1 h2 => zC ag_3 (h1.ev rfl) (rdb h2 (vs := [(iv p0.X), (iv p0.Y)]) (k := 1) rfl 1) rfl) ?_
 refine Tr.va rfl (fun _ _ h1 h2 => run_sub (h1.ev rfl) (h1.ev rfl)) ?_
 refine Tr.va rfl (fun _ _ h1 h2 => run_max (h1.ev rfl) (h1.ev rfl) _) ?_
 refine Tr.va rfl (fun _ _ h1 h2 => zm (h1.ev rfl) (h1.ev rfl)) ?_
 refine Tr.asg rfl rfl ?_
 refine Tr.nil (Tr.zA ?_)
 refine Tr.ret ?_
 obtain rfl := Option.some.inj H
 exact Tr.out (m := [(iv (w64 ((max (w64 (p0.X - p1.X)) (w64 (p1.X - p0.X))) + (max (w64 (p0.Y - p1.Y)) (w64 (p1.Y - p0.Y))))))]) [] (zL rfl zP) (fun W hW => ⟨rfl, hW.low leB⟩)

theorem F_shape_Set__Rects_ok (N : Nat) {w : Bs} (p0 : (List zS)) (Ap0_0 : Option Addr) (cp0_0 : Nat) (hp0_0 : Sl w.R w.W zH Ap0_0 cp0_0 p0) (r : (List zR)) (H : F_shape_Set__Rects N p0 = some r) (hE : HF w w.W (LEn [emp])) : Calls Tryz.prog 29 [(.slice Ap0_0 (p0).length cp0_0)].toArray w.W fun e W' => ∃ u : (Option Addr × Nat), e = .returned (.slice u.1 (r).length u.2) ∧ (SlF u.1 (r).length u.2) ∧ HF w W' (LEn [ow u.1 u.2 36 zM r]) := by
 unfold F_shape_Set__Rects at H
 have leB := Bs.Le.refl w
 refine Tr.enter (n := 41) Tryz.func29 rfl rfl rfl hE ?_
 refine Tr.sr ?_
 refine Tr.asg rfl rfl ?_
 refine Tr.nilOwn 1 36 zM ?_
 show Tr _ _ (uf _ 2 (.slice none (([] : List zR)).length 0)) _ _
 refine Tr.nil (Tr.zA ?_)
 refine Tr.sr ?_
 refine Tr.asg rfl rfl ?_
 refine Tr.nilOwn 2 36 zM ?_
 show Tr _ _ (uf _ 3 (.slice none (([] : List zR)).length 0)) _ _
 refine Tr.nil (Tr.zA ?_)
 refine Tr.seq ?_
 refine Tr.sr ?_
 refine Tr.mv rfl rfl ?_
 refine Tr.va rfl (fun _ _ h1 h2 => zl un_66 (h1.ev rfl)) ?_
 refine Tr.mv rfl rfl ?_
 refine Tr.nil (Tr.zA ?_)
 refine Tr.block ?_
 refine Tr.loop (σ := (List zS) × Nat × (List zR) × (Option Addr) × Nat) (fun m w s => m = s.1.length + 1 ∧ s.1 = List.drop s.2.1 p0 ∧ s.2.1 ≤ p0.length ∧ zAG N s.1 s.2.1 s.2.2.1 = some r ∧ SlF s.2.2.2.1 (s.2.2.1).length s.2.2.2.2) (fun s => [(3, (.slice s.2.2.2.1 (s.2.2.1).length s.2.2.2.2)), (7, (.slice Ap0_0 (p0).length cp0_0)), (8, (iv (p0.length : Int))), (9, (iv (s.2.1 : Int)))]) (fun s => [(2, ow s.2.2.2.1 s.2.2.2.2 36 zM s.2.2.1)]) (p0.length + 1) (p0, 0, ([] : List zR), none, 0) ⟨rfl, rfl, Nat.zero_le _, H, slf_nil⟩ (.cons rfl (.cons rfl (.cons rfl (.cons rfl .nil)))) (.cons rfl .nil) (fun _ _ h => absurd h.1 (by simp)) ?_
 intro w leL3 m s hs
 obtain ⟨restL3, iL3, l152, Al152, cl152⟩ := s
 obtain ⟨hmL3, hdL3, hiL3, H, hl152⟩ := hs
 replace hdL3 : restL3 = List.drop iL3 p0 := hdL3
 replace H : zAG N restL3 iL3 l152 = some r := H
 replace hmL3 : m + 1 = restL3.length + 1 := hmL3
 replace hp0_0 := hp0_0.leR leL3
 replace leB := leB.trans leL3
 replace hl152 : SlF Al152 (l152).length cl152 := hl152
 obtain rfl : m = restL3.length := by omega
 clear hmL3
 show Tr _ _ (LF [(3, (.slice Al152 (l152).length cl152)), (7, (.slice Ap0_0 (p0).length cp0_0)), (8, (iv (p0.length : Int))), (9, (iv (iL3 : Int)))]) (LE [(2, ow Al152 cl152 36 zM l152)]) _
 cases restL3 with
 | nil =>
  rw [zAG.eq_1] at H
  refine Tr.sr ?_
  refine Tr.va rfl (fun _ _ h1 h2 => zn (h1.ev rfl) (h1.ev rfl)) ?_
  refine Tr.nil (Tr.zA ?_)
  refine Tr.seq ?_
  refine Tr.condF rfl (range_nil hdL3) ?_
  refine Tr.exit (Tr.zV (Tr.zV (Tr.zw (Tr.zA ?_))))
  refine Tr.sr ?_
  refine Tr.mv rfl rfl ?_
  refine Tr.asg rfl rfl ?_
  refine Tr.nil (Tr.zA ?_)
  refine Tr.ret ?_
  obtain rfl := Option.some.inj H
  exact Tr.out (m := [(.slice Al152 (l152).length cl152)]) [] (zL rfl zP) (fun W hW => ⟨(Al152, cl152), rfl, hl152, HF.lowE leB (hW.pick (ks := [2]) (by decide) (zK rfl za)) ⟨ow_any _ _ _ _ tr_TRect, trivial⟩⟩)
 | cons xL3 restL3 =>
  rw [zAG.eq_2] at H
  refine Tr.sr ?_
  refine Tr.va rfl (fun _ _ h1 h2 => zn (h1.ev rfl) (h1.ev rfl)) ?_
  refine Tr.nil (Tr.zA ?_)
  refine Tr.seq ?_
  refine Tr.condT rfl (range_on hdL3) ?_
  refine Tr.skip (Tr.zA ?_)
  refine Tr.seq ?_
  refine Tr.block ?_
  refine Tr.sr ?_
  obtain ⟨u153, hRu153, hoku153, hcu153⟩ := (hp0_0).el (range_at hdL3)
  obtain ⟨Au153_0, cu153_0⟩ := u153
  have hoku153_0 := hoku153
  replace hoku153_0 : Sl w.R w.W zX Au153_0 cu153_0 xL3.Xs := hoku153_0
  refine Tr.va rfl (fun _ _ h1 h2 => zI el_66 (h1.ev rfl) hp0_0.form (h1.ev rfl) (Int.natCast_nonneg _) (zf hdL3)) ?_
  refine Tr.va rfl (fun _ _ h1 h2 => zQ (cs := [(iv xL3.Y0), (iv xL3.Y1), (.slice Au153_0 (xL3.Xs).length cu153_0)]) ag_107 sz_107 (h1.ev rfl) (zO.take (rdR hRu153 hcu153 h2) 3) rfl) ?_
  refine Tr.alloc 11 (wn rfl) rfl ze_107 fun b154 => ?_
  refine Tr.store 11 (cs := [(iv xL3.Y0), (iv xL3.Y1), (.slice Au153_0 (xL3.Xs).length cu153_0)]) [(iv xL3.Y0), (iv xL3.Y1), (.slice Au153_0 (xL3.Xs).length cu153_0)] (wn rfl) rfl rfl rfl rfl sz_107 rfl rfl rfl ?_
  refine Tr.nil (Tr.zA ?_)
  refine Tr.sr ?_
  refine Tr.asg rfl rfl ?_
  refine Tr.nil (Tr.zA ?_)
  refine Tr.block ?_
  refine Tr.loop (σ := (List zR) × Int × (Option Addr) × Nat) (fun m w s => F_shape_Set__Rects_L4 (zAG N restL3 (iL3 + 1)) xL3 m s.1 s.2.1 = some r ∧ SlF s.2.2.1 (s.1).length s.2.2.2) (fun s => [(3, (.slice s.2.2.1 (s.1).length s.2.2.2)), (5, (.pointer (some ⟨b154, 0, none⟩))), (6, (iv s.2.1)), (7, (.slice Ap0_0 (p0).length cp0_0)), (8, (iv (p0.length : Int))), (9, (iv (iL3 : Int)))]) (fun s => [(2, ow s.2.2.1 s.2.2.2 36 zM s.1), (11, bx b154 #[(iv xL3.Y0), (iv xL3.Y1), (.slice Au153_0 (xL3.Xs).length cu153_0)] 107)]) N (l152, 0, Al152, cl152) ⟨H, hl152⟩ (.cons rfl (.cons rfl (.cons rfl (.cons rfl (.cons rfl (.cons rfl .nil)))))) (.cons rfl (.cons rfl .nil)) (fun _ _ h => noSome (h.1)) ?_
  intro w leL4 mL4 s hs
  obtain ⟨l169, x170, Al169, cl169⟩ := s
  obtain ⟨H, hl169⟩ := hs
  replace H : F_shape_Set__Rects_L4 (zAG N restL3 (iL3 + 1)) xL3 (mL4 + 1) l169 x170 = some r := H
  replace hoku153_0 := hoku153_0.leR leL4
  replace hp0_0 := hp0_0.leR leL4
  replace leB := leB.trans leL4
  replace leL3 := leL3.trans leL4
  replace hl169 : SlF Al169 (l169).length cl169 := hl169
  rw [F_shape_Set__Rects_L4.eq_2] at H
  show Tr _ _ (LF [(3, (.slice Al169 (l169).length cl169)), (5, (.pointer (some ⟨b154, 0, none⟩))), (6, (iv x170)), (7, (.slice Ap0_0 (p0).length cp0_0)), (8, (iv (p0.length : Int))), (9, (iv (iL3 : Int)))]) (LE [(2, ow Al169 cl169 36 zM l169), (11, bx b154 #[(iv xL3.Y0), (iv xL3.Y1), (.slice Au153_0 (xL3.Xs).length cu153_0)] 107)]) _
  refine Tr.seq ?_
  refine Tr.sr ?_
  refine Tr.mv rfl rfl ?_
  refine Tr.va rfl (fun _ _ h1 h2 => zB fo_107_2 (h1.ev rfl)) ?_
  refine Tr.va rfl (fun _ _ h1 h2 => zC ag_38 (h1.ev rfl) (rdb h2 (vs := [(iv xL3.Y0), (iv xL3.Y1), (.slice Au153_0 (xL3.Xs).length cu153_0)]) (k := 11) rfl 2) rfl) ?_
  refine Tr.va rfl (fun _ _ h1 h2 => zl un_38 (h1.ev rfl)) ?_
  refine Tr.va rfl (fun _ _ h1 h2 => zn (h1.ev rfl) (h1.ev rfl)) ?_
  refine Tr.nil (Tr.zA ?_)
  refine Tr.cond rfl H (fun H => ?_) (fun H => ?_)
  ·refine Tr.skip (Tr.zA ?_)
   refine Tr.seq ?_
   refine Tr.block ?_
   obtain ⟨x172, hx172, H⟩ := bnd H
   obtain ⟨hx1720, hx1721, hx1722⟩ := zq hx172
   obtain ⟨x173, hx173, H⟩ := bnd H
   obtain ⟨hx1730, hx1731, hx1732⟩ := zq hx173
   refine Tr.drawF 18 [(17, .makeFunc (.func 0) #[] #[.tmp 36])] [(17, ⟨37, 14, (.func (.func 0) #[] #[(.agg #[(iv x172), (iv xL3.Y0), (iv x173), (iv xL3.Y1)])]), fun b => .slice (some ⟨b, 0, none⟩) 1 1, fun b => bx b #[(iv x172), (iv xL3.Y0), (iv x173), (iv xL3.Y1)] 36⟩)] [(3, (.slice Al169 (l169).length cl169)), (5, (.pointer (some ⟨b154, 0, none⟩))), (6, (iv x170)), (7, (.slice Ap0_0 (p0).length cp0_0)), (8, (iv (p0.length : Int))), (9, (iv (iL3 : Int))), (13, (iv x170)), (14, (.pointer (some ⟨b154, 2, none⟩))), (15, (.slice Au153_0 (xL3.Xs).length cu153_0)), (16, (iv (xL3.Xs.length : Int))), (17, (.bool (decide (x170 < (xL3.Xs.length : Int))))), (20, (.slice Al169 (l169).length cl169)), (21, (.pointer (some ⟨b154, 2, none⟩))), (22, (.slice Au153_0 (xL3.Xs).length cu153_0)), (23, (iv x170)), (24, (.pointer (some ⟨adB Au153_0, adO Au153_0 + (x170).toNat * 1, none⟩))), (25, (iv x172)), (26, (.pointer (some ⟨b154, 0, none⟩))), (27, (iv xL3.Y0)), (28, (.pointer (some ⟨b154, 2, none⟩))), (29, (.slice Au153_0 (xL3.Xs).length cu153_0)), (30, (iv x170)), (31, (iv (w64 (x170 + 1)))), (32, (.pointer (some ⟨adB Au153_0, adO Au153_0 + ((w64 (x170 + 1))).toNat * 1, none⟩))), (33, (iv x173)), (34, (.pointer (some ⟨b154, 1, none⟩))), (35, (iv xL3.Y1)), (36, (.agg #[(iv x172), (iv xL3.Y0), (iv x173), (iv xL3.Y1)])), (37, (.func (.func 0) #[] #[(.agg #[(iv x172), (iv xL3.Y0), (iv x173), (iv xL3.Y1)])]))] (by kernel_rfl) (by kernel_rfl) (by kernel_rfl) (by kernel_rfl) (by kernel_rfl) (by kernel_rfl) (by kernel_rfl) (fall_cons (fr_lit (vs := [(0, (.agg #[(iv x172), (iv xL3.Y0), (iv x173), (iv xL3.Y1)]))]) rfl rfl rfl (by kernel_rfl)) fall_nil) (fall_cons rfl fall_nil) (fall_cons rfl fall_nil) ?_ ?_
   ·refine Tq.mv rfl rfl ?_
    refine Tq.va rfl (fun _ _ h1 h2 => zB fo_107_2 (h1.ev rfl)) ?_
    refine Tq.va rfl (fun _ _ h1 h2 => zC ag_38 (h1.ev rfl) (rdb h2 (vs := [(iv xL3.Y0), (iv xL3.Y1), (.slice Au153_0 (xL3.Xs).length cu153_0)]) (k := 11) rfl 2) rfl) ?_
    refine Tq.mv rfl rfl ?_
    refine Tq.va rfl (fun _ _ h1 h2 => zI el_38 (h1.ev rfl) hoku153_0.form (h1.ev rfl) hx1720 hx1721) ?_
    refine Tq.va rfl (fun _ _ h1 h2 => zC ag_3 (h1.ev rfl) (rdF ef_i64 hoku153_0 hx1722 h2) rfl) ?_
    refine Tq.va rfl (fun _ _ h1 h2 => zB fo_107_0 (h1.ev rfl)) ?_
    refine Tq.va rfl (fun _ _ h1 h2 => zC ag_3 (h1.ev rfl) (rdb h2 (vs := [(iv xL3.Y0), (iv xL3.Y1), (.slice Au153_0 (xL3.Xs).length cu153_0)]) (k := 11) rfl 0) rfl) ?_
    refine Tq.va rfl (fun _ _ h1 h2 => zB fo_107_2 (h1.ev rfl)) ?_
    refine Tq.va rfl (fun _ _ h1 h2 => zC ag_38 (h1.ev rfl) (rdb h2 (vs := [(iv xL3.Y0), (iv xL3.Y1), (.slice Au153_0 (xL3.Xs).length cu153_0)]) (k := 11) rfl 2) rfl) ?_
    refine Tq.mv rfl rfl ?_
    refine Tq.va rfl (fun _ _ h1 h2 => zm (h1.ev rfl) (h1.ev rfl)) ?_
    refine Tq.va rfl (fun _ _ h1 h2 => zI el_38 (h1.ev rfl) hoku153_0.form (h1.ev rfl) hx1730 hx1731) ?_
    refine Tq.va rfl (fun _ _ h1 h2 => zC ag_3 (h1.ev rfl) (rdF ef_i64 hoku153_0 hx1732 h2) rfl) ?_
    refine Tq.va rfl (fun _ _ h1 h2 => zB fo_107_1 (h1.ev rfl)) ?_
    refine Tq.va rfl (fun _ _ h1 h2 => zC ag_3 (h1.ev rfl) (rdb h2 (vs := [(iv xL3.Y0), (iv xL3.Y1), (.slice Au153_0 (xL3.Xs).length cu153_0)]) (k := 11) rfl 1) rfl) ?_
    refine Tq.build (vs := [(0, (iv x172)), (1, (iv xL3.Y0)), (2, (iv x173)), (3, (iv xL3.Y1))]) (cs := [(iv x172), (iv xL3.Y0), (iv x173), (iv xL3.Y1)]) (wn rfl) rfl (zY rfl (zY rfl (zY rfl (zY rfl evs_nil)))) (by kernel_rfl) ?_
    refine Tq.mkFunc (vs := [(.agg #[(iv x172), (iv xL3.Y0), (iv x173), (iv xL3.Y1)])]) (wn rfl) rfl (zF rfl zN) ?_
    exact Tq.fin (.cons rfl (.cons rfl (.cons rfl (.cons rfl (.cons rfl (.cons rfl (.cons rfl (.cons rfl (.cons rfl (.cons rfl (.cons rfl (.cons rfl (.cons rfl (.cons rfl (.cons rfl (.cons rfl (.cons rfl (.cons rfl (.cons rfl (.cons rfl (.cons rfl (.cons rfl (.cons rfl (.cons rfl (.cons rfl (.cons rfl (.cons rfl (.cons rfl (.cons rfl .nil)))))))))))))))))))))))))))))
   ·intro bs171
    refine Tr.sel (lf := [(5, (.pointer (some ⟨b154, 0, none⟩))), (6, (iv x170)), (7, (.slice Ap0_0 (p0).length cp0_0)), (8, (iv (p0.length : Int))), (9, (iv (iL3 : Int))), (20, (.slice Al169 (l169).length cl169)), (37, (.slice (some ⟨(bs171 17), 0, none⟩) 1 1))]) (le := [(2, ow Al169 cl169 36 zM l169), (11, bx b154 #[(iv xL3.Y0), (iv xL3.Y1), (.slice Au153_0 (xL3.Xs).length cu153_0)] 107), (14, bx (bs171 17) #[(iv x172), (iv xL3.Y0), (iv x173), (iv xL3.Y1)] 36)]) (.cons rfl (.cons rfl (.cons rfl (.cons rfl (.cons rfl (.cons rfl (.cons rfl .nil))))))) (.cons rfl (.cons rfl (.cons rfl .nil))) ?_
    obtain ⟨l174, hl174, H⟩ := bnd H
    refine Tr.append 2 (t := zM) (l := l169) (l2 := [(zR.mk x172 xL3.Y0 x173 xL3.Y1)]) (wn rfl) rfl rfl rfl rfl (fun W hW => ⟨[[(iv x172), (iv xL3.Y0), (iv x173), (iv xL3.Y1)]], (.cons ⟨(), trivial, rfl⟩ .nil), rdb hW (vs := [(iv x172), (iv xL3.Y0), (iv x173), (iv xL3.Y1)]) (k := 14) rfl 0⟩) un_31 sz_36 zl_36 (by decide) by_36 rfl hl174 fun Al174 cl174 hAl174 => ?_
    refine Tr.asg rfl rfl ?_
    refine Tr.nil (Tr.zT (Tr.zA ?_))
    refine Tr.region ?_
    refine Tr.mv rfl rfl ?_
    refine Tr.va rfl (fun _ _ h1 h2 => zm (h1.ev rfl) (h1.ev rfl)) ?_
    refine Tr.asg rfl rfl ?_
    refine Tr.nil ?_
    exact Tr.zW leL4 (l174, (w64 (x170 + 2)), Al174, cl174) ⟨H, hAl174⟩ (.cons rfl (.cons rfl (.cons rfl (.cons rfl (.cons rfl (.cons rfl .nil)))))) (.cons rfl (.cons rfl .nil))
  ·refine Tr.exit (Tr.zV (Tr.zV (Tr.zw (Tr.zT (Tr.zA ?_)))))
   refine Tr.region ?_
   refine Tr.va rfl (fun _ _ h1 h2 => zm (h1.ev rfl) (h1.ev rfl)) ?_
   refine Tr.mv rfl rfl ?_
   refine Tr.nil ?_
   exact Tr.zW leL3 (restL3, (iL3 + 1), l169, Al169, cl169) ⟨rfl, zAI hdL3, zf hdL3, H, hl169⟩ (.cons rfl (.cons rfl (.cons rfl (.cons (congrArg (fun z => some (Value.int .i64 z)) (zAH hdL3 hp0_0.form)) .nil)))) (.cons rfl .nil)

theorem F_shape_Set__Spread_ok (N : Nat) {w : Bs} (p0 : (List zS)) (Ap0_0 : Option Addr) (cp0_0 : Nat) (hp0_0 : Sl w.R w.W zH Ap0_0 cp0_0 p0) (p1 : Int) (p2 : Int) (p3 : Int) (p4 : Int) (r : (List zS)) (H : F_shape_Set__Spread N p0 p1 p2 p3 p4 = some r) (hE : HF w w.W (LEn [emp])) : Calls Tryz.prog 156 [(.slice Ap0_0 (p0).length cp0_0), (iv p1), (iv p2), (iv p3), (iv p4)].toArray w.W fun e W' => ∃ (w' : Bs) (u : (Option Addr × Nat)), w.Le w' ∧ e = .returned (.slice u.1 (r).length u.2) ∧ (SlF u.1 (r).length u.2) ∧ HF w' W' (LEn [ow u.1 u.2 107 zH r]) := by
 unfold F_shape_Set__Spread at H
 have leB := Bs.Le.refl w
 refine Tr.enter (n := 46) Tryz.func156 rfl rfl rfl hE ?_
 refine Tr.sr ?_
 refine Tr.asg rfl rfl ?_
 refine Tr.nilOwn 1 107 zH ?_
 show Tr _ _ (uf _ 10 (.slice none (([] : List zS)).length 0)) _ _
 refine Tr.nil (Tr.zA ?_)
 refine Tr.sr ?_
 refine Tr.mv rfl rfl ?_
 obtain ⟨y100, hy100, H⟩ := bnd H
 refine Tr.callM [2] [emp] (U := (Option Addr × Nat)) (fun u => (.slice u.1 (y100).length u.2)) (fun u => SlF u.1 (y100).length u.2) (fun u => [ow u.1 u.2 36 zM y100]) rfl (zK rfl za) (fun _ => rfl) (wn rfl) rfl Tryz.call29 (zF rfl zN) (fun W hW hp hE => F_shape_Set__Rects_ok N p0 Ap0_0 cp0_0 (hp0_0.ext (hW.extS hp)) y100 hy100 hE) ?_
 intro u hu
 obtain ⟨Ay100_0, cy100_0⟩ := u
 have gy100_0 := hu
 have hgy100_0 : SlF Ay100_0 (y100).length cy100_0 := gy100_0 --@phi
 show Tr _ _ (uf _ 15 (.slice Ay100_0 (y100).length cy100_0)) (up _ 2 (ow Ay100_0 cy100_0 36 zM y100)) _
 refine Tr.asg rfl rfl ?_
 refine Tr.nil (Tr.zA ?_)
 refine Tr.seq ?_
 refine Tr.sr ?_
 refine Tr.mv rfl rfl ?_
 refine Tr.va rfl (fun _ _ h1 h2 => zl un_31 (h1.ev rfl)) ?_
 refine Tr.mv rfl rfl ?_
 refine Tr.nil (Tr.zA ?_)
 refine Tr.block ?_
 refine Tr.loop (σ := (List zR) × Int × (Option Addr) × Nat) (fun m w s => F_shape_Set__Spread_L1 N p1 p2 p3 p4 y100 m s.1 s.2.1 = some r ∧ SlF s.2.2.1 (s.1).length s.2.2.2) (fun s => [(1, (iv p1)), (2, (iv p2)), (3, (iv p3)), (4, (iv p4)), (11, (.slice s.2.2.1 (s.1).length s.2.2.2)), (16, (.slice s.2.2.1 (s.1).length s.2.2.2)), (17, (iv (y100.length : Int))), (18, (iv s.2.1))]) (fun s => [(2, ow s.2.2.1 s.2.2.2 36 zM s.1)]) N (y100, 0, Ay100_0, cy100_0) ⟨H, hgy100_0⟩ (.cons rfl (.cons rfl (.cons rfl (.cons rfl (.cons rfl (.cons rfl (.cons rfl (.cons rfl .nil)))))))) (.cons rfl .nil) (fun _ _ h => noSome (h.1)) ?_
 intro w leL1 mL1 s hs
 obtain ⟨l116, x117, Al116, cl116⟩ := s
 obtain ⟨H, hl116⟩ := hs
 replace H : F_shape_Set__Spread_L1 N p1 p2 p3 p4 y100 (mL1 + 1) l116 x117 = some r := H
 replace leB := leB.trans leL1
 replace hl116 : SlF Al116 (l116).length cl116 := hl116
 rw [F_shape_Set__Spread_L1.eq_2] at H
 show Tr _ _ (LF [(1, (iv p1)), (2, (iv p2)), (3, (iv p3)), (4, (iv p4)), (11, (.slice Al116 (l116).length cl116)), (16, (.slice Al116 (l116).length cl116)), (17, (iv (y100.length : Int))), (18, (iv x117))]) (LE [(2, ow Al116 cl116 36 zM l116)]) _
 refine Tr.sr ?_
 refine Tr.va rfl (fun _ _ h1 h2 => zn (h1.ev rfl) (h1.ev rfl)) ?_
 refine Tr.nil (Tr.zA ?_)
 refine Tr.seq ?_
 refine Tr.cond rfl H (fun H => ?_) (fun H => ?_)
 ·refine Tr.skip (Tr.zA ?_)
  refine Tr.seq ?_
  refine Tr.block ?_
  refine Tr.sr ?_
  refine Tr.mv rfl rfl ?_
  obtain ⟨x118, hx118, H⟩ := bnd H
  obtain ⟨hx1180, hx1181, hx1182⟩ := zq hx118
  refine Tr.va rfl (fun _ _ h1 h2 => zI el_31 (h1.ev rfl) hl116 (h1.ev rfl) hx1180 hx1181) ?_
  refine Tr.va rfl (fun _ _ h1 h2 => zQ (cs := [(iv x118.X0), (iv x118.Y0), (iv x118.X1), (iv x118.Y1)]) ag_36 sz_36 (h1.ev rfl) (zO.take (rdo ef_TRect (k := 2) h2 rfl hx1182) 4) rfl) ?_
  refine Tr.alloc 5 (wn rfl) rfl ze_36 fun b119 => ?_
  refine Tr.asg rfl rfl ?_
  refine Tr.store 5 (cs := [(iv x118.X0), (iv x118.Y0), (iv x118.X1), (iv x118.Y1)]) [(iv x118.X0), (iv x118.Y0), (iv x118.X1), (iv x118.Y1)] (wn rfl) rfl rfl rfl rfl sz_36 rfl rfl rfl ?_
  refine Tr.nil (Tr.zA ?_)
  refine Tr.region ?_
  refine Tr.mv rfl rfl ?_
  refine Tr.mv rfl rfl ?_
  refine Tr.va rfl (fun _ _ h1 h2 => zB fo_36_0 (h1.ev rfl)) ?_
  refine Tr.va rfl (fun _ _ h1 h2 => zC ag_3 (h1.ev rfl) (rdb h2 (vs := [(iv x118.X0), (iv x118.Y0), (iv x118.X1), (iv x118.Y1)]) (k := 5) rfl 0) rfl) ?_
  refine Tr.mv rfl rfl ?_
  refine Tr.va rfl (fun _ _ h1 h2 => run_sub (h1.ev rfl) (h1.ev rfl)) ?_
  refine Tr.va rfl (fun _ _ h1 h2 => zB fo_36_1 (h1.ev rfl)) ?_
  refine Tr.va rfl (fun _ _ h1 h2 => zC ag_3 (h1.ev rfl) (rdb h2 (vs := [(iv x118.X0), (iv x118.Y0), (iv x118.X1), (iv x118.Y1)]) (k := 5) rfl 1) rfl) ?_
  refine Tr.mv rfl rfl ?_
  refine Tr.va rfl (fun _ _ h1 h2 => run_sub (h1.ev rfl) (h1.ev rfl)) ?_
  refine Tr.va rfl (fun _ _ h1 h2 => zB fo_36_2 (h1.ev rfl)) ?_
  refine Tr.va rfl (fun _ _ h1 h2 => zC ag_3 (h1.ev rfl) (rdb h2 (vs := [(iv x118.X0), (iv x118.Y0), (iv x118.X1), (iv x118.Y1)]) (k := 5) rfl 2) rfl) ?_
  refine Tr.mv rfl rfl ?_
  refine Tr.va rfl (fun _ _ h1 h2 => zm (h1.ev rfl) (h1.ev rfl)) ?_
  refine Tr.va rfl (fun _ _ h1 h2 => zB fo_36_3 (h1.ev rfl)) ?_
  refine Tr.va rfl (fun _ _ h1 h2 => zC ag_3 (h1.ev rfl) (rdb h2 (vs := [(iv x118.X0), (iv x118.Y0), (iv x118.X1), (iv x118.Y1)]) (k := 5) rfl 3) rfl) ?_
  refine Tr.mv rfl rfl ?_
  refine Tr.va rfl (fun _ _ h1 h2 => zm (h1.ev rfl) (h1.ev rfl)) ?_
  refine Tr.build (vs := [(0, (iv (w64 (x118.X0 - p1)))), (1, (iv (w64 (x118.Y0 - p3)))), (2, (iv (w64 (x118.X1 + p2)))), (3, (iv (w64 (x118.Y1 + p4))))]) (cs := [(iv (w64 (x118.X0 - p1))), (iv (w64 (x118.Y0 - p3))), (iv (w64 (x118.X1 + p2))), (iv (w64 (x118.Y1 + p4)))]) (wn rfl) rfl (zY rfl (zY rfl (zY rfl (zY rfl evs_nil)))) (by kernel_rfl) ?_
  obtain ⟨x120, hx120, H⟩ := bnd H
  obtain ⟨hx1200, hx1201, hx1202⟩ := zq hx120
  refine Tr.va rfl (fun _ _ h1 h2 => zI el_31 (h1.ev rfl) hl116 (h1.ev rfl) hx1200 hx1201) ?_
  obtain ⟨l121, hl121, H⟩ := bnd H
  have hnl121 := sets_len hl121
  refine Tr.storeEl 2 (t := zM) (l := l116) (i := x117) (fo := 0) (cs := [(iv (w64 (x118.X0 - p1))), (iv (w64 (x118.Y0 - p3))), (iv (w64 (x118.X1 + p2))), (iv (w64 (x118.Y1 + p4)))]) (zR.mk (w64 (x118.X0 - p1)) (w64 (x118.Y0 - p3)) (w64 (x118.X1 + p2)) (w64 (x118.Y1 + p4))) (wn rfl) rfl rfl rfl rfl rfl hx1202 sz_36 rfl (fun u _ => ⟨u, trivial, rfl⟩) rfl hl121 ?_
  have hfl121 : SlF Al116 (l121).length cl116 := by rw [hnl121]; exact hl116
  refine Tr.sel (lf := [(1, (iv p1)), (2, (iv p2)), (3, (iv p3)), (4, (iv p4)), (11, (.slice Al116 (l121).length cl116)), (12, (iv x117)), (13, (.pointer (some ⟨b119, 0, none⟩))), (16, (.slice Al116 (l121).length cl116)), (17, (iv (y100.length : Int))), (18, (iv x117)), (19, (.bool (decide (x117 < (y100.length : Int))))), (20, (iv x117)), (22, (.agg #[(iv x118.X0), (iv x118.Y0), (iv x118.X1), (iv x118.Y1)])), (23, (.slice Al116 (l121).length cl116)), (24, (iv x117)), (25, (.pointer (some ⟨b119, 0, none⟩))), (26, (iv x118.X0)), (27, (iv p1)), (28, (iv (w64 (x118.X0 - p1)))), (29, (.pointer (some ⟨b119, 1, none⟩))), (30, (iv x118.Y0)), (31, (iv p3)), (32, (iv (w64 (x118.Y0 - p3)))), (33, (.pointer (some ⟨b119, 2, none⟩))), (34, (iv x118.X1)), (35, (iv p2)), (36, (iv (w64 (x118.X1 + p2)))), (37, (.pointer (some ⟨b119, 3, none⟩))), (38, (iv x118.Y1)), (39, (iv p4)), (40, (iv (w64 (x118.Y1 + p4)))), (41, (.agg #[(iv (w64 (x118.X0 - p1))), (iv (w64 (x118.Y0 - p3))), (iv (w64 (x118.X1 + p2))), (iv (w64 (x118.Y1 + p4)))]))]) (le := [(2, ow Al116 cl116 36 zM l121), (5, bx b119 #[(iv x118.X0), (iv x118.Y0), (iv x118.X1), (iv x118.Y1)] 36)]) (.cons rfl (.cons rfl (.cons rfl (.cons rfl (.cons (slenV rfl (by rw [hnl121])) (.cons rfl (.cons rfl (.cons (slenV rfl (by rw [hnl121])) (.cons rfl (.cons rfl (.cons rfl (.cons rfl (.cons rfl (.cons (slenV rfl (by rw [hnl121])) (.cons rfl (.cons rfl (.cons rfl (.cons rfl (.cons rfl (.cons rfl (.cons rfl (.cons rfl (.cons rfl (.cons rfl (.cons rfl (.cons rfl (.cons rfl (.cons rfl (.cons rfl (.cons rfl (.cons rfl (.cons rfl .nil)))))))))))))))))))))))))))))))) (.cons rfl (.cons rfl .nil)) ?_
  refine Tr.nil (Tr.zT (Tr.zA ?_))
  refine Tr.region ?_
  refine Tr.va rfl (fun _ _ h1 h2 => zm (h1.ev rfl) (h1.ev rfl)) ?_
  refine Tr.mv rfl rfl ?_
  refine Tr.nil ?_
  exact Tr.zW leL1 (l121, (w64 (x117 + 1)), Al116, cl116) ⟨H, hfl121⟩ (.cons rfl (.cons rfl (.cons rfl (.cons rfl (.cons rfl (.cons rfl (.cons rfl (.cons rfl .nil)))))))) (.cons rfl .nil)
 ·refine Tr.exit (Tr.zV (Tr.zV (Tr.zw (Tr.zA ?_))))
  refine Tr.sr ?_
  refine Tr.mv rfl rfl ?_
  obtain ⟨y122, hy122, H⟩ := bnd H
  refine Tr.callG [6] [emp] (U := (Option Addr × Nat)) (fun u => (.slice u.1 (y122).length u.2)) (fun O W u => SlF u.1 (y122).length u.2) (fun u => [ow u.1 u.2 107 zH y122]) rfl (zK rfl za) (fun _ => rfl) (wn rfl) rfl Tryz.call59 (zF rfl zN) (fun W hW hp hE => F_shape_SetOf_ok N l116 Al116 cl116 (hW.slS (k := 2) rfl hp rfl) y122 hy122 hE) ?_
  intro w u le123 hu
  obtain ⟨Ay122_0, cy122_0⟩ := u
  have gy122_0 := hu
  replace leB := leB.trans le123
  replace leL1 := leL1.trans le123
  have hgy122_0 : SlF Ay122_0 (y122).length cy122_0 := gy122_0 --@phi
  show Tr _ _ (uf _ 45 (.slice Ay122_0 (y122).length cy122_0)) (up _ 6 (ow Ay122_0 cy122_0 107 zH y122)) _
  refine Tr.asg rfl rfl ?_
  refine Tr.nil (Tr.zA ?_)
  refine Tr.ret ?_
  obtain rfl := Option.some.inj H
  exact Tr.out (m := [(.slice Ay122_0 (y122).length cy122_0)]) [] (zL rfl zP) (fun W hW => ⟨w, (Ay122_0, cy122_0), leB, rfl, hgy122_0, hW.pick (ks := [6]) (by decide) (zK rfl za)⟩)

theorem F_plot_swept_ok (N : Nat) {w : Bs} (p0 : (List zS)) (Ap0_0 : Option Addr) (cp0_0 : Nat) (hp0_0 : Sl w.R w.W zH Ap0_0 cp0_0 p0) (p1 : zJ) (p2 : zJ) (r : (List zS)) (H : F_plot_swept N p0 p1 p2 = some r) (hE : HF w w.W (LEn [emp])) : Calls Tryz.prog 126 [(.slice Ap0_0 (p0).length cp0_0), (.agg #[(iv p1.X), (iv p1.Y)]), (.agg #[(iv p2.X), (iv p2.Y)])].toArray w.W fun e W' => ∃ (w' : Bs) (u : (Option Addr × Nat)), w.Le w' ∧ e = .returned (.slice u.1 (r).length u.2) ∧ (SlF u.1 (r).length u.2) ∧ HF w' W' (LEn [ow u.1 u.2 107 zH r]) := by
 unfold F_plot_swept at H
 have leB := Bs.Le.refl w
 refine Tr.enter (n := 39) Tryz.func126 rfl rfl rfl hE ?_
 refine Tr.sr ?_
 refine Tr.box 1 (cs := [(iv p1.X), (iv p1.Y)]) (wn rfl) rfl rfl rfl fun b100 => ?_
 refine Tr.box 2 (cs := [(iv p2.X), (iv p2.Y)]) (wn rfl) rfl rfl rfl fun b101 => ?_
 refine Tr.asg rfl rfl ?_
 refine Tr.nilOwn 3 107 zH ?_
 show Tr _ _ (uf _ 6 (.slice none (([] : List zS)).length 0)) _ _
 refine Tr.nil (Tr.zA ?_)
 refine Tr.seq ?_
 refine Tr.draw (by kernel_rfl) (by kernel_rfl) ?_
 refine Tq.va rfl (fun _ _ h1 h2 => zB fo_43_0 (h1.ev rfl)) ?_
 refine Tq.va rfl (fun _ _ h1 h2 => zC ag_3 (h1.ev rfl) (rdb h2 (vs := [(iv p1.X), (iv p1.Y)]) (k := 1) rfl 0) rfl) ?_
 refine Tq.va rfl (fun _ _ h1 h2 => zB fo_43_0 (h1.ev rfl)) ?_
 refine Tq.va rfl (fun _ _ h1 h2 => zC ag_3 (h1.ev rfl) (rdb h2 (vs := [(iv p2.X), (iv p2.Y)]) (k := 2) rfl 0) rfl) ?_
 refine Tq.va rfl (fun _ _ h1 h2 => run_min (h1.ev rfl) (h1.ev rfl) _) ?_
 refine Tq.va rfl (fun _ _ h1 h2 => zB fo_43_1 (h1.ev rfl)) ?_
 refine Tq.va rfl (fun _ _ h1 h2 => zC ag_3 (h1.ev rfl) (rdb h2 (vs := [(iv p1.X), (iv p1.Y)]) (k := 1) rfl 1) rfl) ?_
 refine Tq.va rfl (fun _ _ h1 h2 => zB fo_43_1 (h1.ev rfl)) ?_
 refine Tq.va rfl (fun _ _ h1 h2 => zC ag_3 (h1.ev rfl) (rdb h2 (vs := [(iv p2.X), (iv p2.Y)]) (k := 2) rfl 1) rfl) ?_
 refine Tq.va rfl (fun _ _ h1 h2 => run_min (h1.ev rfl) (h1.ev rfl) _) ?_
 refine Tq.va rfl (fun _ _ h1 h2 => zB fo_43_0 (h1.ev rfl)) ?_
 refine Tq.va rfl (fun _ _ h1 h2 => zC ag_3 (h1.ev rfl) (rdb h2 (vs := [(iv p1.X), (iv p1.Y)]) (k := 1) rfl 0) rfl) ?_
 refine Tq.va rfl (fun _ _ h1 h2 => zB fo_43_0 (h1.ev rfl)) ?_
 refine Tq.va rfl (fun _ _ h1 h2 => zC ag_3 (h1.ev rfl) (rdb h2 (vs := [(iv p2.X), (iv p2.Y)]) (k := 2) rfl 0) rfl) ?_
 refine Tq.va rfl (fun _ _ h1 h2 => run_max (h1.ev rfl) (h1.ev rfl) _) ?_
 refine Tq.va rfl (fun _ _ h1 h2 => zB fo_43_1 (h1.ev rfl)) ?_
 refine Tq.va rfl (fun _ _ h1 h2 => zC ag_3 (h1.ev rfl) (rdb h2 (vs := [(iv p1.X), (iv p1.Y)]) (k := 1) rfl 1) rfl) ?_
 refine Tq.va rfl (fun _ _ h1 h2 => zB fo_43_1 (h1.ev rfl)) ?_
 refine Tq.va rfl (fun _ _ h1 h2 => zC ag_3 (h1.ev rfl) (rdb h2 (vs := [(iv p2.X), (iv p2.Y)]) (k := 2) rfl 1) rfl) ?_
 refine Tq.va rfl (fun _ _ h1 h2 => run_max (h1.ev rfl) (h1.ev rfl) _) ?_
 refine Tq.asg rfl rfl ?_
 refine Tq.asg rfl rfl ?_
 refine Tq.asg rfl rfl ?_
 refine Tq.asg rfl rfl ?_
 refine Tq.nil (Tr.zA ?_)
 refine Tr.sr ?_
 refine Tr.mv rfl rfl ?_
 refine Tr.mv rfl rfl ?_
 refine Tr.va rfl (fun _ _ h1 h2 => run_neg (h1.ev rfl)) ?_
 refine Tr.mv rfl rfl ?_
 refine Tr.mv rfl rfl ?_
 refine Tr.va rfl (fun _ _ h1 h2 => run_neg (h1.ev rfl)) ?_
 refine Tr.mv rfl rfl ?_
 obtain ⟨y102, hy102, H⟩ := bnd H
 refine Tr.callG [4] [emp] (U := (Option Addr × Nat)) (fun u => (.slice u.1 (y102).length u.2)) (fun O W u => SlF u.1 (y102).length u.2) (fun u => [ow u.1 u.2 107 zH y102]) rfl (zK rfl za) (fun _ => rfl) (wn rfl) rfl Tryz.call156 (zF rfl (zF rfl (zF rfl (zF rfl (zF rfl zN))))) (fun W hW hp hE => F_shape_Set__Spread_ok N p0 Ap0_0 cp0_0 (hp0_0.ext (hW.extS hp)) (w64 (0 - (min p1.X p2.X))) (max p1.X p2.X) (w64 (0 - (min p1.Y p2.Y))) (max p1.Y p2.Y) y102 hy102 hE) ?_
 intro w u le103 hu
 obtain ⟨Ay102_0, cy102_0⟩ := u
 have gy102_0 := hu
 replace hp0_0 := hp0_0.leR le103
 replace leB := leB.trans le103
 have hgy102_0 : SlF Ay102_0 (y102).length cy102_0 := gy102_0 --@phi
 show Tr _ _ (uf _ 38 (.slice Ay102_0 (y102).length cy102_0)) (up _ 4 (ow Ay102_0 cy102_0 107 zH y102)) _
 refine Tr.asg rfl rfl ?_
 refine Tr.nil (Tr.zA ?_)
 refine Tr.ret ?_
 obtain rfl := Option.some.inj H
 exact Tr.out (m := [(.slice Ay102_0 (y102).length cy102_0)]) [] (zL rfl zP) (fun W hW => ⟨w, (Ay102_0, cy102_0), leB, rfl, hgy102_0, hW.pick (ks := [4]) (by decide) (zK rfl za)⟩)

theorem F_shape_Set__Around_ok {w : Bs} (p0 : (List zS)) (Ap0_0 : Option Addr) (cp0_0 : Nat) (hp0_0 : Sl w.R w.W zH Ap0_0 cp0_0 p0) (r : zR) (H : F_shape_Set__Around p0 = some r) (hE : HF w w.W E0) : Calls Tryz.prog 170 [(.slice Ap0_0 (p0).length cp0_0)].toArray w.W fun e W' => e = .returned (.agg #[(iv r.X0), (iv r.Y0), (iv r.X1), (iv r.Y1)]) ∧ HF w W' E0 := by
 unfold F_shape_Set__Around at H
 have leB := Bs.Le.refl w
 refine Tr.enter (n := 58) Tryz.func170 rfl rfl rfl hE ?_
 refine Tr.sr ?_
 refine Tr.alloc 1 (wn rfl) rfl ze_36 fun b100 => ?_
 refine Tr.nil (Tr.zA ?_)
 refine Tr.seq ?_
 obtain ⟨x102, hx102, H⟩ := bnd H
 obtain ⟨hx1020, hx1021, hx1022⟩ := zq hx102
 obtain ⟨u103, hRu103, hoku103, hcu103⟩ := (hp0_0).el hx1022
 obtain ⟨Au103_0, cu103_0⟩ := u103
 obtain ⟨x104, hx104, H⟩ := bnd H
 obtain ⟨hx1040, hx1041, hx1042⟩ := zq hx104
 obtain ⟨x105, hx105, H⟩ := bnd H
 obtain ⟨hx1050, hx1051, hx1052⟩ := zq hx105
 obtain ⟨u106, hRu106, hoku106, hcu106⟩ := (hp0_0).el hx1052
 obtain ⟨Au106_0, cu106_0⟩ := u106
 obtain ⟨x107, hx107, H⟩ := bnd H
 obtain ⟨hx1070, hx1071, hx1072⟩ := zq hx107
 obtain ⟨u108, hRu108, hoku108, hcu108⟩ := (hp0_0).el hx1072
 obtain ⟨Au108_0, cu108_0⟩ := u108
 obtain ⟨x109, hx109, H⟩ := bnd H
 obtain ⟨hx1090, hx1091, hx1092⟩ := zq hx109
 obtain ⟨x110, hx110, H⟩ := bnd H
 obtain ⟨hx1100, hx1101, hx1102⟩ := zq hx110
 obtain ⟨u111, hRu111, hoku111, hcu111⟩ := (hp0_0).el hx1102
 obtain ⟨Au111_0, cu111_0⟩ := u111
 refine Tr.drawF 25 [(24, .makeFunc (.func 0) #[] #[])] [(24, ⟨3, 2, (.func (.func 0) #[] #[]), fun b => .pointer (some ⟨b, 0, none⟩), fun b => bx b #[(iv 0), (iv 0), (iv 0), (iv 0)] 36⟩)] [(0, (.slice Ap0_0 (p0).length cp0_0)), (2, (.pointer (some ⟨b100, 0, none⟩))), (3, (.func (.func 0) #[] #[])), (6, (.slice Ap0_0 (p0).length cp0_0)), (7, (.pointer (some ⟨adB Ap0_0, adO Ap0_0 + ((0 : Int)).toNat * 3, none⟩))), (8, (.pointer (some ⟨adB Ap0_0, adO Ap0_0 + ((0 : Int)).toNat * 3 + 2, none⟩))), (9, (.slice Au103_0 (x102.Xs).length cu103_0)), (10, (.pointer (some ⟨adB Au103_0, adO Au103_0 + ((0 : Int)).toNat * 1, none⟩))), (11, (iv x104)), (12, (.slice Ap0_0 (p0).length cp0_0)), (13, (.pointer (some ⟨adB Ap0_0, adO Ap0_0 + ((0 : Int)).toNat * 3, none⟩))), (14, (.pointer (some ⟨adB Ap0_0, adO Ap0_0 + ((0 : Int)).toNat * 3 + 0, none⟩))), (15, (iv x105.Y0)), (16, (.slice Ap0_0 (p0).length cp0_0)), (17, (.pointer (some ⟨adB Ap0_0, adO Ap0_0 + ((0 : Int)).toNat * 3, none⟩))), (18, (.pointer (some ⟨adB Ap0_0, adO Ap0_0 + ((0 : Int)).toNat * 3 + 2, none⟩))), (19, (.slice Au108_0 (x107.Xs).length cu108_0)), (20, (.pointer (some ⟨adB Au108_0, adO Au108_0 + ((1 : Int)).toNat * 1, none⟩))), (21, (iv x109)), (22, (.slice Ap0_0 (p0).length cp0_0)), (23, (.slice Ap0_0 (p0).length cp0_0)), (24, (iv (p0.length : Int))), (25, (iv (w64 ((p0.length : Int) - 1)))), (26, (.pointer (some ⟨adB Ap0_0, adO Ap0_0 + ((w64 ((p0.length : Int) - 1))).toNat * 3, none⟩))), (27, (.pointer (some ⟨adB Ap0_0, adO Ap0_0 + ((w64 ((p0.length : Int) - 1))).toNat * 3 + 1, none⟩))), (28, (iv x110.Y1)), (29, (.agg #[(iv x104), (iv x105.Y0), (iv x109), (iv x110.Y1)]))] (by kernel_rfl) (by kernel_rfl) (by kernel_rfl) (by kernel_rfl) (by kernel_rfl) (by kernel_rfl) (by kernel_rfl) (fall_cons (fr_alloc rfl rfl ze_36) fall_nil) (fall_cons rfl fall_nil) (fall_cons rfl fall_nil) ?_ ?_
 ·refine Tq.mv rfl rfl ?_
  have hoku103_0 := hoku103
  replace hoku103_0 : Sl w.R w.W zX Au103_0 cu103_0 x102.Xs := hoku103_0
  refine Tq.va rfl (fun _ _ h1 h2 => zI el_66 (h1.ev rfl) hp0_0.form (h1.ev rfl) hx1020 hx1021) ?_
  refine Tq.va rfl (fun _ _ h1 h2 => zB fo_107_2 (h1.ev rfl)) ?_
  refine Tq.va rfl (fun _ _ h1 h2 => zC ag_38 (h1.ev rfl) (zO.drop (rdR hRu103 hcu103 h2) 2) rfl) ?_
  refine Tq.va rfl (fun _ _ h1 h2 => zI el_38 (h1.ev rfl) hoku103_0.form (h1.ev rfl) hx1040 hx1041) ?_
  refine Tq.va rfl (fun _ _ h1 h2 => zC ag_3 (h1.ev rfl) (rdF ef_i64 hoku103_0 hx1042 h2) rfl) ?_
  refine Tq.mv rfl rfl ?_
  have hoku106_0 := hoku106
  replace hoku106_0 : Sl w.R w.W zX Au106_0 cu106_0 x105.Xs := hoku106_0
  refine Tq.va rfl (fun _ _ h1 h2 => zI el_66 (h1.ev rfl) hp0_0.form (h1.ev rfl) hx1050 hx1051) ?_
  refine Tq.va rfl (fun _ _ h1 h2 => zB fo_107_0 (h1.ev rfl)) ?_
  refine Tq.va rfl (fun _ _ h1 h2 => zC ag_3 (h1.ev rfl) (zO.drop (rdR hRu106 hcu106 h2) 0) rfl) ?_
  refine Tq.mv rfl rfl ?_
  have hoku108_0 := hoku108
  replace hoku108_0 : Sl w.R w.W zX Au108_0 cu108_0 x107.Xs := hoku108_0
  refine Tq.va rfl (fun _ _ h1 h2 => zI el_66 (h1.ev rfl) hp0_0.form (h1.ev rfl) hx1070 hx1071) ?_
  refine Tq.va rfl (fun _ _ h1 h2 => zB fo_107_2 (h1.ev rfl)) ?_
  refine Tq.va rfl (fun _ _ h1 h2 => zC ag_38 (h1.ev rfl) (zO.drop (rdR hRu108 hcu108 h2) 2) rfl) ?_
  refine Tq.va rfl (fun _ _ h1 h2 => zI el_38 (h1.ev rfl) hoku108_0.form (h1.ev rfl) hx1090 hx1091) ?_
  refine Tq.va rfl (fun _ _ h1 h2 => zC ag_3 (h1.ev rfl) (rdF ef_i64 hoku108_0 hx1092 h2) rfl) ?_
  refine Tq.mv rfl rfl ?_
  refine Tq.mv rfl rfl ?_
  refine Tq.va rfl (fun _ _ h1 h2 => zl un_66 (h1.ev rfl)) ?_
  refine Tq.va rfl (fun _ _ h1 h2 => run_sub (h1.ev rfl) (h1.ev rfl)) ?_
  have hoku111_0 := hoku111
  replace hoku111_0 : Sl w.R w.W zX Au111_0 cu111_0 x110.Xs := hoku111_0
  refine Tq.va rfl (fun _ _ h1 h2 => zI el_66 (h1.ev rfl) hp0_0.form (h1.ev rfl) hx1100 hx1101) ?_
  refine Tq.va rfl (fun _ _ h1 h2 => zB fo_107_1 (h1.ev rfl)) ?_
  refine Tq.va rfl (fun _ _ h1 h2 => zC ag_3 (h1.ev rfl) (zO.drop (rdR hRu111 hcu111 h2) 1) rfl) ?_
  refine Tq.build (vs := [(0, (iv x104)), (1, (iv x105.Y0)), (2, (iv x109)), (3, (iv x110.Y1))]) (cs := [(iv x104), (iv x105.Y0), (iv x109), (iv x110.Y1)]) (wn rfl) rfl (zY rfl (zY rfl (zY rfl (zY rfl evs_nil)))) (by kernel_rfl) ?_
  refine Tq.mkFunc (vs := []) (wn rfl) rfl zN ?_
  exact Tq.fin (.cons rfl (.cons rfl (.cons rfl (.cons rfl (.cons rfl (.cons rfl (.cons rfl (.cons rfl (.cons rfl (.cons rfl (.cons rfl (.cons rfl (.cons rfl (.cons rfl (.cons rfl (.cons rfl (.cons rfl (.cons rfl (.cons rfl (.cons rfl (.cons rfl (.cons rfl (.cons rfl (.cons rfl (.cons rfl (.cons rfl (.cons rfl .nil)))))))))))))))))))))))))))
 ·intro bs101
  refine Tr.sel (lf := [(0, (.slice Ap0_0 (p0).length cp0_0)), (2, (.pointer (some ⟨b100, 0, none⟩))), (3, (.pointer (some ⟨(bs101 24), 0, none⟩))), (29, (.agg #[(iv x104), (iv x105.Y0), (iv x109), (iv x110.Y1)]))]) (le := [(1, bx b100 #[(iv 0), (iv 0), (iv 0), (iv 0)] 36), (2, bx (bs101 24) #[(iv 0), (iv 0), (iv 0), (iv 0)] 36)]) (.cons rfl (.cons rfl (.cons rfl (.cons rfl .nil)))) (.cons rfl (.cons rfl .nil)) ?_
  refine Tr.store 2 (cs := [(iv x104), (iv x105.Y0), (iv x109), (iv x110.Y1)]) [(iv x104), (iv x105.Y0), (iv x109), (iv x110.Y1)] (wn rfl) rfl rfl rfl rfl sz_36 rfl rfl rfl ?_
  refine Tr.nil (Tr.zA ?_)
  refine Tr.seq ?_
  refine Tr.sr ?_
  refine Tr.mv rfl rfl ?_
  refine Tr.va rfl (fun _ _ h1 h2 => zl un_66 (h1.ev rfl)) ?_
  refine Tr.mv rfl rfl ?_
  refine Tr.nil (Tr.zA ?_)
  refine Tr.block ?_
  refine Tr.loop (σ := (List zS) × Nat × Int × Int) (fun m w s => m = s.1.length + 1 ∧ s.1 = List.drop s.2.1 p0 ∧ s.2.1 ≤ p0.length ∧ F_shape_Set__Around_L1 x105 x110 s.1 s.2.1 s.2.2.1 s.2.2.2 = some r) (fun s => [(2, (.pointer (some ⟨b100, 0, none⟩))), (3, (.pointer (some ⟨(bs101 24), 0, none⟩))), (30, (.slice Ap0_0 (p0).length cp0_0)), (31, (iv (p0.length : Int))), (32, (iv (s.2.1 : Int)))]) (fun s => [(1, bx b100 #[(iv 0), (iv 0), (iv 0), (iv 0)] 36), (2, bx (bs101 24) #[(iv s.2.2.1), (iv x105.Y0), (iv s.2.2.2), (iv x110.Y1)] 36)]) (p0.length + 1) (p0, 0, x104, x109) ⟨rfl, rfl, Nat.zero_le _, H⟩ (.cons rfl (.cons rfl (.cons rfl (.cons rfl (.cons rfl .nil))))) (.cons rfl (.cons rfl .nil)) (fun _ _ h => absurd h.1 (by simp)) ?_
  intro w leL1 m s hs
  obtain ⟨restL1, iL1, x133, x134⟩ := s
  obtain ⟨hmL1, hdL1, hiL1, H⟩ := hs
  replace hdL1 : restL1 = List.drop iL1 p0 := hdL1
  replace H : F_shape_Set__Around_L1 x105 x110 restL1 iL1 x133 x134 = some r := H
  replace hmL1 : m + 1 = restL1.length + 1 := hmL1
  replace hp0_0 := hp0_0.leR leL1
  replace leB := leB.trans leL1
  obtain rfl : m = restL1.length := by omega
  clear hmL1
  show Tr _ _ (LF [(2, (.pointer (some ⟨b100, 0, none⟩))), (3, (.pointer (some ⟨(bs101 24), 0, none⟩))), (30, (.slice Ap0_0 (p0).length cp0_0)), (31, (iv (p0.length : Int))), (32, (iv (iL1 : Int)))]) (LE [(1, bx b100 #[(iv 0), (iv 0), (iv 0), (iv 0)] 36), (2, bx (bs101 24) #[(iv x133), (iv x105.Y0), (iv x134), (iv x110.Y1)] 36)]) _
  cases restL1 with
  | nil =>
   rw [F_shape_Set__Around_L1.eq_1] at H
   refine Tr.sr ?_
   refine Tr.va rfl (fun _ _ h1 h2 => zn (h1.ev rfl) (h1.ev rfl)) ?_
   refine Tr.nil (Tr.zA ?_)
   refine Tr.seq ?_
   refine Tr.condF rfl (range_nil hdL1) ?_
   refine Tr.exit (Tr.zV (Tr.zV (Tr.zw (Tr.zA ?_))))
   refine Tr.sr ?_
   refine Tr.va rfl (fun _ _ h1 h2 => zQ (cs := [(iv x133), (iv x105.Y0), (iv x134), (iv x110.Y1)]) ag_36 sz_36 (h1.ev rfl) (zO.take (rdb h2 (vs := [(iv x133), (iv x105.Y0), (iv x134), (iv x110.Y1)]) (k := 2) rfl 0) 4) rfl) ?_
   refine Tr.store 1 (cs := [(iv x133), (iv x105.Y0), (iv x134), (iv x110.Y1)]) [(iv x133), (iv x105.Y0), (iv x134), (iv x110.Y1)] (wn rfl) rfl rfl rfl rfl sz_36 rfl rfl rfl ?_
   refine Tr.nil (Tr.zA ?_)
   refine Tr.ret ?_
   obtain rfl := Option.some.inj H
   exact Tr.out (m := [(.agg #[(iv x133), (iv x105.Y0), (iv x134), (iv x110.Y1)])]) [1] (res_cell rfl rfl ag_36 sz_36 zP) (fun W hW => ⟨rfl, hW.low leB⟩)
  | cons xL1 restL1 =>
   rw [F_shape_Set__Around_L1.eq_2] at H
   refine Tr.sr ?_
   refine Tr.va rfl (fun _ _ h1 h2 => zn (h1.ev rfl) (h1.ev rfl)) ?_
   refine Tr.nil (Tr.zA ?_)
   refine Tr.seq ?_
   refine Tr.condT rfl (range_on hdL1) ?_
   refine Tr.skip (Tr.zA ?_)
   refine Tr.seq ?_
   refine Tr.block ?_
   refine Tr.sr ?_
   obtain ⟨u135, hRu135, hoku135, hcu135⟩ := (hp0_0).el (range_at hdL1)
   obtain ⟨Au135_0, cu135_0⟩ := u135
   have hoku135_0 := hoku135
   replace hoku135_0 : Sl w.R w.W zX Au135_0 cu135_0 xL1.Xs := hoku135_0
   refine Tr.va rfl (fun _ _ h1 h2 => zI el_66 (h1.ev rfl) hp0_0.form (h1.ev rfl) (Int.natCast_nonneg _) (zf hdL1)) ?_
   refine Tr.va rfl (fun _ _ h1 h2 => zQ (cs := [(iv xL1.Y0), (iv xL1.Y1), (.slice Au135_0 (xL1.Xs).length cu135_0)]) ag_107 sz_107 (h1.ev rfl) (zO.take (rdR hRu135 hcu135 h2) 3) rfl) ?_
   refine Tr.alloc 5 (wn rfl) rfl ze_107 fun b136 => ?_
   refine Tr.store 5 (cs := [(iv xL1.Y0), (iv xL1.Y1), (.slice Au135_0 (xL1.Xs).length cu135_0)]) [(iv xL1.Y0), (iv xL1.Y1), (.slice Au135_0 (xL1.Xs).length cu135_0)] (wn rfl) rfl rfl rfl rfl sz_107 rfl rfl rfl ?_
   refine Tr.nil (Tr.zA ?_)
   refine Tr.drawC 20 [(19, fun x => x = (bs101 24))] [] (by kernel_rfl) (by kernel_rfl) fun sz137 hlosz137 hEsz137 => ?_
   refine Dr.quiet 0 [(36, (.pointer (some ⟨(bs101 24), 0, none⟩)))] (by kernel_rfl) rfl rfl (by kernel_rfl) ?_ rfl rfl ?_
   ·refine Tq.va rfl (fun _ _ h1 h2 => zB fo_36_0 (h1.ev rfl)) ?_
    exact Tq.fin (.cons rfl .nil)
   refine Dr.quiet 1 [(37, (iv x133))] (by kernel_rfl) rfl rfl (by kernel_rfl) ?_ rfl rfl ?_
   ·refine Tq.va rfl (fun _ _ h1 h2 => zC ag_3 (h1.ev rfl) (rdb h2 (vs := [(iv x133), (iv x105.Y0), (iv x134), (iv x110.Y1)]) (k := 2) rfl 0) rfl) ?_
    exact Tq.fin (.cons rfl .nil)
   refine Dr.quiet 2 [(38, (.pointer (some ⟨b136, 2, none⟩)))] (by kernel_rfl) rfl rfl (by kernel_rfl) ?_ rfl rfl ?_
   ·refine Tq.va rfl (fun _ _ h1 h2 => zB fo_107_2 (h1.ev rfl)) ?_
    exact Tq.fin (.cons rfl .nil)
   refine Dr.quiet 3 [(39, (.slice Au135_0 (xL1.Xs).length cu135_0))] (by kernel_rfl) rfl rfl (by kernel_rfl) ?_ rfl rfl ?_
   ·refine Tq.va rfl (fun _ _ h1 h2 => zC ag_38 (h1.ev rfl) (rdb h2 (vs := [(iv xL1.Y0), (iv xL1.Y1), (.slice Au135_0 (xL1.Xs).length cu135_0)]) (k := 5) rfl 2) rfl) ?_
    exact Tq.fin (.cons rfl .nil)
   obtain ⟨x138, hx138, H⟩ := bnd H
   obtain ⟨hx1380, hx1381, hx1382⟩ := zq hx138
   refine Dr.quiet 4 [(40, (.pointer (some ⟨adB Au135_0, adO Au135_0 + ((0 : Int)).toNat * 1, none⟩)))] (by kernel_rfl) rfl rfl (by kernel_rfl) ?_ rfl rfl ?_
   ·refine Tq.va rfl (fun _ _ h1 h2 => zI el_38 (h1.ev rfl) hoku135_0.form (h1.ev rfl) hx1380 hx1381) ?_
    exact Tq.fin (.cons rfl .nil)
   refine Dr.quiet 5 [(41, (iv x138))] (by kernel_rfl) rfl rfl (by kernel_rfl) ?_ rfl rfl ?_
   ·refine Tq.va rfl (fun _ _ h1 h2 => zC ag_3 (h1.ev rfl) (rdF ef_i64 hoku135_0 hx1382 h2) rfl) ?_
    exact Tq.fin (.cons rfl .nil)
   refine Dr.quiet 6 [(42, (iv (min x133 x138)))] (by kernel_rfl) rfl rfl (by kernel_rfl) ?_ rfl rfl ?_
   ·refine Tq.va rfl (fun _ _ h1 h2 => run_min (h1.ev rfl) (h1.ev rfl) _) ?_
    exact Tq.fin (.cons rfl .nil)
   refine Dr.quiet 7 [(43, (.pointer (some ⟨(bs101 24), 2, none⟩)))] (by kernel_rfl) rfl rfl (by kernel_rfl) ?_ rfl rfl ?_
   ·refine Tq.va rfl (fun _ _ h1 h2 => zB fo_36_2 (h1.ev rfl)) ?_
    exact Tq.fin (.cons rfl .nil)
   refine Dr.quiet 8 [(44, (iv x134))] (by kernel_rfl) rfl rfl (by kernel_rfl) ?_ rfl rfl ?_
   ·refine Tq.va rfl (fun _ _ h1 h2 => zC ag_3 (h1.ev rfl) (rdb h2 (vs := [(iv x133), (iv x105.Y0), (iv x134), (iv x110.Y1)]) (k := 2) rfl 2) rfl) ?_
    exact Tq.fin (.cons rfl .nil)
   refine Dr.quietP 9 (by kernel_rfl) rfl (wn rfl) rfl (by kernel_rfl) (fun _ _ h1 => zB fo_107_2 (h1.ev rfl)) rfl ?_
   refine Dr.quietZ 10 [(46, (.slice Au135_0 (xL1.Xs).length cu135_0))] [19] false (by kernel_rfl) rfl rfl (by kernel_rfl) (fun W W' h2 hsW hk => HF.keepZ (le := [(5, bx b136 #[(iv xL1.Y0), (iv xL1.Y1), (.slice Au135_0 (xL1.Xs).length cu135_0)] 107)]) (ks := [(2, fun x => x = (bs101 24))]) (s0 := sz137) false h2 hk (fun h => absurd h (by decide)) (.cons rfl .nil) (fun b hb => hb.elim (fun ⟨p, hp, hf, hb⟩ => by simp only [List.mem_cons, List.not_mem_nil, or_false] at hp; rcases hp with rfl; exact .inl ⟨_, List.mem_cons_self, hb⟩) (fun hb => absurd hb.1 (by decide))) (List.forall_mem_cons.2 ⟨fun b hb => hb, (fun _ h => nomatch h)⟩) rfl) ?_ rfl rfl ?_
   ·refine Tq.va rfl (fun _ _ h1 h2 => zC ag_38 (h1.ev rfl) (rdb h2 (vs := [(iv xL1.Y0), (iv xL1.Y1), (.slice Au135_0 (xL1.Xs).length cu135_0)]) (k := 5) rfl 2) rfl) ?_
    exact Tq.fin (.cons rfl .nil)
   refine Dr.quietP 11 (by kernel_rfl) rfl (wn rfl) rfl (by kernel_rfl) (fun _ _ h1 => zB fo_107_2 (h1.ev rfl)) rfl ?_
   refine Dr.quietZ 12 [(48, (.slice Au135_0 (xL1.Xs).length cu135_0))] [19] false (by kernel_rfl) rfl rfl (by kernel_rfl) (fun W W' h2 hsW hk => HF.keepZ (le := [(5, bx b136 #[(iv xL1.Y0), (iv xL1.Y1), (.slice Au135_0 (xL1.Xs).length cu135_0)] 107)]) (ks := [(2, fun x => x = (bs101 24))]) (s0 := sz137) false h2 hk (fun h => absurd h (by decide)) (.cons rfl .nil) (fun b hb => hb.elim (fun ⟨p, hp, hf, hb⟩ => by simp only [List.mem_cons, List.not_mem_nil, or_false] at hp; rcases hp with rfl; exact .inl ⟨_, List.mem_cons_self, hb⟩) (fun hb => absurd hb.1 (by decide))) (List.forall_mem_cons.2 ⟨fun b hb => hb, (fun _ h => nomatch h)⟩) rfl) ?_ rfl rfl ?_
   ·refine Tq.va rfl (fun _ _ h1 h2 => zC ag_38 (h1.ev rfl) (rdb h2 (vs := [(iv xL1.Y0), (iv xL1.Y1), (.slice Au135_0 (xL1.Xs).length cu135_0)]) (k := 5) rfl 2) rfl) ?_
    exact Tq.fin (.cons rfl .nil)
   refine Dr.quietP 13 (by kernel_rfl) rfl (wn rfl) rfl (by kernel_rfl) (fun _ _ h1 => zl un_38 (h1.ev rfl)) rfl ?_
   refine Dr.quietP 14 (by kernel_rfl) rfl (wn rfl) rfl (by kernel_rfl) (fun _ _ h1 => run_sub (h1.ev rfl) (h1.ev rfl)) rfl ?_
   obtain ⟨x139, hx139, H⟩ := bnd H
   obtain ⟨hx1390, hx1391, hx1392⟩ := zq hx139
   refine Dr.quietP 15 (by kernel_rfl) rfl (wn rfl) rfl (by kernel_rfl) (fun _ _ h1 => zI el_38 (h1.ev rfl) hoku135_0.form (h1.ev rfl) hx1390 hx1391) rfl ?_
   refine Dr.quietZ 16 [(52, (iv x139))] [19] false (by kernel_rfl) rfl rfl (by kernel_rfl) (fun W W' h2 hsW hk => HF.keepZ (le := []) (ks := [(2, fun x => x = (bs101 24))]) (s0 := sz137) false h2 hk (fun h => absurd h (by decide)) .nil (fun b hb => hb.elim (fun ⟨p, hp, hf, hb⟩ => by simp only [List.mem_cons, List.not_mem_nil, or_false] at hp; rcases hp with rfl; exact .inl ⟨_, List.mem_cons_self, hb⟩) (fun hb => absurd hb.1 (by decide))) (List.forall_mem_cons.2 ⟨fun b hb => hb, (fun _ h => nomatch h)⟩) rfl) ?_ rfl rfl ?_
   ·refine Tq.va rfl (fun _ _ h1 h2 => zC ag_3 (h1.ev rfl) (rdF ef_i64 hoku135_0 hx1392 h2) rfl) ?_
    exact Tq.fin (.cons rfl .nil)
   refine Dr.quietP 17 (by kernel_rfl) rfl (wn rfl) rfl (by kernel_rfl) (fun _ _ h1 => run_max (h1.ev rfl) (h1.ev rfl) _) rfl ?_
   refine Dr.quiet 18 [(54, (.pointer (some ⟨(bs101 24), 0, none⟩)))] (by kernel_rfl) rfl rfl (by kernel_rfl) ?_ rfl rfl ?_
   ·refine Tq.va rfl (fun _ _ h1 h2 => zB fo_36_0 (h1.ev rfl)) ?_
    exact Tq.fin (.cons rfl .nil)
   refine Dr.one 19 (by kernel_rfl) ?_
   refine St.store 19 2 (cs := [(iv (min x133 x138))]) [(iv (min x133 x138)), (iv x105.Y0), (iv x134), (iv x110.Y1)] rfl (wn rfl) (.inl ⟨_, List.mem_cons_self, rfl, rfl⟩) rfl rfl rfl rfl sz_3 rfl rfl rfl ?_
   refine Dr.tail (by kernel_rfl) ?_
   refine Tr.va rfl (fun _ _ h1 h2 => zB fo_36_2 (h1.ev rfl)) ?_
   refine Tr.store 2 (cs := [(iv (max x134 x139))]) [(iv (min x133 x138)), (iv x105.Y0), (iv (max x134 x139)), (iv x110.Y1)] (wn rfl) rfl rfl rfl rfl sz_3 rfl rfl rfl ?_
   refine Tr.nil (Tr.zT (Tr.zA ?_))
   refine Tr.region ?_
   refine Tr.va rfl (fun _ _ h1 h2 => zm (h1.ev rfl) (h1.ev rfl)) ?_
   refine Tr.mv rfl rfl ?_
   refine Tr.nil ?_
   exact Tr.zW leL1 (restL1, (iL1 + 1), (min x133 x138), (max x134 x139)) ⟨rfl, zAI hdL1, zf hdL1, H⟩ (.cons rfl (.cons rfl (.cons rfl (.cons rfl (.cons (congrArg (fun z => some (Value.int .i64 z)) (zAH hdL1 hp0_0.form)) .nil))))) (.cons rfl (.cons rfl .nil))

theorem F_shape_isRect_ok {w : Bs} (p0 : zR) (r : Bool) (H : F_shape_isRect p0 = some r) (hE : HF w w.W E0) : Calls Tryz.prog 108 [(.agg #[(iv p0.X0), (iv p0.Y0), (iv p0.X1), (iv p0.Y1)])].toArray w.W fun e W' => e = .returned (.bool r) ∧ HF w W' E0 := by
 unfold F_shape_isRect at H
 have leB := Bs.Le.refl w
 refine Tr.enter (n := 21) Tryz.func108 rfl rfl rfl hE ?_
 refine Tr.sr ?_
 refine Tr.box 1 (cs := [(iv p0.X0), (iv p0.Y0), (iv p0.X1), (iv p0.Y1)]) (wn rfl) rfl rfl rfl fun b100 => ?_
 refine Tr.asg rfl rfl ?_
 refine Tr.nil (Tr.zA ?_)
 refine Tr.sr ?_
 refine Tr.va rfl (fun _ _ h1 h2 => zB fo_36_0 (h1.ev rfl)) ?_
 refine Tr.va rfl (fun _ _ h1 h2 => zC ag_3 (h1.ev rfl) (rdb h2 (vs := [(iv p0.X0), (iv p0.Y0), (iv p0.X1), (iv p0.Y1)]) (k := 1) rfl 0) rfl) ?_
 obtain ⟨y101, hy101, H⟩ := bnd H
 refine Tr.call0 (r := (.bool y101)) (wn rfl) rfl Tryz.call129 (zF rfl zN) (fun W hW => F_shape_IsAt_ok p0.X0 y101 hy101 (HF.start _)) ?_
 refine Tr.mv rfl rfl ?_
 obtain ⟨g103, hg103, H⟩ := bnd H
 refine Tr.mid0 4 [(1, (.pointer (some ⟨b100, 0, none⟩))), (10, (.bool g103))] [(1, bx b100 #[(iv p0.X0), (iv p0.Y0), (iv p0.X1), (iv p0.Y1)] 36)] ?_ ?_
 ·cases hg110 : y101
  ·rw [hg110] at hg103
   rw [if_neg (by decide)] at hg103
   have H := hg103
   obtain rfl := Option.some.inj H
   refine Tr.pass rfl rfl rfl rfl rfl (by decide) ?_
   refine Tr.pass rfl rfl rfl rfl rfl (by decide) ?_
   refine Tr.pass rfl rfl rfl rfl rfl (by decide) ?_
   refine Tr.va rfl (fun _ _ h1 h2 => ze (h1.ev rfl) (h1.ev rfl)) ?_
   exact Tr.nil (Tr.fin0 (.cons rfl (.cons rfl .nil)) (.cons rfl .nil))
  ·rw [hg110] at hg103
   rw [if_pos rfl] at hg103
   have H := hg103
   refine Tr.val (wg rfl rfl rfl) rfl (fun _ _ h1 h2 => zB fo_36_1 (h1.ev rfl)) ?_
   refine Tr.val (wg rfl rfl rfl) rfl (fun _ _ h1 h2 => zC ag_3 (h1.ev rfl) (rdb h2 (vs := [(iv p0.X0), (iv p0.Y0), (iv p0.X1), (iv p0.Y1)]) (k := 1) rfl 1) rfl) ?_
   obtain ⟨y104, hy104, H⟩ := bnd H
   refine Tr.call0 (r := (.bool y104)) (wg rfl rfl rfl) rfl Tryz.call129 (zF rfl zN) (fun W hW => F_shape_IsAt_ok p0.Y0 y104 hy104 (HF.start _)) ?_
   refine Tr.va rfl (fun _ _ h1 h2 => zb (h1.ev rfl) (h1.ev rfl)) ?_
   obtain rfl := Option.some.inj H
   exact Tr.nil (Tr.fin0 (.cons rfl (.cons rfl .nil)) (.cons rfl .nil))
 ·show Tr _ _ (LF [(1, (.pointer (some ⟨b100, 0, none⟩))), (10, (.bool g103))]) (LE [(1, bx b100 #[(iv p0.X0), (iv p0.Y0), (iv p0.X1), (iv p0.Y1)] 36)]) _
  refine Tr.mv rfl rfl ?_
  obtain ⟨g106, hg106, H⟩ := bnd H
  refine Tr.mid0 4 [(1, (.pointer (some ⟨b100, 0, none⟩))), (15, (.bool g106))] [(1, bx b100 #[(iv p0.X0), (iv p0.Y0), (iv p0.X1), (iv p0.Y1)] 36)] ?_ ?_
  ·cases hg110 : g103
   ·rw [hg110] at hg106
    rw [if_neg (by decide)] at hg106
    have H := hg106
    obtain rfl := Option.some.inj H
    refine Tr.pass rfl rfl rfl rfl rfl (by decide) ?_
    refine Tr.pass rfl rfl rfl rfl rfl (by decide) ?_
    refine Tr.pass rfl rfl rfl rfl rfl (by decide) ?_
    refine Tr.va rfl (fun _ _ h1 h2 => ze (h1.ev rfl) (h1.ev rfl)) ?_
    exact Tr.nil (Tr.fin0 (.cons rfl (.cons rfl .nil)) (.cons rfl .nil))
   ·rw [hg110] at hg106
    rw [if_pos rfl] at hg106
    have H := hg106
    refine Tr.val (wg rfl rfl rfl) rfl (fun _ _ h1 h2 => zB fo_36_2 (h1.ev rfl)) ?_
    refine Tr.val (wg rfl rfl rfl) rfl (fun _ _ h1 h2 => zC ag_3 (h1.ev rfl) (rdb h2 (vs := [(iv p0.X0), (iv p0.Y0), (iv p0.X1), (iv p0.Y1)]) (k := 1) rfl 2) rfl) ?_
    obtain ⟨y107, hy107, H⟩ := bnd H
    refine Tr.call0 (r := (.bool y107)) (wg rfl rfl rfl) rfl Tryz.call129 (zF rfl zN) (fun W hW => F_shape_IsAt_ok p0.X1 y107 hy107 (HF.start _)) ?_
    refine Tr.va rfl (fun _ _ h1 h2 => zb (h1.ev rfl) (h1.ev rfl)) ?_
    obtain rfl := Option.some.inj H
    exact Tr.nil (Tr.fin0 (.cons rfl (.cons rfl .nil)) (.cons rfl .nil))
  ·show Tr _ _ (LF [(1, (.pointer (some ⟨b100, 0, none⟩))), (15, (.bool g106))]) (LE [(1, bx b100 #[(iv p0.X0), (iv p0.Y0), (iv p0.X1), (iv p0.Y1)] 36)]) _
   refine Tr.mv rfl rfl ?_
   obtain ⟨g109, hg109, H⟩ := bnd H
   refine Tr.mid0 4 [(20, (.bool g109))] [(1, bx b100 #[(iv p0.X0), (iv p0.Y0), (iv p0.X1), (iv p0.Y1)] 36)] ?_ ?_
   ·cases hg110 : g106
    ·rw [hg110] at hg109
     rw [if_neg (by decide)] at hg109
     have H := hg109
     obtain rfl := Option.some.inj H
     refine Tr.pass rfl rfl rfl rfl rfl (by decide) ?_
     refine Tr.pass rfl rfl rfl rfl rfl (by decide) ?_
     refine Tr.pass rfl rfl rfl rfl rfl (by decide) ?_
     refine Tr.va rfl (fun _ _ h1 h2 => ze (h1.ev rfl) (h1.ev rfl)) ?_
     exact Tr.nil (Tr.fin0 (.cons rfl .nil) (.cons rfl .nil))
    ·rw [hg110] at hg109
     rw [if_pos rfl] at hg109
     have H := hg109
     refine Tr.val (wg rfl rfl rfl) rfl (fun _ _ h1 h2 => zB fo_36_3 (h1.ev rfl)) ?_
     refine Tr.val (wg rfl rfl rfl) rfl (fun _ _ h1 h2 => zC ag_3 (h1.ev rfl) (rdb h2 (vs := [(iv p0.X0), (iv p0.Y0), (iv p0.X1), (iv p0.Y1)]) (k := 1) rfl 3) rfl) ?_
     obtain ⟨y110, hy110, H⟩ := bnd H
     refine Tr.call0 (r := (.bool y110)) (wg rfl rfl rfl) rfl Tryz.call129 (zF rfl zN) (fun W hW => F_shape_IsAt_ok p0.Y1 y110 hy110 (HF.start _)) ?_
     refine Tr.va rfl (fun _ _ h1 h2 => zb (h1.ev rfl) (h1.ev rfl)) ?_
     obtain rfl := Option.some.inj H
     exact Tr.nil (Tr.fin0 (.cons rfl .nil) (.cons rfl .nil))
   ·show Tr _ _ (LF [(20, (.bool g109))]) (LE [(1, bx b100 #[(iv p0.X0), (iv p0.Y0), (iv p0.X1), (iv p0.Y1)] 36)]) _
    refine Tr.asg rfl rfl ?_
    refine Tr.nil (Tr.zA ?_)
    refine Tr.ret ?_
    obtain rfl := Option.some.inj H
    exact Tr.out (m := [(.bool g109)]) [] (zL rfl zP) (fun W hW => ⟨rfl, hW.low leB⟩)

theorem F_shape_Set__Fits_ok {w : Bs} (p0 : (List zS)) (Ap0_0 : Option Addr) (cp0_0 : Nat) (hp0_0 : Sl w.R w.W zH Ap0_0 cp0_0 p0) (r : Bool) (H : F_shape_Set__Fits p0 = some r) (hE : HF w w.W E0) : Calls Tryz.prog 154 [(.slice Ap0_0 (p0).length cp0_0)].toArray w.W fun e W' => e = .returned (.bool r) ∧ HF w W' E0 := by
 unfold F_shape_Set__Fits at H
 have leB := Bs.Le.refl w
 refine Tr.enter (n := 11) Tryz.func154 rfl rfl rfl hE ?_
 refine Tr.sr ?_
 refine Tr.asg rfl rfl ?_
 refine Tr.nil (Tr.zA ?_)
 refine Tr.sr ?_
 refine Tr.mv rfl rfl ?_
 refine Tr.va rfl (fun _ _ h1 h2 => zl un_66 (h1.ev rfl)) ?_
 refine Tr.va rfl (fun _ _ h1 h2 => run_eql (h1.ev rfl) (h1.ev rfl)) ?_
 refine Tr.mv rfl rfl ?_
 obtain ⟨g102, hg102, H⟩ := bnd H
 refine Tr.mid0 4 [(10, (.bool g102))] [] ?_ ?_
 ·cases hg104 : ((p0.length : Int) == 0)
  ·rw [hg104] at hg102
   rw [if_neg (by decide)] at hg102
   have H := hg102
   refine Tr.val (wg rfl rfl rfl) rfl (fun _ _ h1 h2 => run_move (h1.ev rfl)) ?_
   obtain ⟨y103, hy103, H⟩ := bnd H
   refine Tr.call0 (r := (.agg #[(iv y103.X0), (iv y103.Y0), (iv y103.X1), (iv y103.Y1)])) (wg rfl rfl rfl) rfl Tryz.call170 (zF rfl zN) (fun W hW => F_shape_Set__Around_ok p0 Ap0_0 cp0_0 (hp0_0.ext hW.extAll) y103 hy103 (HF.start _)) ?_
   obtain ⟨y104, hy104, H⟩ := bnd H
   refine Tr.call0 (r := (.bool y104)) (wg rfl rfl rfl) rfl Tryz.call108 (zF rfl zN) (fun W hW => F_shape_isRect_ok y103 y104 hy104 (HF.start _)) ?_
   refine Tr.va rfl (fun _ _ h1 h2 => ze (h1.ev rfl) (h1.ev rfl)) ?_
   obtain rfl := Option.some.inj H
   exact Tr.nil (Tr.fin0 (.cons rfl .nil) .nil)
  ·rw [hg104] at hg102
   rw [if_pos rfl] at hg102
   have H := hg102
   obtain rfl := Option.some.inj H
   refine Tr.pass rfl rfl rfl rfl rfl (by decide) ?_
   refine Tr.pass rfl rfl rfl rfl rfl (by decide) ?_
   refine Tr.pass rfl rfl rfl rfl rfl (by decide) ?_
   refine Tr.va rfl (fun _ _ h1 h2 => zb (h1.ev rfl) (h1.ev rfl)) ?_
   exact Tr.nil (Tr.fin0 (.cons rfl .nil) .nil)
 ·show Tr _ _ (LF [(10, (.bool g102))]) (LE []) _
  refine Tr.asg rfl rfl ?_
  refine Tr.nil (Tr.zA ?_)
  refine Tr.ret ?_
  obtain rfl := Option.some.inj H
  exact Tr.out (m := [(.bool g102)]) [] (zL rfl zP) (fun W hW => ⟨rfl, hW.low leB⟩)

theorem F_shape_Set__at_ok {w : Bs} (p0 : (List zS)) (Ap0_0 : Option Addr) (cp0_0 : Nat) (hp0_0 : Sl w.O w.W zH Ap0_0 cp0_0 p0) (p1 : Int) (p2 : Int) (r : ((List Int) × Int)) (H : F_shape_Set__at p0 p1 p2 = some r) (hE : HF w w.W (LEn [])) : Calls Tryz.prog 90 [(.slice Ap0_0 (p0).length cp0_0), (iv p1), (iv p2)].toArray w.W fun e W' => ∃ (w' : Bs) (u : (Option Addr × Nat)), w.Le w' ∧ e = .returned (.tuple #[(.slice u.1 (r.1).length u.2), (iv r.2)]) ∧ (Sl w'.O w'.W zX u.1 u.2 r.1) ∧ HF w' W' (LEn []) := by
 unfold F_shape_Set__at at H
 have leB := Bs.Le.refl w
 refine Tr.enter (n := 36) Tryz.func90 rfl rfl rfl hE ?_
 refine Tr.sr ?_
 refine Tr.asg rfl rfl ?_
 refine Tr.nilOwn 1 3 zX ?_
 show Tr _ _ (uf _ 6 (.slice none (([] : List Int)).length 0)) _ _
 refine Tr.asg rfl rfl ?_
 refine Tr.nil (Tr.zA ?_)
 refine Tr.seq ?_
 refine Tr.block ?_
 refine Tr.sr ?_
 refine Tr.mv rfl rfl ?_
 refine Tr.va rfl (fun _ _ h1 h2 => zl un_66 (h1.ev rfl)) ?_
 refine Tr.va rfl (fun _ _ h1 h2 => run_eql (h1.ev rfl) (h1.ev rfl)) ?_
 refine Tr.asg rfl rfl ?_
 refine Tr.nil (Tr.zA ?_)
 refine Tr.cond rfl H (fun H => ?_) (fun H => ?_)
 ·refine Tr.sr ?_
  refine Tr.mv rfl rfl ?_
  refine Tr.asg rfl rfl ?_
  refine Tr.nilOwn 2 3 zX ?_
  show Tr _ _ (uf _ 6 (.slice none (([] : List Int)).length 0)) _ _
  refine Tr.asg rfl rfl ?_
  refine Tr.nil (Tr.zA ?_)
  refine Tr.ret (Tr.zt (Tr.zU ?_))
  obtain rfl := Option.some.inj H
  refine Tr.freeze 2 rfl fun w le101 hz100 => ?_
  replace hp0_0 := hp0_0.le le101
  replace leB := leB.trans le101
  exact Tr.out (m := [(.slice none (([] : List Int)).length 0), (iv p2)]) [] (zL rfl (zL rfl zP)) (fun W hW => ⟨w, (none, 0), leB, rfl, hz100, hW.pick (ks := []) (by decide) za⟩)
 ·refine Tr.sr ?_
  refine Tr.mv rfl rfl ?_
  refine Tr.mv rfl rfl ?_
  obtain ⟨x102, hx102, H⟩ := bnd H
  obtain ⟨hx1020, hx1021, hx1022⟩ := zq hx102
  obtain ⟨u103, hRu103, hoku103, hcu103⟩ := (hp0_0).el hx1022
  obtain ⟨Au103_0, cu103_0⟩ := u103
  have hoku103_0 := hoku103
  replace hoku103_0 : Sl w.O w.W zX Au103_0 cu103_0 x102.Xs := hoku103_0
  replace hRu103 : w.R (adB Ap0_0) := Or.inl hRu103
  refine Tr.va rfl (fun _ _ h1 h2 => zI el_66 (h1.ev rfl) hp0_0.form (h1.ev rfl) hx1020 hx1021) ?_
  refine Tr.va rfl (fun _ _ h1 h2 => zB fo_107_0 (h1.ev rfl)) ?_
  refine Tr.va rfl (fun _ _ h1 h2 => zC ag_3 (h1.ev rfl) (zO.drop (rdR hRu103 hcu103 h2) 0) rfl) ?_
  refine Tr.va rfl (fun _ _ h1 h2 => zn (h1.ev rfl) (h1.ev rfl)) ?_
  refine Tr.asg rfl rfl ?_
  refine Tr.nil (Tr.zA ?_)
  refine Tr.cond rfl H (fun H => ?_) (fun H => ?_)
  ·refine Tr.seq ?_
   refine Tr.draw (by kernel_rfl) (by kernel_rfl) ?_
   refine Tq.mv rfl rfl ?_
   refine Tq.mv rfl rfl ?_
   obtain ⟨x104, hx104, H⟩ := bnd H
   obtain ⟨hx1040, hx1041, hx1042⟩ := zq hx104
   obtain ⟨u105, hRu105, hoku105, hcu105⟩ := (hp0_0).el hx1042
   obtain ⟨Au105_0, cu105_0⟩ := u105
   have hoku105_0 := hoku105
   replace hoku105_0 : Sl w.O w.W zX Au105_0 cu105_0 x104.Xs := hoku105_0
   replace hRu105 : w.R (adB Ap0_0) := Or.inl hRu105
   refine Tq.va rfl (fun _ _ h1 h2 => zI el_66 (h1.ev rfl) hp0_0.form (h1.ev rfl) hx1040 hx1041) ?_
   refine Tq.va rfl (fun _ _ h1 h2 => zB fo_107_0 (h1.ev rfl)) ?_
   refine Tq.va rfl (fun _ _ h1 h2 => zC ag_3 (h1.ev rfl) (zO.drop (rdR hRu105 hcu105 h2) 0) rfl) ?_
   refine Tq.va rfl (fun _ _ h1 h2 => run_min (h1.ev rfl) (h1.ev rfl) _) ?_
   refine Tq.asg rfl rfl ?_
   refine Tq.asg rfl rfl ?_
   refine Tq.nil (Tr.zA ?_)
   refine Tr.ret (Tr.zt (Tr.zU ?_))
   obtain rfl := Option.some.inj H
   exact Tr.out (m := [(.slice none 0 0), (iv (min p2 x104.Y0))]) [] (zL rfl (zL rfl zP)) (fun W hW => ⟨w, (none, 0), leB, rfl, (Sl.nil _ _ _), hW.pick (ks := []) (by decide) za⟩)
  ·refine Tr.skip (Tr.zT (Tr.zA ?_))
   refine Tr.seq ?_
   refine Tr.draw (by kernel_rfl) (by kernel_rfl) ?_
   refine Tq.mv rfl rfl ?_
   obtain ⟨x106, hx106, H⟩ := bnd H
   obtain ⟨hx1060, hx1061, hx1062⟩ := zq hx106
   obtain ⟨u107, hRu107, hoku107, hcu107⟩ := (hp0_0).el hx1062
   obtain ⟨Au107_0, cu107_0⟩ := u107
   have hoku107_0 := hoku107
   replace hoku107_0 : Sl w.O w.W zX Au107_0 cu107_0 x106.Xs := hoku107_0
   replace hRu107 : w.R (adB Ap0_0) := Or.inl hRu107
   refine Tq.va rfl (fun _ _ h1 h2 => zI el_66 (h1.ev rfl) hp0_0.form (h1.ev rfl) hx1060 hx1061) ?_
   refine Tq.va rfl (fun _ _ h1 h2 => zB fo_107_2 (h1.ev rfl)) ?_
   refine Tq.va rfl (fun _ _ h1 h2 => zC ag_38 (h1.ev rfl) (zO.drop (rdR hRu107 hcu107 h2) 2) rfl) ?_
   refine Tq.mv rfl rfl ?_
   refine Tq.mv rfl rfl ?_
   obtain ⟨x108, hx108, H⟩ := bnd H
   obtain ⟨hx1080, hx1081, hx1082⟩ := zq hx108
   obtain ⟨u109, hRu109, hoku109, hcu109⟩ := (hp0_0).el hx1082
   obtain ⟨Au109_0, cu109_0⟩ := u109
   have hoku109_0 := hoku109
   replace hoku109_0 : Sl w.O w.W zX Au109_0 cu109_0 x108.Xs := hoku109_0
   replace hRu109 : w.R (adB Ap0_0) := Or.inl hRu109
   refine Tq.va rfl (fun _ _ h1 h2 => zI el_66 (h1.ev rfl) hp0_0.form (h1.ev rfl) hx1080 hx1081) ?_
   refine Tq.va rfl (fun _ _ h1 h2 => zB fo_107_1 (h1.ev rfl)) ?_
   refine Tq.va rfl (fun _ _ h1 h2 => zC ag_3 (h1.ev rfl) (zO.drop (rdR hRu109 hcu109 h2) 1) rfl) ?_
   refine Tq.va rfl (fun _ _ h1 h2 => run_min (h1.ev rfl) (h1.ev rfl) _) ?_
   refine Tq.asg rfl rfl ?_
   refine Tq.asg rfl rfl ?_
   refine Tq.nil (Tr.zA ?_)
   refine Tr.ret ?_
   obtain rfl := Option.some.inj H
   exact Tr.out (m := [(.slice Au107_0 (x106.Xs).length cu107_0), (iv (min p2 x108.Y1))]) [] (zL rfl (zL rfl zP)) (fun W hW => ⟨w, (Au107_0, cu107_0), leB, rfl, hoku107_0, hW.pick (ks := []) (by decide) za⟩)

theorem F_shape_line_ok (N : Nat) {w : Bs} (p0 : (List Int)) (Ap0_0 : Option Addr) (cp0_0 : Nat) (hp0_0 : Sl w.R w.W zX Ap0_0 cp0_0 p0) (p1 : (List Int)) (Ap1_0 : Option Addr) (cp1_0 : Nat) (hp1_0 : Sl w.R w.W zX Ap1_0 cp1_0 p1) (p2 : Bool → Bool → Option Bool) (fid2 : Nat) (cap2 : List Value) (hg2 : ∀ args W, (callFunc fid2 args).run Tryz.prog W = .ok (.enter fid2 args) W) (hf2 : ∀ (w' : Bs), w.Ext w' → ∀ (z0 : Bool) (z1 : Bool), ∀ y, p2 z0 z1 = some y → Calls Tryz.prog fid2 (([(.bool z0), (.bool z1)] : List Value) ++ cap2).toArray w'.W fun e W'' => e = .returned (.bool y) ∧ HF w' W'' E0) (r : (List Int)) (H : F_shape_line N p0 p1 p2 = some r) (hE : HF w w.W (LEn [emp])) : Calls Tryz.prog 91 [(.slice Ap0_0 (p0).length cp0_0), (.slice Ap1_0 (p1).length cp1_0), (.func (.func fid2) #[] cap2.toArray)].toArray w.W fun e W' => ∃ u : (Option Addr × Nat), e = .returned (.slice u.1 (r).length u.2) ∧ (SlF u.1 (r).length u.2) ∧ HF w W' (LEn [ow u.1 u.2 3 zX r]) := by
 unfold F_shape_line at H
 have leB := Bs.Le.refl w
 refine Tr.enter (n := 85) Tryz.func91 rfl rfl rfl hE ?_
 refine Tr.sr ?_
 refine Tr.asg rfl rfl ?_
 refine Tr.nilOwn 1 3 zX ?_
 show Tr _ _ (uf _ 6 (.slice none (([] : List Int)).length 0)) _ _
 refine Tr.nil (Tr.zA ?_)
 refine Tr.sr ?_
 refine Tr.asg rfl rfl ?_
 refine Tr.nilOwn 2 3 zX ?_
 show Tr _ _ (uf _ 7 (.slice none (([] : List Int)).length 0)) _ _
 refine Tr.nil (Tr.zA ?_)
 refine Tr.sr ?_
 refine Tr.asg rfl rfl ?_
 refine Tr.asg rfl rfl ?_
 refine Tr.asg rfl rfl ?_
 refine Tr.nil (Tr.zA ?_)
 refine Tr.seq ?_
 refine Tr.block ?_
 refine Tr.loop (σ := (List Int) × (List Int) × (List Int) × Bool × Bool × Bool × (Option Addr) × Nat × (Option Addr) × Nat × (Option Addr) × Nat) (fun m w s => zAD p2 m s.1 s.2.1 s.2.2.1 s.2.2.2.1 s.2.2.2.2.1 s.2.2.2.2.2.1 = some r ∧ Sl w.R w.W zX s.2.2.2.2.2.2.1 s.2.2.2.2.2.2.2.1 s.1 ∧ Sl w.R w.W zX s.2.2.2.2.2.2.2.2.1 s.2.2.2.2.2.2.2.2.2.1 s.2.1 ∧ SlF s.2.2.2.2.2.2.2.2.2.2.1 (s.2.2.1).length s.2.2.2.2.2.2.2.2.2.2.2) (fun s => [(0, (.slice s.2.2.2.2.2.2.1 (s.1).length s.2.2.2.2.2.2.2.1)), (1, (.slice s.2.2.2.2.2.2.2.2.1 (s.2.1).length s.2.2.2.2.2.2.2.2.2.1)), (2, (.func (.func fid2) #[] cap2.toArray)), (7, (.slice s.2.2.2.2.2.2.2.2.2.2.1 (s.2.2.1).length s.2.2.2.2.2.2.2.2.2.2.2)), (8, (.bool s.2.2.2.1)), (9, (.bool s.2.2.2.2.1)), (10, (.bool s.2.2.2.2.2.1))]) (fun s => [(2, ow s.2.2.2.2.2.2.2.2.2.2.1 s.2.2.2.2.2.2.2.2.2.2.2 3 zX s.2.2.1)]) N (p0, p1, ([] : List Int), false, false, false, Ap0_0, cp0_0, Ap1_0, cp1_0, none, 0) ⟨H, hp0_0, hp1_0, slf_nil⟩ (.cons rfl (.cons rfl (.cons rfl (.cons rfl (.cons rfl (.cons rfl (.cons rfl .nil))))))) (.cons rfl .nil) (fun _ _ h => noSome (h.1)) ?_
 intro w leL7 mL7 s hs
 obtain ⟨l230, l231, l232, x233, x234, x235, Al230, cl230, Al231, cl231, Al232, cl232⟩ := s
 obtain ⟨H, hl230, hl231, hl232⟩ := hs
 replace H : zAD p2 (mL7 + 1) l230 l231 l232 x233 x234 x235 = some r := H
 replace hf2 := fun w' he => hf2 w' (leL7.ext.trans he)
 replace leB := leB.trans leL7
 replace hl230 : Sl w.R w.W zX Al230 cl230 l230 := hl230
 replace hl231 : Sl w.R w.W zX Al231 cl231 l231 := hl231
 replace hl232 : SlF Al232 (l232).length cl232 := hl232
 rw [zAD.eq_2] at H
 show Tr _ _ (LF [(0, (.slice Al230 (l230).length cl230)), (1, (.slice Al231 (l231).length cl231)), (2, (.func (.func fid2) #[] cap2.toArray)), (7, (.slice Al232 (l232).length cl232)), (8, (.bool x233)), (9, (.bool x234)), (10, (.bool x235))]) (LE [(2, ow Al232 cl232 3 zX l232)]) _
 refine Tr.seq ?_
 refine Tr.sr ?_
 refine Tr.mv rfl rfl ?_
 refine Tr.va rfl (fun _ _ h1 h2 => zl un_38 (h1.ev rfl)) ?_
 refine Tr.va rfl (fun _ _ h1 h2 => run_gtr (h1.ev rfl) (h1.ev rfl)) ?_
 refine Tr.mv rfl rfl ?_
 refine Tr.mid0 4 [(0, (.slice Al230 (l230).length cl230)), (1, (.slice Al231 (l231).length cl231)), (2, (.func (.func fid2) #[] cap2.toArray)), (7, (.slice Al232 (l232).length cl232)), (8, (.bool x233)), (9, (.bool x234)), (10, (.bool x235)), (20, (.bool ((decide (0 < (l230.length : Int))) || (decide (0 < (l231.length : Int))))))] [(2, ow Al232 cl232 3 zX l232)] ?_ ?_
 ·cases hg291 : (decide (0 < (l230.length : Int)))
  ·refine Tr.val (wg rfl rfl rfl) rfl (fun _ _ h1 h2 => run_move (h1.ev rfl)) ?_
   refine Tr.val (wg rfl rfl rfl) rfl (fun _ _ h1 h2 => zl un_38 (h1.ev rfl)) ?_
   refine Tr.val (wg rfl rfl rfl) rfl (fun _ _ h1 h2 => run_gtr (h1.ev rfl) (h1.ev rfl)) ?_
   refine Tr.va rfl (fun _ _ h1 h2 => ze (h1.ev rfl) (h1.ev rfl)) ?_
   exact Tr.nil (Tr.fin0 (.cons rfl (.cons rfl (.cons rfl (.cons rfl (.cons rfl (.cons rfl (.cons rfl (.cons rfl .nil)))))))) (.cons rfl .nil))
  ·refine Tr.pass rfl rfl rfl rfl rfl (by decide) ?_
   refine Tr.pass rfl rfl rfl rfl rfl (by decide) ?_
   refine Tr.pass rfl rfl rfl rfl rfl (by decide) ?_
   refine Tr.va rfl (fun _ _ h1 h2 => zb (h1.ev rfl) (h1.ev rfl)) ?_
   exact Tr.nil (Tr.fin0 (.cons rfl (.cons rfl (.cons rfl (.cons rfl (.cons rfl (.cons rfl (.cons rfl (.cons rfl .nil)))))))) (.cons rfl .nil))
 ·show Tr _ _ (LF [(0, (.slice Al230 (l230).length cl230)), (1, (.slice Al231 (l231).length cl231)), (2, (.func (.func fid2) #[] cap2.toArray)), (7, (.slice Al232 (l232).length cl232)), (8, (.bool x233)), (9, (.bool x234)), (10, (.bool x235)), (20, (.bool ((decide (0 < (l230.length : Int))) || (decide (0 < (l231.length : Int))))))]) (LE [(2, ow Al232 cl232 3 zX l232)]) _
  refine Tr.nil (Tr.zA ?_)
  refine Tr.cond rfl H (fun H => ?_) (fun H => ?_)
  ·refine Tr.skip (Tr.zA ?_)
   refine Tr.block ?_
   refine Tr.sr ?_
   refine Tr.asg rfl rfl ?_
   refine Tr.nil (Tr.zA ?_)
   have leJ250 := Bs.Le.refl w
   refine Tr.cutJ (σ := Int) (fun w s => F_shape_line_J10 p2 l230 l231 l232 x233 x234 x235 (zAD p2 mL7) s = some r) (fun s => [(0, (.slice Al230 (l230).length cl230)), (1, (.slice Al231 (l231).length cl231)), (2, (.func (.func fid2) #[] cap2.toArray)), (7, (.slice Al232 (l232).length cl232)), (8, (.bool x233)), (9, (.bool x234)), (10, (.bool x235)), (11, (iv s))]) (fun s => [(2, ow Al232 cl232 3 zX l232)]) ?_ ?_
   ·refine Tr.seq ?_
    refine Tr.draw (by kernel_rfl) (by kernel_rfl) ?_
    refine Tq.mv rfl rfl ?_
    refine Tq.va rfl (fun _ _ h1 h2 => zl un_38 (h1.ev rfl)) ?_
    refine Tq.va rfl (fun _ _ h1 h2 => run_eql (h1.ev rfl) (h1.ev rfl)) ?_
    refine Tq.mv rfl rfl ?_
    obtain ⟨g284, hg284, H⟩ := bnd H
    refine Tq.mid 13 [(0, (.slice Al230 (l230).length cl230)), (1, (.slice Al231 (l231).length cl231)), (2, (.func (.func fid2) #[] cap2.toArray)), (7, (.slice Al232 (l232).length cl232)), (8, (.bool x233)), (9, (.bool x234)), (10, (.bool x235)), (37, (.bool g284))] ?_ ?_
    ·cases hg291 : ((l231.length : Int) == 0)
     ·rw [hg291] at hg284
      rw [if_neg (by decide)] at hg284
      have H := hg284
      refine Tq.val (wg rfl rfl rfl) rfl (fun _ _ h1 h2 => run_move (h1.ev rfl)) ?_
      refine Tq.val (wg rfl rfl rfl) rfl (fun _ _ h1 h2 => zl un_38 (h1.ev rfl)) ?_
      refine Tq.val (wg rfl rfl rfl) rfl (fun _ _ h1 h2 => run_gtr (h1.ev rfl) (h1.ev rfl)) ?_
      refine Tq.val (wg rfl rfl rfl) rfl (fun _ _ h1 h2 => run_move (h1.ev rfl)) ?_
      obtain ⟨g287, hg287, H⟩ := bnd H
      refine Tq.mid 8 [(0, (.slice Al230 (l230).length cl230)), (1, (.slice Al231 (l231).length cl231)), (2, (.func (.func fid2) #[] cap2.toArray)), (7, (.slice Al232 (l232).length cl232)), (8, (.bool x233)), (9, (.bool x234)), (10, (.bool x235)), (24, (.bool false)), (36, (.bool g287))] ?_ ?_
      ·cases hg289 : (decide (0 < (l230.length : Int)))
       ·rw [hg289] at hg287
        rw [if_neg (by decide)] at hg287
        have H := hg287
        obtain rfl := Option.some.inj H
        refine Tq.pass rfl rfl rfl rfl rfl (by decide) ?_
        refine Tq.pass rfl rfl rfl rfl rfl (by decide) ?_
        refine Tq.pass rfl rfl rfl rfl rfl (by decide) ?_
        refine Tq.pass rfl rfl rfl rfl rfl (by decide) ?_
        refine Tq.pass rfl rfl rfl rfl rfl (by decide) ?_
        refine Tq.pass rfl rfl rfl rfl rfl (by decide) ?_
        refine Tq.pass rfl rfl rfl rfl rfl (by decide) ?_
        refine Tq.val (wg rfl rfl rfl) rfl (fun _ _ h1 h2 => ze (h1.ev rfl) (h1.ev rfl)) ?_
        exact Tq.fin (.cons rfl (.cons rfl (.cons rfl (.cons rfl (.cons rfl (.cons rfl (.cons rfl (.cons rfl (.cons rfl .nil)))))))))
       ·rw [hg289] at hg287
        rw [if_pos rfl] at hg287
        have H := hg287
        refine Tq.val (wg rfl rfl rfl) rfl (fun _ _ h1 h2 => run_move (h1.ev rfl)) ?_
        obtain ⟨x288, hx288, H⟩ := bnd H
        obtain ⟨hx2880, hx2881, hx2882⟩ := zq hx288
        refine Tq.val (wg rfl rfl rfl) rfl (fun _ _ h1 h2 => zI el_38 (h1.ev rfl) hl230.form (h1.ev rfl) hx2880 hx2881) ?_
        refine Tq.val (wg rfl rfl rfl) rfl (fun _ _ h1 h2 => zC ag_3 (h1.ev rfl) (rdF ef_i64 hl230 hx2882 h2) rfl) ?_
        refine Tq.val (wg rfl rfl rfl) rfl (fun _ _ h1 h2 => run_move (h1.ev rfl)) ?_
        obtain ⟨x289, hx289, H⟩ := bnd H
        obtain ⟨hx2890, hx2891, hx2892⟩ := zq hx289
        refine Tq.val (wg rfl rfl rfl) rfl (fun _ _ h1 h2 => zI el_38 (h1.ev rfl) hl231.form (h1.ev rfl) hx2890 hx2891) ?_
        refine Tq.val (wg rfl rfl rfl) rfl (fun _ _ h1 h2 => zC ag_3 (h1.ev rfl) (rdF ef_i64 hl231 hx2892 h2) rfl) ?_
        refine Tq.val (wg rfl rfl rfl) rfl (fun _ _ h1 h2 => run_leq (h1.ev rfl) (h1.ev rfl)) ?_
        refine Tq.val (wg rfl rfl rfl) rfl (fun _ _ h1 h2 => zb (h1.ev rfl) (h1.ev rfl)) ?_
        obtain rfl := Option.some.inj H
        exact Tq.fin (.cons rfl (.cons rfl (.cons rfl (.cons rfl (.cons rfl (.cons rfl (.cons rfl (.cons rfl (.cons rfl .nil)))))))))
      ·refine Tq.va rfl (fun _ _ h1 h2 => ze (h1.ev rfl) (h1.ev rfl)) ?_
       obtain rfl := Option.some.inj H
       exact Tq.fin (.cons rfl (.cons rfl (.cons rfl (.cons rfl (.cons rfl (.cons rfl (.cons rfl (.cons rfl .nil))))))))
     ·rw [hg291] at hg284
      rw [if_pos rfl] at hg284
      have H := hg284
      obtain rfl := Option.some.inj H
      refine Tq.pass rfl rfl rfl rfl rfl (by decide) ?_
      refine Tq.pass rfl rfl rfl rfl rfl (by decide) ?_
      refine Tq.pass rfl rfl rfl rfl rfl (by decide) ?_
      refine Tq.pass rfl rfl rfl rfl rfl (by decide) ?_
      refine Tq.passU rfl rfl rfl rfl (by decide) ?_
      refine Tq.passU rfl rfl rfl rfl (by decide) ?_
      refine Tq.passU rfl rfl rfl rfl (by decide) ?_
      refine Tq.passU rfl rfl rfl rfl (by decide) ?_
      refine Tq.passU rfl rfl rfl rfl (by decide) ?_
      refine Tq.passU rfl rfl rfl rfl (by decide) ?_
      refine Tq.passU rfl rfl rfl rfl (by decide) ?_
      refine Tq.pass rfl rfl rfl rfl rfl (by decide) ?_
      refine Tq.va rfl (fun _ _ h1 h2 => zb (h1.ev rfl) (h1.ev rfl)) ?_
      exact Tq.fin (.cons rfl (.cons rfl (.cons rfl (.cons rfl (.cons rfl (.cons rfl (.cons rfl (.cons rfl .nil))))))))
    ·refine Tq.nil (Tr.zA ?_)
     refine Tr.cond rfl H (fun H => ?_) (fun H => ?_)
     ·refine Tr.region ?_
      refine Tr.mv rfl rfl ?_
      obtain ⟨x290, hx290, H⟩ := bnd H
      obtain ⟨hx2900, hx2901, hx2902⟩ := zq hx290
      refine Tr.va rfl (fun _ _ h1 h2 => zI el_38 (h1.ev rfl) hl230.form (h1.ev rfl) hx2900 hx2901) ?_
      refine Tr.va rfl (fun _ _ h1 h2 => zC ag_3 (h1.ev rfl) (rdF ef_i64 hl230 hx2902 h2) rfl) ?_
      refine Tr.asg rfl rfl ?_
      refine Tr.nil ?_
      exact Tr.zW leJ250 x290 H (.cons rfl (.cons rfl (.cons rfl (.cons rfl (.cons rfl (.cons rfl (.cons rfl (.cons rfl .nil)))))))) (.cons rfl .nil)
     ·refine Tr.region ?_
      refine Tr.mv rfl rfl ?_
      obtain ⟨x291, hx291, H⟩ := bnd H
      obtain ⟨hx2910, hx2911, hx2912⟩ := zq hx291
      refine Tr.va rfl (fun _ _ h1 h2 => zI el_38 (h1.ev rfl) hl231.form (h1.ev rfl) hx2910 hx2911) ?_
      refine Tr.va rfl (fun _ _ h1 h2 => zC ag_3 (h1.ev rfl) (rdF ef_i64 hl231 hx2912 h2) rfl) ?_
      refine Tr.asg rfl rfl ?_
      refine Tr.nil ?_
      exact Tr.zW leJ250 x291 H (.cons rfl (.cons rfl (.cons rfl (.cons rfl (.cons rfl (.cons rfl (.cons rfl (.cons rfl .nil)))))))) (.cons rfl .nil)
   ·intro w x249 hlJ251 hs
    have H := hs
    replace H : F_shape_line_J10 p2 l230 l231 l232 x233 x234 x235 (zAD p2 mL7) x249 = some r := H
    replace hl230 := hl230.leR hlJ251
    replace hl231 := hl231.leR hlJ251
    replace hf2 := fun w' he => hf2 w' (hlJ251.ext.trans he)
    replace leB := leB.trans hlJ251
    replace leL7 := leL7.trans hlJ251
    unfold F_shape_line_J10 at H
    show Tr _ _ (LF [(0, (.slice Al230 (l230).length cl230)), (1, (.slice Al231 (l231).length cl231)), (2, (.func (.func fid2) #[] cap2.toArray)), (7, (.slice Al232 (l232).length cl232)), (8, (.bool x233)), (9, (.bool x234)), (10, (.bool x235)), (11, (iv x249))]) (LE [(2, ow Al232 cl232 3 zX l232)]) _
    have leJ258 := Bs.Le.refl w
    refine Tr.cutJ (σ := (List Int) × Bool × (Option Addr) × Nat) (fun w s => F_shape_line_J9 p2 l231 l232 x234 x235 (zAD p2 mL7) x249 s.1 s.2.1 = some r ∧ Sl w.R w.W zX s.2.2.1 s.2.2.2 s.1) (fun s => [(0, (.slice s.2.2.1 (s.1).length s.2.2.2)), (1, (.slice Al231 (l231).length cl231)), (2, (.func (.func fid2) #[] cap2.toArray)), (7, (.slice Al232 (l232).length cl232)), (8, (.bool s.2.1)), (9, (.bool x234)), (10, (.bool x235)), (11, (iv x249))]) (fun s => [(2, ow Al232 cl232 3 zX l232)]) ?_ ?_
    ·refine Tr.sr ?_
     refine Tr.mv rfl rfl ?_
     refine Tr.va rfl (fun _ _ h1 h2 => zl un_38 (h1.ev rfl)) ?_
     refine Tr.va rfl (fun _ _ h1 h2 => run_gtr (h1.ev rfl) (h1.ev rfl)) ?_
     refine Tr.mv rfl rfl ?_
     obtain ⟨g276, hg276, H⟩ := bnd H
     refine Tr.mid0 6 [(0, (.slice Al230 (l230).length cl230)), (1, (.slice Al231 (l231).length cl231)), (2, (.func (.func fid2) #[] cap2.toArray)), (7, (.slice Al232 (l232).length cl232)), (8, (.bool x233)), (9, (.bool x234)), (10, (.bool x235)), (11, (iv x249)), (53, (.bool g276))] [(2, ow Al232 cl232 3 zX l232)] ?_ ?_
     ·cases hg278 : (decide (0 < (l230.length : Int)))
      ·rw [hg278] at hg276
       rw [if_neg (by decide)] at hg276
       have H := hg276
       obtain rfl := Option.some.inj H
       refine Tr.pass rfl rfl rfl rfl rfl (by decide) ?_
       refine Tr.pass rfl rfl rfl rfl rfl (by decide) ?_
       refine Tr.pass rfl rfl rfl rfl rfl (by decide) ?_
       refine Tr.pass rfl rfl rfl rfl rfl (by decide) ?_
       refine Tr.pass rfl rfl rfl rfl rfl (by decide) ?_
       refine Tr.va rfl (fun _ _ h1 h2 => ze (h1.ev rfl) (h1.ev rfl)) ?_
       exact Tr.nil (Tr.fin0 (.cons rfl (.cons rfl (.cons rfl (.cons rfl (.cons rfl (.cons rfl (.cons rfl (.cons rfl (.cons rfl .nil))))))))) (.cons rfl .nil))
      ·rw [hg278] at hg276
       rw [if_pos rfl] at hg276
       have H := hg276
       refine Tr.val (wg rfl rfl rfl) rfl (fun _ _ h1 h2 => run_move (h1.ev rfl)) ?_
       obtain ⟨x277, hx277, H⟩ := bnd H
       obtain ⟨hx2770, hx2771, hx2772⟩ := zq hx277
       refine Tr.val (wg rfl rfl rfl) rfl (fun _ _ h1 h2 => zI el_38 (h1.ev rfl) hl230.form (h1.ev rfl) hx2770 hx2771) ?_
       refine Tr.val (wg rfl rfl rfl) rfl (fun _ _ h1 h2 => zC ag_3 (h1.ev rfl) (rdF ef_i64 hl230 hx2772 h2) rfl) ?_
       refine Tr.val (wg rfl rfl rfl) rfl (fun _ _ h1 h2 => run_move (h1.ev rfl)) ?_
       refine Tr.val (wg rfl rfl rfl) rfl (fun _ _ h1 h2 => run_eql (h1.ev rfl) (h1.ev rfl)) ?_
       refine Tr.va rfl (fun _ _ h1 h2 => zb (h1.ev rfl) (h1.ev rfl)) ?_
       obtain rfl := Option.some.inj H
       exact Tr.nil (Tr.fin0 (.cons rfl (.cons rfl (.cons rfl (.cons rfl (.cons rfl (.cons rfl (.cons rfl (.cons rfl (.cons rfl .nil))))))))) (.cons rfl .nil))
     ·show Tr _ _ (LF [(0, (.slice Al230 (l230).length cl230)), (1, (.slice Al231 (l231).length cl231)), (2, (.func (.func fid2) #[] cap2.toArray)), (7, (.slice Al232 (l232).length cl232)), (8, (.bool x233)), (9, (.bool x234)), (10, (.bool x235)), (11, (iv x249)), (53, (.bool g276))]) (LE [(2, ow Al232 cl232 3 zX l232)]) _
      refine Tr.nil (Tr.zA ?_)
      refine Tr.cond rfl H (fun H => ?_) (fun H => ?_)
      ·refine Tr.region ?_
       refine Tr.mv rfl rfl ?_
       obtain ⟨l278, hl278, H⟩ := bnd H
       refine Tr.va rfl (fun _ _ h1 h2 => run_cutL el_38 (h1.ev rfl) hl230.form (h1.ev rfl) hl278) ?_
       refine Tr.mv rfl rfl ?_
       refine Tr.va rfl (fun _ _ h1 h2 => run_not (h1.ev rfl)) ?_
       refine Tr.asg rfl rfl ?_
       refine Tr.asg rfl rfl ?_
       refine Tr.nil ?_
       exact Tr.zW leJ258 (l278, (!x233), (cutA Al230 (1 : Int).toNat 1 cl230), (cl230 - (1 : Int).toNat)) ⟨H, (Sl.cut hl230 hl278)⟩ (.cons rfl (.cons rfl (.cons rfl (.cons rfl (.cons rfl (.cons rfl (.cons rfl (.cons rfl .nil)))))))) (.cons rfl .nil)
      ·refine Tr.skip ?_
       exact Tr.zW leJ258 (l230, x233, Al230, cl230) ⟨H, hl230⟩ (.cons rfl (.cons rfl (.cons rfl (.cons rfl (.cons rfl (.cons rfl (.cons rfl (.cons rfl .nil)))))))) (.cons rfl .nil)
    ·intro w s hlJ259 hs
     obtain ⟨l256, x257, Al256, cl256⟩ := s
     obtain ⟨H, hl256⟩ := hs
     replace H : F_shape_line_J9 p2 l231 l232 x234 x235 (zAD p2 mL7) x249 l256 x257 = some r := H
     replace hl231 := hl231.leR hlJ259
     replace hf2 := fun w' he => hf2 w' (hlJ259.ext.trans he)
     replace leB := leB.trans hlJ259
     replace leL7 := leL7.trans hlJ259
     replace hl256 : Sl w.R w.W zX Al256 cl256 l256 := hl256
     unfold F_shape_line_J9 at H
     show Tr _ _ (LF [(0, (.slice Al256 (l256).length cl256)), (1, (.slice Al231 (l231).length cl231)), (2, (.func (.func fid2) #[] cap2.toArray)), (7, (.slice Al232 (l232).length cl232)), (8, (.bool x257)), (9, (.bool x234)), (10, (.bool x235)), (11, (iv x249))]) (LE [(2, ow Al232 cl232 3 zX l232)]) _
     have leJ266 := Bs.Le.refl w
     refine Tr.cutJ (σ := (List Int) × Bool × (Option Addr) × Nat) (fun w s => F_shape_line_J8 p2 l232 x235 (zAD p2 mL7) x249 l256 x257 s.1 s.2.1 = some r ∧ Sl w.R w.W zX s.2.2.1 s.2.2.2 s.1) (fun s => [(0, (.slice Al256 (l256).length cl256)), (1, (.slice s.2.2.1 (s.1).length s.2.2.2)), (2, (.func (.func fid2) #[] cap2.toArray)), (7, (.slice Al232 (l232).length cl232)), (8, (.bool x257)), (9, (.bool s.2.1)), (10, (.bool x235)), (11, (iv x249))]) (fun s => [(2, ow Al232 cl232 3 zX l232)]) ?_ ?_
     ·refine Tr.sr ?_
      refine Tr.mv rfl rfl ?_
      refine Tr.va rfl (fun _ _ h1 h2 => zl un_38 (h1.ev rfl)) ?_
      refine Tr.va rfl (fun _ _ h1 h2 => run_gtr (h1.ev rfl) (h1.ev rfl)) ?_
      refine Tr.mv rfl rfl ?_
      obtain ⟨g272, hg272, H⟩ := bnd H
      refine Tr.mid0 6 [(0, (.slice Al256 (l256).length cl256)), (1, (.slice Al231 (l231).length cl231)), (2, (.func (.func fid2) #[] cap2.toArray)), (7, (.slice Al232 (l232).length cl232)), (8, (.bool x257)), (9, (.bool x234)), (10, (.bool x235)), (11, (iv x249)), (67, (.bool g272))] [(2, ow Al232 cl232 3 zX l232)] ?_ ?_
      ·cases hg274 : (decide (0 < (l231.length : Int)))
       ·rw [hg274] at hg272
        rw [if_neg (by decide)] at hg272
        have H := hg272
        obtain rfl := Option.some.inj H
        refine Tr.pass rfl rfl rfl rfl rfl (by decide) ?_
        refine Tr.pass rfl rfl rfl rfl rfl (by decide) ?_
        refine Tr.pass rfl rfl rfl rfl rfl (by decide) ?_
        refine Tr.pass rfl rfl rfl rfl rfl (by decide) ?_
        refine Tr.pass rfl rfl rfl rfl rfl (by decide) ?_
        refine Tr.va rfl (fun _ _ h1 h2 => ze (h1.ev rfl) (h1.ev rfl)) ?_
        exact Tr.nil (Tr.fin0 (.cons rfl (.cons rfl (.cons rfl (.cons rfl (.cons rfl (.cons rfl (.cons rfl (.cons rfl (.cons rfl .nil))))))))) (.cons rfl .nil))
       ·rw [hg274] at hg272
        rw [if_pos rfl] at hg272
        have H := hg272
        refine Tr.val (wg rfl rfl rfl) rfl (fun _ _ h1 h2 => run_move (h1.ev rfl)) ?_
        obtain ⟨x273, hx273, H⟩ := bnd H
        obtain ⟨hx2730, hx2731, hx2732⟩ := zq hx273
        refine Tr.val (wg rfl rfl rfl) rfl (fun _ _ h1 h2 => zI el_38 (h1.ev rfl) hl231.form (h1.ev rfl) hx2730 hx2731) ?_
        refine Tr.val (wg rfl rfl rfl) rfl (fun _ _ h1 h2 => zC ag_3 (h1.ev rfl) (rdF ef_i64 hl231 hx2732 h2) rfl) ?_
        refine Tr.val (wg rfl rfl rfl) rfl (fun _ _ h1 h2 => run_move (h1.ev rfl)) ?_
        refine Tr.val (wg rfl rfl rfl) rfl (fun _ _ h1 h2 => run_eql (h1.ev rfl) (h1.ev rfl)) ?_
        refine Tr.va rfl (fun _ _ h1 h2 => zb (h1.ev rfl) (h1.ev rfl)) ?_
        obtain rfl := Option.some.inj H
        exact Tr.nil (Tr.fin0 (.cons rfl (.cons rfl (.cons rfl (.cons rfl (.cons rfl (.cons rfl (.cons rfl (.cons rfl (.cons rfl .nil))))))))) (.cons rfl .nil))
      ·show Tr _ _ (LF [(0, (.slice Al256 (l256).length cl256)), (1, (.slice Al231 (l231).length cl231)), (2, (.func (.func fid2) #[] cap2.toArray)), (7, (.slice Al232 (l232).length cl232)), (8, (.bool x257)), (9, (.bool x234)), (10, (.bool x235)), (11, (iv x249)), (67, (.bool g272))]) (LE [(2, ow Al232 cl232 3 zX l232)]) _
       refine Tr.nil (Tr.zA ?_)
       refine Tr.cond rfl H (fun H => ?_) (fun H => ?_)
       ·refine Tr.region ?_
        refine Tr.mv rfl rfl ?_
        obtain ⟨l274, hl274, H⟩ := bnd H
        refine Tr.va rfl (fun _ _ h1 h2 => run_cutL el_38 (h1.ev rfl) hl231.form (h1.ev rfl) hl274) ?_
        refine Tr.mv rfl rfl ?_
        refine Tr.va rfl (fun _ _ h1 h2 => run_not (h1.ev rfl)) ?_
        refine Tr.asg rfl rfl ?_
        refine Tr.asg rfl rfl ?_
        refine Tr.nil ?_
        exact Tr.zW leJ266 (l274, (!x234), (cutA Al231 (1 : Int).toNat 1 cl231), (cl231 - (1 : Int).toNat)) ⟨H, (Sl.cut hl231 hl274)⟩ (.cons rfl (.cons rfl (.cons rfl (.cons rfl (.cons rfl (.cons rfl (.cons rfl (.cons rfl .nil)))))))) (.cons rfl .nil)
       ·refine Tr.skip ?_
        exact Tr.zW leJ266 (l231, x234, Al231, cl231) ⟨H, hl231⟩ (.cons rfl (.cons rfl (.cons rfl (.cons rfl (.cons rfl (.cons rfl (.cons rfl (.cons rfl .nil)))))))) (.cons rfl .nil)
     ·intro w s hlJ267 hs
      obtain ⟨l264, x265, Al264, cl264⟩ := s
      obtain ⟨H, hl264⟩ := hs
      replace H : F_shape_line_J8 p2 l232 x235 (zAD p2 mL7) x249 l256 x257 l264 x265 = some r := H
      replace hl256 := hl256.leR hlJ267
      replace hf2 := fun w' he => hf2 w' (hlJ267.ext.trans he)
      replace leB := leB.trans hlJ267
      replace leL7 := leL7.trans hlJ267
      replace hl264 : Sl w.R w.W zX Al264 cl264 l264 := hl264
      unfold F_shape_line_J8 at H
      show Tr _ _ (LF [(0, (.slice Al256 (l256).length cl256)), (1, (.slice Al264 (l264).length cl264)), (2, (.func (.func fid2) #[] cap2.toArray)), (7, (.slice Al232 (l232).length cl232)), (8, (.bool x257)), (9, (.bool x265)), (10, (.bool x235)), (11, (iv x249))]) (LE [(2, ow Al232 cl232 3 zX l232)]) _
      refine Tr.sr ?_
      refine Tr.mv rfl rfl ?_
      refine Tr.mv rfl rfl ?_
      refine Tr.mv rfl rfl ?_
      obtain ⟨y268, hy268, H⟩ := bnd H
      refine Tr.callF (r := (.bool y268)) (wn rfl) rfl rfl hg2 (zF rfl (zF rfl zN)) (fun W hW => hf2 hW.all hW.extAll x257 x265 _ hy268) ?_
      refine Tr.asg rfl rfl ?_
      refine Tr.nil (Tr.zA ?_)
      refine Tr.sr ?_
      refine Tr.mv rfl rfl ?_
      refine Tr.mv rfl rfl ?_
      refine Tr.va rfl (fun _ _ h1 h2 => run_neqB un_4 (h1.ev rfl) (h1.ev rfl)) ?_
      refine Tr.nil (Tr.zA ?_)
      refine Tr.cond rfl H (fun H => ?_) (fun H => ?_)
      ·refine Tr.region ?_
       refine Tr.mv rfl rfl ?_
       refine Tr.mv rfl rfl ?_
       refine Tr.buildSlice 5 (e := 3) (vs := [(0, (iv x249))]) (cs := [(iv x249)]) (wn rfl) rfl (zY rfl evs_nil) (by kernel_rfl) fun b269 => ?_
       obtain ⟨l270, hl270, H⟩ := bnd H
       refine Tr.append 2 (t := zX) (l := l232) (l2 := [x249]) (wn rfl) rfl rfl rfl rfl (fun W hW => ⟨[[(iv x249)]], (.cons ⟨(), trivial, rfl⟩ .nil), rdb hW (vs := [(iv x249)]) (k := 5) rfl 0⟩) un_38 sz_3 zl_3 (by decide) by_3 rfl hl270 fun Al270 cl270 hAl270 => ?_
       refine Tr.mv rfl rfl ?_
       refine Tr.asg rfl rfl ?_
       refine Tr.asg rfl rfl ?_
       refine Tr.nil (Tr.zT ?_)
       exact Tr.zW leL7 (l256, l264, l270, x257, x265, y268, Al256, cl256, Al264, cl264, Al270, cl270) ⟨H, hl256, hl264, hAl270⟩ (.cons rfl (.cons rfl (.cons rfl (.cons rfl (.cons rfl (.cons rfl (.cons rfl .nil))))))) (.cons rfl .nil)
      ·refine Tr.skip (Tr.zT ?_)
       exact Tr.zW leL7 (l256, l264, l232, x257, x265, x235, Al256, cl256, Al264, cl264, Al232, cl232) ⟨H, hl256, hl264, hl232⟩ (.cons rfl (.cons rfl (.cons rfl (.cons rfl (.cons rfl (.cons rfl (.cons rfl .nil))))))) (.cons rfl .nil)
  ·refine Tr.exit (Tr.zV (Tr.zV (Tr.zw (Tr.zA ?_))))
   refine Tr.sr ?_
   refine Tr.mv rfl rfl ?_
   refine Tr.asg rfl rfl ?_
   refine Tr.nil (Tr.zA ?_)
   refine Tr.ret ?_
   obtain rfl := Option.some.inj H
   exact Tr.out (m := [(.slice Al232 (l232).length cl232)]) [] (zL rfl zP) (fun W hW => ⟨(Al232, cl232), rfl, hl232, HF.lowE leB (hW.pick (ks := [2]) (by decide) (zK rfl za)) ⟨ow_any _ _ _ _ tr_i64, trivial⟩⟩)

theorem F_shape_Merge_ok (N : Nat) {w : Bs} (p0 : (List zS)) (Ap0_0 : Option Addr) (cp0_0 : Nat) (hp0_0 : Sl w.O w.W zH Ap0_0 cp0_0 p0) (p1 : (List zS)) (Ap1_0 : Option Addr) (cp1_0 : Nat) (hp1_0 : Sl w.O w.W zH Ap1_0 cp1_0 p1) (p2 : Bool → Bool → Option Bool) (fid2 : Nat) (cap2 : List Value) (hg2 : ∀ args W, (callFunc fid2 args).run Tryz.prog W = .ok (.enter fid2 args) W) (hf2 : ∀ (w' : Bs), w.Ext w' → ∀ (z0 : Bool) (z1 : Bool), ∀ y, p2 z0 z1 = some y → Calls Tryz.prog fid2 (([(.bool z0), (.bool z1)] : List Value) ++ cap2).toArray w'.W fun e W'' => e = .returned (.bool y) ∧ HF w' W'' E0) (r : (List zS)) (H : F_shape_Merge N p0 p1 p2 = some r) (hE : HF w w.W (LEn [emp])) : Calls Tryz.prog 61 [(.slice Ap0_0 (p0).length cp0_0), (.slice Ap1_0 (p1).length cp1_0), (.func (.func fid2) #[] cap2.toArray)].toArray w.W fun e W' => ∃ (w' : Bs) (u : (Option Addr × Nat)), w.Le w' ∧ e = .returned (.slice u.1 (r).length u.2) ∧ (SlF u.1 (r).length u.2) ∧ HF w' W' (LEn [ow u.1 u.2 107 zH r]) := by
 unfold F_shape_Merge at H
 have leB := Bs.Le.refl w
 refine Tr.enter (n := 126) Tryz.func61 rfl rfl rfl hE ?_
 refine Tr.sr ?_
 refine Tr.asg rfl rfl ?_
 refine Tr.nilOwn 1 107 zH ?_
 show Tr _ _ (uf _ 6 (.slice none (([] : List zS)).length 0)) _ _
 refine Tr.nil (Tr.zA ?_)
 refine Tr.sr ?_
 refine Tr.asg rfl rfl ?_
 refine Tr.nilOwn 2 107 zH ?_
 show Tr _ _ (uf _ 7 (.slice none (([] : List zS)).length 0)) _ _
 refine Tr.nil (Tr.zA ?_)
 refine Tr.seq ?_
 refine Tr.sr ?_
 refine Tr.mv rfl rfl ?_
 refine Tr.va rfl (fun _ _ h1 h2 => zl un_66 (h1.ev rfl)) ?_
 refine Tr.mv rfl rfl ?_
 refine Tr.va rfl (fun _ _ h1 h2 => zl un_66 (h1.ev rfl)) ?_
 refine Tr.va rfl (fun _ _ h1 h2 => zm (h1.ev rfl) (h1.ev rfl)) ?_
 refine Tr.va rfl (fun _ _ h1 h2 => run_eql (h1.ev rfl) (h1.ev rfl)) ?_
 refine Tr.nil (Tr.zA ?_)
 refine Tr.cond rfl H (fun H => ?_) (fun H => ?_)
 ·refine Tr.sr ?_
  refine Tr.asg rfl rfl ?_
  refine Tr.nilOwn 3 107 zH ?_
  show Tr _ _ (uf _ 6 (.slice none (([] : List zS)).length 0)) _ _
  refine Tr.nil (Tr.zA ?_)
  refine Tr.ret (Tr.zU ?_)
  obtain rfl := Option.some.inj H
  exact Tr.out (m := [(.slice none (([] : List zS)).length 0)]) [] (zL rfl zP) (fun W hW => ⟨w, (none, 0), leB, rfl, slf_nil, hW.pick (ks := [3]) (by decide) (zK rfl za)⟩)
 ·refine Tr.skip (Tr.zA ?_)
  refine Tr.sr ?_
  refine Tr.asg rfl rfl ?_
  refine Tr.asg rfl rfl ?_
  refine Tr.nil (Tr.zA ?_)
  refine Tr.seq ?_
  refine Tr.sr ?_
  refine Tr.mv rfl rfl ?_
  refine Tr.mv rfl rfl ?_
  refine Tr.buildSlice 4 (e := 66) (vs := [(0, (.slice Ap0_0 (p0).length cp0_0)), (1, (.slice Ap1_0 (p1).length cp1_0))]) (cs := [(.slice Ap0_0 (p0).length cp0_0), (.slice Ap1_0 (p1).length cp1_0)]) (wn rfl) rfl (zY rfl (zY rfl evs_nil)) (by kernel_rfl) fun b100 => ?_
  refine Tr.va rfl (fun _ _ h1 h2 => zl un_75 (h1.ev rfl)) ?_
  refine Tr.mv rfl rfl ?_
  refine Tr.nil (Tr.zA ?_)
  refine Tr.block ?_
  refine Tr.own 4 zAA [p0, p1] (css := [[(.slice Ap0_0 (p0).length cp0_0)], [(.slice Ap1_0 (p1).length cp1_0)]]) rfl (.cons ⟨(Ap0_0, cp0_0), hp0_0, rfl⟩ (.cons ⟨(Ap1_0, cp1_0), hp1_0, rfl⟩ .nil)) rfl (by decide) (lit_max rfl) ?_
  refine Tr.ren 4 9 rfl rfl rfl ?_
  refine Tr.loop (σ := Int × Int × (List (List zS)) × Int × (Option Addr) × Nat) (fun m w s => zz N p0 p1 p2 m s.1 s.2.1 s.2.2.1 s.2.2.2.1 = some r ∧ SlF s.2.2.2.2.1 (s.2.2.1).length s.2.2.2.2.2) (fun s => [(0, (.slice Ap0_0 (p0).length cp0_0)), (1, (.slice Ap1_0 (p1).length cp1_0)), (2, (.func (.func fid2) #[] cap2.toArray)), (7, (.slice none (([] : List zS)).length 0)), (8, (iv s.1)), (9, (iv s.2.1)), (25, (.slice s.2.2.2.2.1 (s.2.2.1).length s.2.2.2.2.2)), (26, (iv 2)), (27, (iv s.2.2.2.1))]) (fun s => [(2, ow none 0 107 zH ([] : List zS)), (9, ow s.2.2.2.2.1 s.2.2.2.2.2 66 zAA s.2.2.1)]) N (0, 0, [p0, p1], 0, (some ⟨b100, 0, none⟩), 2) ⟨H, (lit_form b100 rfl)⟩ (.cons rfl (.cons rfl (.cons rfl (.cons rfl (.cons rfl (.cons rfl (.cons rfl (.cons rfl (.cons rfl .nil))))))))) (.cons rfl (.cons rfl .nil)) (fun _ _ h => noSome (h.1)) ?_
  intro w leL3 mL3 s hs
  obtain ⟨x150, x151, l152, x153, Al152, cl152⟩ := s
  obtain ⟨H, hl152⟩ := hs
  replace H : zz N p0 p1 p2 (mL3 + 1) x150 x151 l152 x153 = some r := H
  replace hp0_0 := hp0_0.le leL3
  replace hp1_0 := hp1_0.le leL3
  replace hf2 := fun w' he => hf2 w' (leL3.ext.trans he)
  replace leB := leB.trans leL3
  replace hl152 : SlF Al152 (l152).length cl152 := hl152
  rw [zz.eq_2] at H
  show Tr _ _ (LF [(0, (.slice Ap0_0 (p0).length cp0_0)), (1, (.slice Ap1_0 (p1).length cp1_0)), (2, (.func (.func fid2) #[] cap2.toArray)), (7, (.slice none (([] : List zS)).length 0)), (8, (iv x150)), (9, (iv x151)), (25, (.slice Al152 (l152).length cl152)), (26, (iv 2)), (27, (iv x153))]) (LE [(2, ow none 0 107 zH ([] : List zS)), (9, ow Al152 cl152 66 zAA l152)]) _
  refine Tr.sr ?_
  refine Tr.va rfl (fun _ _ h1 h2 => zn (h1.ev rfl) (h1.ev rfl)) ?_
  refine Tr.nil (Tr.zA ?_)
  refine Tr.seq ?_
  refine Tr.cond rfl H (fun H => ?_) (fun H => ?_)
  ·refine Tr.skip (Tr.zA ?_)
   refine Tr.seq ?_
   refine Tr.block ?_
   refine Tr.sr ?_
   refine Tr.mv rfl rfl ?_
   obtain ⟨x154, hx154, H⟩ := bnd H
   obtain ⟨hx1540, hx1541, hx1542⟩ := zq hx154
   refine Tr.va rfl (fun _ _ h1 h2 => zI el_75 (h1.ev rfl) hl152 (h1.ev rfl) hx1540 hx1541) ?_
   refine Tr.valE (U := (zAA).Ad) (fun u => (zAA).ok w.O w.W u x154) (fun u => (.slice u.1 (x154).length u.2)) (wn rfl) rfl (ldN (κ := 9) (t := zAA) (V := fun u => (.slice u.1 (x154).length u.2)) rfl hx1542 (fun _ _ u h1 hc => zC ag_66 (h1.ev rfl) hc rfl)) ?_
   intro u155 hoku155
   obtain ⟨Au155_0, cu155_0⟩ := u155
   have hoku155_0 := hoku155
   replace hoku155_0 : Sl w.O w.W zH Au155_0 cu155_0 x154 := hoku155_0
   show Tr _ _ (uf _ 31 (.slice Au155_0 (x154).length cu155_0)) _ _
   refine Tr.asg rfl rfl ?_
   refine Tr.asg rfl rfl ?_
   refine Tr.nil (Tr.zA ?_)
   refine Tr.sr ?_
   refine Tr.mv rfl rfl ?_
   refine Tr.va rfl (fun _ _ h1 h2 => zl un_66 (h1.ev rfl)) ?_
   refine Tr.va rfl (fun _ _ h1 h2 => run_gtr (h1.ev rfl) (h1.ev rfl)) ?_
   refine Tr.nil (Tr.zA ?_)
   refine Tr.cond rfl H (fun H => ?_) (fun H => ?_)
   ·have leJ162 := Bs.Le.refl w
    refine Tr.cutJ (σ := Int × Int) (fun w s => F_shape_Merge_J4 l152 x153 (zz N p0 p1 p2 mL3) x154 s.1 s.2 = some r) (fun s => [(0, (.slice Ap0_0 (p0).length cp0_0)), (1, (.slice Ap1_0 (p1).length cp1_0)), (2, (.func (.func fid2) #[] cap2.toArray)), (7, (.slice none (([] : List zS)).length 0)), (8, (iv s.1)), (9, (iv s.2)), (11, (.slice Au155_0 (x154).length cu155_0)), (25, (.slice Al152 (l152).length cl152)), (26, (iv 2)), (27, (iv x153))]) (fun s => [(2, ow none 0 107 zH ([] : List zS)), (9, ow Al152 cl152 66 zAA l152)]) ?_ ?_
    ·refine Tr.sr ?_
     refine Tr.mv rfl rfl ?_
     refine Tr.va rfl (fun _ _ h1 h2 => run_eql (h1.ev rfl) (h1.ev rfl)) ?_
     refine Tr.mv rfl rfl ?_
     refine Tr.mid0 4 [(0, (.slice Ap0_0 (p0).length cp0_0)), (1, (.slice Ap1_0 (p1).length cp1_0)), (2, (.func (.func fid2) #[] cap2.toArray)), (7, (.slice none (([] : List zS)).length 0)), (8, (iv x150)), (9, (iv x151)), (11, (.slice Au155_0 (x154).length cu155_0)), (25, (.slice Al152 (l152).length cl152)), (26, (iv 2)), (27, (iv x153)), (41, (.bool ((x153 == 0) || ((p0.length : Int) == 0))))] [(2, ow none 0 107 zH ([] : List zS)), (9, ow Al152 cl152 66 zAA l152)] ?_ ?_
     ·cases hg171 : (x153 == 0)
      ·refine Tr.val (wg rfl rfl rfl) rfl (fun _ _ h1 h2 => run_move (h1.ev rfl)) ?_
       refine Tr.val (wg rfl rfl rfl) rfl (fun _ _ h1 h2 => zl un_66 (h1.ev rfl)) ?_
       refine Tr.val (wg rfl rfl rfl) rfl (fun _ _ h1 h2 => run_eql (h1.ev rfl) (h1.ev rfl)) ?_
       refine Tr.va rfl (fun _ _ h1 h2 => ze (h1.ev rfl) (h1.ev rfl)) ?_
       exact Tr.nil (Tr.fin0 (.cons rfl (.cons rfl (.cons rfl (.cons rfl (.cons rfl (.cons rfl (.cons rfl (.cons rfl (.cons rfl (.cons rfl (.cons rfl .nil))))))))))) (.cons rfl (.cons rfl .nil)))
      ·refine Tr.pass rfl rfl rfl rfl rfl (by decide) ?_
       refine Tr.pass rfl rfl rfl rfl rfl (by decide) ?_
       refine Tr.pass rfl rfl rfl rfl rfl (by decide) ?_
       refine Tr.va rfl (fun _ _ h1 h2 => zb (h1.ev rfl) (h1.ev rfl)) ?_
       exact Tr.nil (Tr.fin0 (.cons rfl (.cons rfl (.cons rfl (.cons rfl (.cons rfl (.cons rfl (.cons rfl (.cons rfl (.cons rfl (.cons rfl (.cons rfl .nil))))))))))) (.cons rfl (.cons rfl .nil)))
     ·show Tr _ _ (LF [(0, (.slice Ap0_0 (p0).length cp0_0)), (1, (.slice Ap1_0 (p1).length cp1_0)), (2, (.func (.func fid2) #[] cap2.toArray)), (7, (.slice none (([] : List zS)).length 0)), (8, (iv x150)), (9, (iv x151)), (11, (.slice Au155_0 (x154).length cu155_0)), (25, (.slice Al152 (l152).length cl152)), (26, (iv 2)), (27, (iv x153)), (41, (.bool ((x153 == 0) || ((p0.length : Int) == 0))))]) (LE [(2, ow none 0 107 zH ([] : List zS)), (9, ow Al152 cl152 66 zAA l152)]) _
      refine Tr.nil (Tr.zA ?_)
      refine Tr.cond rfl H (fun H => ?_) (fun H => ?_)
      ·refine Tr.draw (by kernel_rfl) (by kernel_rfl) ?_
       refine Tq.mv rfl rfl ?_
       obtain ⟨x168, hx168, H⟩ := bnd H
       obtain ⟨hx1680, hx1681, hx1682⟩ := zq hx168
       obtain ⟨u169, hRu169, hoku169, hcu169⟩ := (hoku155_0).el hx1682
       obtain ⟨Au169_0, cu169_0⟩ := u169
       have hoku169_0 := hoku169
       replace hoku169_0 : Sl w.O w.W zX Au169_0 cu169_0 x168.Xs := hoku169_0
       replace hRu169 : w.R (adB Au155_0) := Or.inl hRu169
       refine Tq.va rfl (fun _ _ h1 h2 => zI el_66 (h1.ev rfl) hoku155_0.form (h1.ev rfl) hx1680 hx1681) ?_
       refine Tq.va rfl (fun _ _ h1 h2 => zB fo_107_0 (h1.ev rfl)) ?_
       refine Tq.va rfl (fun _ _ h1 h2 => zC ag_3 (h1.ev rfl) (zO.drop (rdR hRu169 hcu169 h2) 0) rfl) ?_
       refine Tq.mv rfl rfl ?_
       refine Tq.mv rfl rfl ?_
       refine Tq.va rfl (fun _ _ h1 h2 => zl un_66 (h1.ev rfl)) ?_
       refine Tq.va rfl (fun _ _ h1 h2 => run_sub (h1.ev rfl) (h1.ev rfl)) ?_
       obtain ⟨x170, hx170, H⟩ := bnd H
       obtain ⟨hx1700, hx1701, hx1702⟩ := zq hx170
       obtain ⟨u171, hRu171, hoku171, hcu171⟩ := (hoku155_0).el hx1702
       obtain ⟨Au171_0, cu171_0⟩ := u171
       have hoku171_0 := hoku171
       replace hoku171_0 : Sl w.O w.W zX Au171_0 cu171_0 x170.Xs := hoku171_0
       replace hRu171 : w.R (adB Au155_0) := Or.inl hRu171
       refine Tq.va rfl (fun _ _ h1 h2 => zI el_66 (h1.ev rfl) hoku155_0.form (h1.ev rfl) hx1700 hx1701) ?_
       refine Tq.va rfl (fun _ _ h1 h2 => zB fo_107_1 (h1.ev rfl)) ?_
       refine Tq.va rfl (fun _ _ h1 h2 => zC ag_3 (h1.ev rfl) (zO.drop (rdR hRu171 hcu171 h2) 1) rfl) ?_
       refine Tq.asg rfl rfl ?_
       refine Tq.asg rfl rfl ?_
       refine Tq.nil ?_
       exact Tr.zW leJ162 (x168.Y0, x170.Y1) H (.cons rfl (.cons rfl (.cons rfl (.cons rfl (.cons rfl (.cons rfl (.cons rfl (.cons rfl (.cons rfl (.cons rfl .nil)))))))))) (.cons rfl (.cons rfl .nil))
      ·refine Tr.skip ?_
       exact Tr.zW leJ162 (x150, x151) H (.cons rfl (.cons rfl (.cons rfl (.cons rfl (.cons rfl (.cons rfl (.cons rfl (.cons rfl (.cons rfl (.cons rfl .nil)))))))))) (.cons rfl (.cons rfl .nil))
    ·intro w s hlJ163 hs
     obtain ⟨x160, x161⟩ := s
     have H := hs
     replace H : F_shape_Merge_J4 l152 x153 (zz N p0 p1 p2 mL3) x154 x160 x161 = some r := H
     replace hp0_0 := hp0_0.le hlJ163
     replace hp1_0 := hp1_0.le hlJ163
     replace hf2 := fun w' he => hf2 w' (hlJ163.ext.trans he)
     replace hoku155_0 := hoku155_0.le hlJ163
     replace leB := leB.trans hlJ163
     replace leL3 := leL3.trans hlJ163
     unfold F_shape_Merge_J4 at H
     show Tr _ _ (LF [(0, (.slice Ap0_0 (p0).length cp0_0)), (1, (.slice Ap1_0 (p1).length cp1_0)), (2, (.func (.func fid2) #[] cap2.toArray)), (7, (.slice none (([] : List zS)).length 0)), (8, (iv x160)), (9, (iv x161)), (11, (.slice Au155_0 (x154).length cu155_0)), (25, (.slice Al152 (l152).length cl152)), (26, (iv 2)), (27, (iv x153))]) (LE [(2, ow none 0 107 zH ([] : List zS)), (9, ow Al152 cl152 66 zAA l152)]) _
     refine Tr.draw (by kernel_rfl) (by kernel_rfl) ?_
     refine Tq.mv rfl rfl ?_
     refine Tq.mv rfl rfl ?_
     obtain ⟨x164, hx164, H⟩ := bnd H
     obtain ⟨hx1640, hx1641, hx1642⟩ := zq hx164
     obtain ⟨u165, hRu165, hoku165, hcu165⟩ := (hoku155_0).el hx1642
     obtain ⟨Au165_0, cu165_0⟩ := u165
     have hoku165_0 := hoku165
     replace hoku165_0 : Sl w.O w.W zX Au165_0 cu165_0 x164.Xs := hoku165_0
     replace hRu165 : w.R (adB Au155_0) := Or.inl hRu165
     refine Tq.va rfl (fun _ _ h1 h2 => zI el_66 (h1.ev rfl) hoku155_0.form (h1.ev rfl) hx1640 hx1641) ?_
     refine Tq.va rfl (fun _ _ h1 h2 => zB fo_107_0 (h1.ev rfl)) ?_
     refine Tq.va rfl (fun _ _ h1 h2 => zC ag_3 (h1.ev rfl) (zO.drop (rdR hRu165 hcu165 h2) 0) rfl) ?_
     refine Tq.va rfl (fun _ _ h1 h2 => run_min (h1.ev rfl) (h1.ev rfl) _) ?_
     refine Tq.mv rfl rfl ?_
     refine Tq.mv rfl rfl ?_
     refine Tq.mv rfl rfl ?_
     refine Tq.va rfl (fun _ _ h1 h2 => zl un_66 (h1.ev rfl)) ?_
     refine Tq.va rfl (fun _ _ h1 h2 => run_sub (h1.ev rfl) (h1.ev rfl)) ?_
     obtain ⟨x166, hx166, H⟩ := bnd H
     obtain ⟨hx1660, hx1661, hx1662⟩ := zq hx166
     obtain ⟨u167, hRu167, hoku167, hcu167⟩ := (hoku155_0).el hx1662
     obtain ⟨Au167_0, cu167_0⟩ := u167
     have hoku167_0 := hoku167
     replace hoku167_0 : Sl w.O w.W zX Au167_0 cu167_0 x166.Xs := hoku167_0
     replace hRu167 : w.R (adB Au155_0) := Or.inl hRu167
     refine Tq.va rfl (fun _ _ h1 h2 => zI el_66 (h1.ev rfl) hoku155_0.form (h1.ev rfl) hx1660 hx1661) ?_
     refine Tq.va rfl (fun _ _ h1 h2 => zB fo_107_1 (h1.ev rfl)) ?_
     refine Tq.va rfl (fun _ _ h1 h2 => zC ag_3 (h1.ev rfl) (zO.drop (rdR hRu167 hcu167 h2) 1) rfl) ?_
     refine Tq.va rfl (fun _ _ h1 h2 => run_max (h1.ev rfl) (h1.ev rfl) _) ?_
     refine Tq.asg rfl rfl ?_
     refine Tq.asg rfl rfl ?_
     refine Tq.nil (Tr.zT (Tr.zA ?_))
     refine Tr.region ?_
     refine Tr.va rfl (fun _ _ h1 h2 => zm (h1.ev rfl) (h1.ev rfl)) ?_
     refine Tr.mv rfl rfl ?_
     refine Tr.nil ?_
     exact Tr.zW leL3 ((min x160 x164.Y0), (max x161 x166.Y1), l152, (w64 (x153 + 1)), Al152, cl152) ⟨H, hl152⟩ (.cons rfl (.cons rfl (.cons rfl (.cons rfl (.cons rfl (.cons rfl (.cons rfl (.cons rfl (.cons rfl .nil))))))))) (.cons rfl (.cons rfl .nil))
   ·refine Tr.skip (Tr.zT (Tr.zA ?_))
    refine Tr.region ?_
    refine Tr.va rfl (fun _ _ h1 h2 => zm (h1.ev rfl) (h1.ev rfl)) ?_
    refine Tr.mv rfl rfl ?_
    refine Tr.nil ?_
    exact Tr.zW leL3 (x150, x151, l152, (w64 (x153 + 1)), Al152, cl152) ⟨H, hl152⟩ (.cons rfl (.cons rfl (.cons rfl (.cons rfl (.cons rfl (.cons rfl (.cons rfl (.cons rfl (.cons rfl .nil))))))))) (.cons rfl (.cons rfl .nil))
  ·refine Tr.exit (Tr.zV (Tr.zV (Tr.zw (Tr.zA ?_))))
   refine Tr.seq ?_
   refine Tr.block ?_
   refine Tr.loop (σ := (List zS) × (List zS) × (List zS) × Int × (Option Addr) × Nat × (Option Addr) × Nat × (Option Addr) × Nat) (fun m w s => F_shape_Merge_L9 N p2 x151 m s.1 s.2.1 s.2.2.1 s.2.2.2.1 = some r ∧ Sl w.O w.W zH s.2.2.2.2.1 s.2.2.2.2.2.1 s.1 ∧ Sl w.O w.W zH s.2.2.2.2.2.2.1 s.2.2.2.2.2.2.2.1 s.2.1 ∧ SlF s.2.2.2.2.2.2.2.2.1 (s.2.2.1).length s.2.2.2.2.2.2.2.2.2) (fun s => [(0, (.slice s.2.2.2.2.1 (s.1).length s.2.2.2.2.2.1)), (1, (.slice s.2.2.2.2.2.2.1 (s.2.1).length s.2.2.2.2.2.2.2.1)), (2, (.func (.func fid2) #[] cap2.toArray)), (7, (.slice s.2.2.2.2.2.2.2.2.1 (s.2.2.1).length s.2.2.2.2.2.2.2.2.2)), (8, (iv s.2.2.2.1)), (9, (iv x151))]) (fun s => [(2, ow s.2.2.2.2.2.2.2.2.1 s.2.2.2.2.2.2.2.2.2 107 zH s.2.2.1)]) N (p0, p1, ([] : List zS), x150, Ap0_0, cp0_0, Ap1_0, cp1_0, none, 0) ⟨H, hp0_0, hp1_0, slf_nil⟩ (.cons rfl (.cons rfl (.cons rfl (.cons rfl (.cons rfl (.cons rfl .nil)))))) (.cons rfl .nil) (fun _ _ h => noSome (h.1)) ?_
   intro w leL9 mL9 s hs
   obtain ⟨l292, l293, l294, x295, Al292, cl292, Al293, cl293, Al294, cl294⟩ := s
   obtain ⟨H, hl292, hl293, hl294⟩ := hs
   replace H : F_shape_Merge_L9 N p2 x151 (mL9 + 1) l292 l293 l294 x295 = some r := H
   replace hf2 := fun w' he => hf2 w' (leL9.ext.trans he)
   replace leB := leB.trans leL9
   replace leL3 := leL3.trans leL9
   replace hl292 : Sl w.O w.W zH Al292 cl292 l292 := hl292
   replace hl293 : Sl w.O w.W zH Al293 cl293 l293 := hl293
   replace hl294 : SlF Al294 (l294).length cl294 := hl294
   rw [F_shape_Merge_L9.eq_2] at H
   show Tr _ _ (LF [(0, (.slice Al292 (l292).length cl292)), (1, (.slice Al293 (l293).length cl293)), (2, (.func (.func fid2) #[] cap2.toArray)), (7, (.slice Al294 (l294).length cl294)), (8, (iv x295)), (9, (iv x151))]) (LE [(2, ow Al294 cl294 107 zH l294)]) _
   refine Tr.seq ?_
   refine Tr.sr ?_
   refine Tr.mv rfl rfl ?_
   refine Tr.mv rfl rfl ?_
   refine Tr.va rfl (fun _ _ h1 h2 => zn (h1.ev rfl) (h1.ev rfl)) ?_
   refine Tr.nil (Tr.zA ?_)
   refine Tr.cond rfl H (fun H => ?_) (fun H => ?_)
   ·refine Tr.skip (Tr.zA ?_)
    refine Tr.block ?_
    refine Tr.seq ?_
    refine Tr.block ?_
    refine Tr.loop (σ := (List zS) × (Option Addr) × Nat) (fun m w s => F_shape_Merge_L10 N p2 x151 l293 l294 x295 (F_shape_Merge_L9 N p2 x151 mL9) m s.1 = some r ∧ Sl w.O w.W zH s.2.1 s.2.2 s.1) (fun s => [(0, (.slice s.2.1 (s.1).length s.2.2)), (1, (.slice Al293 (l293).length cl293)), (2, (.func (.func fid2) #[] cap2.toArray)), (7, (.slice Al294 (l294).length cl294)), (8, (iv x295)), (9, (iv x151))]) (fun s => [(2, ow Al294 cl294 107 zH l294)]) N (l292, Al292, cl292) ⟨H, hl292⟩ (.cons rfl (.cons rfl (.cons rfl (.cons rfl (.cons rfl (.cons rfl .nil)))))) (.cons rfl .nil) (fun _ _ h => noSome (h.1)) ?_
    intro w leL10 mL10 s hs
    obtain ⟨l311, Al311, cl311⟩ := s
    obtain ⟨H, hl311⟩ := hs
    replace H : F_shape_Merge_L10 N p2 x151 l293 l294 x295 (F_shape_Merge_L9 N p2 x151 mL9) (mL10 + 1) l311 = some r := H
    replace hl293 := hl293.le leL10
    replace hf2 := fun w' he => hf2 w' (leL10.ext.trans he)
    replace leB := leB.trans leL10
    replace leL3 := leL3.trans leL10
    replace leL9 := leL9.trans leL10
    replace hl311 : Sl w.O w.W zH Al311 cl311 l311 := hl311
    rw [F_shape_Merge_L10.eq_2] at H
    show Tr _ _ (LF [(0, (.slice Al311 (l311).length cl311)), (1, (.slice Al293 (l293).length cl293)), (2, (.func (.func fid2) #[] cap2.toArray)), (7, (.slice Al294 (l294).length cl294)), (8, (iv x295)), (9, (iv x151))]) (LE [(2, ow Al294 cl294 107 zH l294)]) _
    refine Tr.seq ?_
    refine Tr.sr ?_
    refine Tr.mv rfl rfl ?_
    refine Tr.va rfl (fun _ _ h1 h2 => zl un_66 (h1.ev rfl)) ?_
    refine Tr.va rfl (fun _ _ h1 h2 => run_gtr (h1.ev rfl) (h1.ev rfl)) ?_
    refine Tr.mv rfl rfl ?_
    obtain ⟨g314, hg314, H⟩ := bnd H
    refine Tr.mid0 7 [(0, (.slice Al311 (l311).length cl311)), (1, (.slice Al293 (l293).length cl293)), (2, (.func (.func fid2) #[] cap2.toArray)), (7, (.slice Al294 (l294).length cl294)), (8, (iv x295)), (9, (iv x151)), (82, (.bool g314))] [(2, ow Al294 cl294 107 zH l294)] ?_ ?_
    ·cases hg349 : (decide (0 < (l311.length : Int)))
     ·rw [hg349] at hg314
      rw [if_neg (by decide)] at hg314
      have H := hg314
      obtain rfl := Option.some.inj H
      refine Tr.pass rfl rfl rfl rfl rfl (by decide) ?_
      refine Tr.pass rfl rfl rfl rfl rfl (by decide) ?_
      refine Tr.pass rfl rfl rfl rfl rfl (by decide) ?_
      refine Tr.pass rfl rfl rfl rfl rfl (by decide) ?_
      refine Tr.pass rfl rfl rfl rfl rfl (by decide) ?_
      refine Tr.pass rfl rfl rfl rfl rfl (by decide) ?_
      refine Tr.va rfl (fun _ _ h1 h2 => ze (h1.ev rfl) (h1.ev rfl)) ?_
      exact Tr.nil (Tr.fin0 (.cons rfl (.cons rfl (.cons rfl (.cons rfl (.cons rfl (.cons rfl (.cons rfl .nil))))))) (.cons rfl .nil))
     ·rw [hg349] at hg314
      rw [if_pos rfl] at hg314
      have H := hg314
      refine Tr.val (wg rfl rfl rfl) rfl (fun _ _ h1 h2 => run_move (h1.ev rfl)) ?_
      obtain ⟨x315, hx315, H⟩ := bnd H
      obtain ⟨hx3150, hx3151, hx3152⟩ := zq hx315
      obtain ⟨u316, hRu316, hoku316, hcu316⟩ := (hl311).el hx3152
      obtain ⟨Au316_0, cu316_0⟩ := u316
      have hoku316_0 := hoku316
      replace hoku316_0 : Sl w.O w.W zX Au316_0 cu316_0 x315.Xs := hoku316_0
      replace hRu316 : w.R (adB Al311) := Or.inl hRu316
      refine Tr.val (wg rfl rfl rfl) rfl (fun _ _ h1 h2 => zI el_66 (h1.ev rfl) hl311.form (h1.ev rfl) hx3150 hx3151) ?_
      refine Tr.val (wg rfl rfl rfl) rfl (fun _ _ h1 h2 => zB fo_107_1 (h1.ev rfl)) ?_
      refine Tr.val (wg rfl rfl rfl) rfl (fun _ _ h1 h2 => zC ag_3 (h1.ev rfl) (zO.drop (rdR hRu316 hcu316 h2) 1) rfl) ?_
      refine Tr.val (wg rfl rfl rfl) rfl (fun _ _ h1 h2 => run_move (h1.ev rfl)) ?_
      refine Tr.val (wg rfl rfl rfl) rfl (fun _ _ h1 h2 => run_leq (h1.ev rfl) (h1.ev rfl)) ?_
      refine Tr.va rfl (fun _ _ h1 h2 => zb (h1.ev rfl) (h1.ev rfl)) ?_
      obtain rfl := Option.some.inj H
      exact Tr.nil (Tr.fin0 (.cons rfl (.cons rfl (.cons rfl (.cons rfl (.cons rfl (.cons rfl (.cons rfl .nil))))))) (.cons rfl .nil))
    ·show Tr _ _ (LF [(0, (.slice Al311 (l311).length cl311)), (1, (.slice Al293 (l293).length cl293)), (2, (.func (.func fid2) #[] cap2.toArray)), (7, (.slice Al294 (l294).length cl294)), (8, (iv x295)), (9, (iv x151)), (82, (.bool g314))]) (LE [(2, ow Al294 cl294 107 zH l294)]) _
     refine Tr.nil (Tr.zA ?_)
     refine Tr.cond rfl H (fun H => ?_) (fun H => ?_)
     ·refine Tr.skip (Tr.zA ?_)
      refine Tr.block ?_
      refine Tr.region ?_
      refine Tr.mv rfl rfl ?_
      obtain ⟨l317, hl317, H⟩ := bnd H
      refine Tr.va rfl (fun _ _ h1 h2 => run_cutL el_66 (h1.ev rfl) hl311.form (h1.ev rfl) hl317) ?_
      refine Tr.asg rfl rfl ?_
      refine Tr.nil (Tr.zT ?_)
      exact Tr.zW leL10 (l317, (cutA Al311 (1 : Int).toNat 3 cl311), (cl311 - (1 : Int).toNat)) ⟨H, (Sl.cut hl311 hl317)⟩ (.cons rfl (.cons rfl (.cons rfl (.cons rfl (.cons rfl (.cons rfl .nil)))))) (.cons rfl .nil)
     ·refine Tr.exit (Tr.zV (Tr.zV (Tr.zw (Tr.zA ?_))))
      refine Tr.seq ?_
      refine Tr.block ?_
      refine Tr.loop (σ := (List zS) × (Option Addr) × Nat) (fun m w s => F_shape_Merge_L11 N p2 x151 l294 x295 (F_shape_Merge_L9 N p2 x151 mL9) l311 m s.1 = some r ∧ Sl w.O w.W zH s.2.1 s.2.2 s.1) (fun s => [(0, (.slice Al311 (l311).length cl311)), (1, (.slice s.2.1 (s.1).length s.2.2)), (2, (.func (.func fid2) #[] cap2.toArray)), (7, (.slice Al294 (l294).length cl294)), (8, (iv x295)), (9, (iv x151))]) (fun s => [(2, ow Al294 cl294 107 zH l294)]) N (l293, Al293, cl293) ⟨H, hl293⟩ (.cons rfl (.cons rfl (.cons rfl (.cons rfl (.cons rfl (.cons rfl .nil)))))) (.cons rfl .nil) (fun _ _ h => noSome (h.1)) ?_
      intro w leL11 mL11 s hs
      obtain ⟨l333, Al333, cl333⟩ := s
      obtain ⟨H, hl333⟩ := hs
      replace H : F_shape_Merge_L11 N p2 x151 l294 x295 (F_shape_Merge_L9 N p2 x151 mL9) l311 (mL11 + 1) l333 = some r := H
      replace hl311 := hl311.le leL11
      replace hf2 := fun w' he => hf2 w' (leL11.ext.trans he)
      replace leB := leB.trans leL11
      replace leL3 := leL3.trans leL11
      replace leL9 := leL9.trans leL11
      replace leL10 := leL10.trans leL11
      replace hl333 : Sl w.O w.W zH Al333 cl333 l333 := hl333
      rw [F_shape_Merge_L11.eq_2] at H
      show Tr _ _ (LF [(0, (.slice Al311 (l311).length cl311)), (1, (.slice Al333 (l333).length cl333)), (2, (.func (.func fid2) #[] cap2.toArray)), (7, (.slice Al294 (l294).length cl294)), (8, (iv x295)), (9, (iv x151))]) (LE [(2, ow Al294 cl294 107 zH l294)]) _
      refine Tr.seq ?_
      refine Tr.sr ?_
      refine Tr.mv rfl rfl ?_
      refine Tr.va rfl (fun _ _ h1 h2 => zl un_66 (h1.ev rfl)) ?_
      refine Tr.va rfl (fun _ _ h1 h2 => run_gtr (h1.ev rfl) (h1.ev rfl)) ?_
      refine Tr.mv rfl rfl ?_
      obtain ⟨g336, hg336, H⟩ := bnd H
      refine Tr.mid0 7 [(0, (.slice Al311 (l311).length cl311)), (1, (.slice Al333 (l333).length cl333)), (2, (.func (.func fid2) #[] cap2.toArray)), (7, (.slice Al294 (l294).length cl294)), (8, (iv x295)), (9, (iv x151)), (95, (.bool g336))] [(2, ow Al294 cl294 107 zH l294)] ?_ ?_
      ·cases hg349 : (decide (0 < (l333.length : Int)))
       ·rw [hg349] at hg336
        rw [if_neg (by decide)] at hg336
        have H := hg336
        obtain rfl := Option.some.inj H
        refine Tr.pass rfl rfl rfl rfl rfl (by decide) ?_
        refine Tr.pass rfl rfl rfl rfl rfl (by decide) ?_
        refine Tr.pass rfl rfl rfl rfl rfl (by decide) ?_
        refine Tr.pass rfl rfl rfl rfl rfl (by decide) ?_
        refine Tr.pass rfl rfl rfl rfl rfl (by decide) ?_
        refine Tr.pass rfl rfl rfl rfl rfl (by decide) ?_
        refine Tr.va rfl (fun _ _ h1 h2 => ze (h1.ev rfl) (h1.ev rfl)) ?_
        exact Tr.nil (Tr.fin0 (.cons rfl (.cons rfl (.cons rfl (.cons rfl (.cons rfl (.cons rfl (.cons rfl .nil))))))) (.cons rfl .nil))
       ·rw [hg349] at hg336
        rw [if_pos rfl] at hg336
        have H := hg336
        refine Tr.val (wg rfl rfl rfl) rfl (fun _ _ h1 h2 => run_move (h1.ev rfl)) ?_
        obtain ⟨x337, hx337, H⟩ := bnd H
        obtain ⟨hx3370, hx3371, hx3372⟩ := zq hx337
        obtain ⟨u338, hRu338, hoku338, hcu338⟩ := (hl333).el hx3372
        obtain ⟨Au338_0, cu338_0⟩ := u338
        have hoku338_0 := hoku338
        replace hoku338_0 : Sl w.O w.W zX Au338_0 cu338_0 x337.Xs := hoku338_0
        replace hRu338 : w.R (adB Al333) := Or.inl hRu338
        refine Tr.val (wg rfl rfl rfl) rfl (fun _ _ h1 h2 => zI el_66 (h1.ev rfl) hl333.form (h1.ev rfl) hx3370 hx3371) ?_
        refine Tr.val (wg rfl rfl rfl) rfl (fun _ _ h1 h2 => zB fo_107_1 (h1.ev rfl)) ?_
        refine Tr.val (wg rfl rfl rfl) rfl (fun _ _ h1 h2 => zC ag_3 (h1.ev rfl) (zO.drop (rdR hRu338 hcu338 h2) 1) rfl) ?_
        refine Tr.val (wg rfl rfl rfl) rfl (fun _ _ h1 h2 => run_move (h1.ev rfl)) ?_
        refine Tr.val (wg rfl rfl rfl) rfl (fun _ _ h1 h2 => run_leq (h1.ev rfl) (h1.ev rfl)) ?_
        refine Tr.va rfl (fun _ _ h1 h2 => zb (h1.ev rfl) (h1.ev rfl)) ?_
        obtain rfl := Option.some.inj H
        exact Tr.nil (Tr.fin0 (.cons rfl (.cons rfl (.cons rfl (.cons rfl (.cons rfl (.cons rfl (.cons rfl .nil))))))) (.cons rfl .nil))
      ·show Tr _ _ (LF [(0, (.slice Al311 (l311).length cl311)), (1, (.slice Al333 (l333).length cl333)), (2, (.func (.func fid2) #[] cap2.toArray)), (7, (.slice Al294 (l294).length cl294)), (8, (iv x295)), (9, (iv x151)), (95, (.bool g336))]) (LE [(2, ow Al294 cl294 107 zH l294)]) _
       refine Tr.nil (Tr.zA ?_)
       refine Tr.cond rfl H (fun H => ?_) (fun H => ?_)
       ·refine Tr.skip (Tr.zA ?_)
        refine Tr.block ?_
        refine Tr.region ?_
        refine Tr.mv rfl rfl ?_
        obtain ⟨l339, hl339, H⟩ := bnd H
        refine Tr.va rfl (fun _ _ h1 h2 => run_cutL el_66 (h1.ev rfl) hl333.form (h1.ev rfl) hl339) ?_
        refine Tr.asg rfl rfl ?_
        refine Tr.nil (Tr.zT ?_)
        exact Tr.zW leL11 (l339, (cutA Al333 (1 : Int).toNat 3 cl333), (cl333 - (1 : Int).toNat)) ⟨H, (Sl.cut hl333 hl339)⟩ (.cons rfl (.cons rfl (.cons rfl (.cons rfl (.cons rfl (.cons rfl .nil)))))) (.cons rfl .nil)
       ·refine Tr.exit (Tr.zV (Tr.zV (Tr.zw (Tr.zA ?_))))
        refine Tr.sr ?_
        refine Tr.mv rfl rfl ?_
        refine Tr.mv rfl rfl ?_
        refine Tr.mv rfl rfl ?_
        obtain ⟨y340, hy340, H⟩ := bnd H
        refine Tr.callG [] [] (U := (Option Addr × Nat)) (fun u => (.tuple #[(.slice u.1 (y340.1).length u.2), (iv y340.2)])) (fun O W u => Sl O W zX u.1 u.2 y340.1) (fun u => []) rfl za (fun _ => rfl) (wn rfl) rfl Tryz.call90 (zF rfl (zF rfl (zF rfl zN))) (fun W hW hp hE => F_shape_Set__at_ok l311 Al311 cl311 (hl311.extO (hW.extS hp)) x295 x151 y340 hy340 hE) ?_
        intro w u le341 hu
        obtain ⟨Ay340_0, cy340_0⟩ := u
        have gy340_0 := hu
        replace hl311 := hl311.le le341
        replace hl333 := hl333.le le341
        replace hf2 := fun w' he => hf2 w' (le341.ext.trans he)
        replace leB := leB.trans le341
        replace leL3 := leL3.trans le341
        replace leL9 := leL9.trans le341
        replace leL10 := leL10.trans le341
        replace leL11 := leL11.trans le341
        have hgy340_0 : Sl w.O w.W zX Ay340_0 cy340_0 y340.1 := gy340_0 --@phi
        show Tr _ _ (uf _ 102 (.tuple #[(.slice Ay340_0 (y340.1).length cy340_0), (iv y340.2)])) (_) _
        refine Tr.mv rfl rfl ?_
        refine Tr.va rfl (fun _ _ h1 h2 => run_extract (h1.ev rfl) rfl) ?_
        refine Tr.va rfl (fun _ _ h1 h2 => run_extract (h1.ev rfl) rfl) ?_
        refine Tr.asg rfl rfl ?_
        refine Tr.asg rfl rfl ?_
        refine Tr.nil (Tr.zA ?_)
        refine Tr.sr ?_
        refine Tr.mv rfl rfl ?_
        refine Tr.mv rfl rfl ?_
        refine Tr.mv rfl rfl ?_
        obtain ⟨y342, hy342, H⟩ := bnd H
        refine Tr.callG [] [] (U := (Option Addr × Nat)) (fun u => (.tuple #[(.slice u.1 (y342.1).length u.2), (iv y342.2)])) (fun O W u => Sl O W zX u.1 u.2 y342.1) (fun u => []) rfl za (fun _ => rfl) (wn rfl) rfl Tryz.call90 (zF rfl (zF rfl (zF rfl zN))) (fun W hW hp hE => F_shape_Set__at_ok l333 Al333 cl333 (hl333.extO (hW.extS hp)) x295 x151 y342 hy342 hE) ?_
        intro w u le343 hu
        obtain ⟨Ay342_0, cy342_0⟩ := u
        have gy342_0 := hu
        replace hl311 := hl311.le le343
        replace hl333 := hl333.le le343
        replace hf2 := fun w' he => hf2 w' (le343.ext.trans he)
        replace hgy340_0 := hgy340_0.le le343
        replace leB := leB.trans le343
        replace leL3 := leL3.trans le343
        replace leL9 := leL9.trans le343
        replace leL10 := leL10.trans le343
        replace leL11 := leL11.trans le343
        have hgy342_0 : Sl w.O w.W zX Ay342_0 cy342_0 y342.1 := gy342_0 --@phi
        show Tr _ _ (uf _ 109 (.tuple #[(.slice Ay342_0 (y342.1).length cy342_0), (iv y342.2)])) (_) _
        refine Tr.mv rfl rfl ?_
        refine Tr.va rfl (fun _ _ h1 h2 => run_extract (h1.ev rfl) rfl) ?_
        refine Tr.va rfl (fun _ _ h1 h2 => run_extract (h1.ev rfl) rfl) ?_
        refine Tr.asg rfl rfl ?_
        refine Tr.asg rfl rfl ?_
        refine Tr.nil (Tr.zA ?_)
        refine Tr.sr ?_
        refine Tr.mv rfl rfl ?_
        refine Tr.mv rfl rfl ?_
        refine Tr.va rfl (fun _ _ h1 h2 => run_min (h1.ev rfl) (h1.ev rfl) _) ?_
        refine Tr.asg rfl rfl ?_
        refine Tr.nil (Tr.zA ?_)
        refine Tr.sr ?_
        refine Tr.mv rfl rfl ?_
        refine Tr.mv rfl rfl ?_
        refine Tr.mv rfl rfl ?_
        refine Tr.mv rfl rfl ?_
        refine Tr.mv rfl rfl ?_
        refine Tr.mv rfl rfl ?_
        obtain ⟨y344, hy344, H⟩ := bnd H
        refine Tr.callM [12] [emp] (U := (Option Addr × Nat)) (fun u => (.slice u.1 (y344).length u.2)) (fun u => SlF u.1 (y344).length u.2) (fun u => [ow u.1 u.2 3 zX y344]) rfl (zK rfl za) (fun _ => rfl) (wn rfl) rfl Tryz.call91 (zF rfl (zF rfl (zF rfl zN))) (fun W hW hp hE => F_shape_line_ok N y340.1 Ay340_0 cy340_0 (hgy340_0.rl.ext (hW.extS hp)) y342.1 Ay342_0 cy342_0 (hgy342_0.rl.ext (hW.extS hp)) p2 fid2 cap2 hg2 (fun w' he => hf2 w' ((hW.extS hp).trans he)) y344 hy344 hE) ?_
        intro u hu
        obtain ⟨Ay344_0, cy344_0⟩ := u
        have gy344_0 := hu
        have hgy344_0 : SlF Ay344_0 (y344).length cy344_0 := gy344_0 --@phi
        show Tr _ _ (uf _ 121 (.slice Ay344_0 (y344).length cy344_0)) (up _ 12 (ow Ay344_0 cy344_0 3 zX y344)) _
        refine Tr.build (vs := [(0, (iv x295)), (1, (iv (min y340.2 y342.2))), (2, (.slice Ay344_0 (y344).length cy344_0))]) (cs := [(iv x295), (iv (min y340.2 y342.2)), (.slice Ay344_0 (y344).length cy344_0)]) (wn rfl) rfl (zY rfl (zY rfl (zY rfl evs_nil))) (by kernel_rfl) ?_
        refine Tr.freeze 12 rfl fun w le347 hz346 => ?_
        replace hl311 := hl311.le le347
        replace hl333 := hl333.le le347
        replace hf2 := fun w' he => hf2 w' (le347.ext.trans he)
        replace hgy340_0 := hgy340_0.le le347
        replace hgy342_0 := hgy342_0.le le347
        replace leB := leB.trans le347
        replace leL3 := leL3.trans le347
        replace leL9 := leL9.trans le347
        replace leL10 := leL10.trans le347
        replace leL11 := leL11.trans le347
        obtain ⟨y348, hy348, H⟩ := bnd H
        refine Tr.callG [2] [ow Al294 cl294 107 zH l294] (U := (Option Addr × Nat)) (fun u => (.slice u.1 (y348).length u.2)) (fun O W u => SlF u.1 (y348).length u.2) (fun u => [ow u.1 u.2 107 zH y348]) rfl (zK rfl za) (fun _ => rfl) (wn rfl) rfl Tryz.call87 (zF rfl (zF rfl zN)) (fun W hW hp hE => F_shape_Set__push_ok l294 Al294 cl294 (zS.mk x295 (min y340.2 y342.2) y344) Ay344_0 cy344_0 (hz346.extO (hW.extS hp)) y348 hy348 hE) ?_
        intro w u le349 hu
        obtain ⟨Ay348_0, cy348_0⟩ := u
        have gy348_0 := hu
        replace hl311 := hl311.le le349
        replace hl333 := hl333.le le349
        replace hf2 := fun w' he => hf2 w' (le349.ext.trans he)
        replace hgy340_0 := hgy340_0.le le349
        replace hgy342_0 := hgy342_0.le le349
        replace hz346 := hz346.le le349
        replace leB := leB.trans le349
        replace leL3 := leL3.trans le349
        replace leL9 := leL9.trans le349
        replace leL10 := leL10.trans le349
        replace leL11 := leL11.trans le349
        have hgy348_0 : SlF Ay348_0 (y348).length cy348_0 := gy348_0 --@phi
        show Tr _ _ (uf _ 123 (.slice Ay348_0 (y348).length cy348_0)) (up _ 2 (ow Ay348_0 cy348_0 107 zH y348)) _
        refine Tr.asg rfl rfl ?_
        refine Tr.nil (Tr.zA ?_)
        refine Tr.region ?_
        refine Tr.mv rfl rfl ?_
        refine Tr.asg rfl rfl ?_
        refine Tr.nil (Tr.zT ?_)
        exact Tr.zW leL9 (l311, l333, y348, (min y340.2 y342.2), Al311, cl311, Al333, cl333, Ay348_0, cy348_0) ⟨H, hl311, hl333, hgy348_0⟩ (.cons rfl (.cons rfl (.cons rfl (.cons rfl (.cons rfl (.cons rfl .nil)))))) (.cons rfl .nil)
   ·refine Tr.exit (Tr.zV (Tr.zV (Tr.zw (Tr.zA ?_))))
    refine Tr.sr ?_
    refine Tr.mv rfl rfl ?_
    refine Tr.asg rfl rfl ?_
    refine Tr.nil (Tr.zA ?_)
    refine Tr.ret ?_
    obtain rfl := Option.some.inj H
    exact Tr.out (m := [(.slice Al294 (l294).length cl294)]) [] (zL rfl zP) (fun W hW => ⟨w, (Al294, cl294), leB, rfl, hl294, hW.pick (ks := [2]) (by decide) (zK rfl za)⟩)

theorem F_shape_Set__Less_1_ok {w : Bs} (p0 : Bool) (p1 : Bool) (r : Bool) (H : F_shape_Set__Less_1 p0 p1 = some r) (hE : HF w w.W E0) : Calls Tryz.prog 171 [(.bool p0), (.bool p1)].toArray w.W fun e W' => e = .returned (.bool r) ∧ HF w W' E0 := by
 unfold F_shape_Set__Less_1 at H
 have leB := Bs.Le.refl w
 refine Tr.enter (n := 10) Tryz.func171 rfl rfl rfl hE ?_
 refine Tr.sr ?_
 refine Tr.asg rfl rfl ?_
 refine Tr.nil (Tr.zA ?_)
 refine Tr.sr ?_
 refine Tr.mv rfl rfl ?_
 refine Tr.mv rfl rfl ?_
 refine Tr.mid0 3 [(9, (.bool (p0 && (!p1))))] [] ?_ ?_
 ·cases hg99 : p0
  ·refine Tr.pass rfl rfl rfl rfl rfl (by decide) ?_
   refine Tr.pass rfl rfl rfl rfl rfl (by decide) ?_
   refine Tr.va rfl (fun _ _ h1 h2 => ze (h1.ev rfl) (h1.ev rfl)) ?_
   exact Tr.nil (Tr.fin0 (.cons rfl .nil) .nil)
  ·refine Tr.val (wg rfl rfl rfl) rfl (fun _ _ h1 h2 => run_move (h1.ev rfl)) ?_
   refine Tr.val (wg rfl rfl rfl) rfl (fun _ _ h1 h2 => run_not (h1.ev rfl)) ?_
   refine Tr.va rfl (fun _ _ h1 h2 => zb (h1.ev rfl) (h1.ev rfl)) ?_
   exact Tr.nil (Tr.fin0 (.cons rfl .nil) .nil)
 ·show Tr _ _ (LF [(9, (.bool (p0 && (!p1))))]) (LE []) _
  refine Tr.asg rfl rfl ?_
  refine Tr.nil (Tr.zA ?_)
  refine Tr.ret ?_
  obtain rfl := Option.some.inj H
  exact Tr.out (m := [(.bool (p0 && (!p1)))]) [] (zL rfl zP) (fun W hW => ⟨rfl, hW.low leB⟩)

theorem F_shape_Set__Less_ok (N : Nat) {w : Bs} (p0 : (List zS)) (Ap0_0 : Option Addr) (cp0_0 : Nat) (hp0_0 : Sl w.O w.W zH Ap0_0 cp0_0 p0) (p1 : (List zS)) (Ap1_0 : Option Addr) (cp1_0 : Nat) (hp1_0 : Sl w.O w.W zH Ap1_0 cp1_0 p1) (r : (List zS)) (H : F_shape_Set__Less N p0 p1 = some r) (hE : HF w w.W (LEn [emp])) : Calls Tryz.prog 155 [(.slice Ap0_0 (p0).length cp0_0), (.slice Ap1_0 (p1).length cp1_0)].toArray w.W fun e W' => ∃ (w' : Bs) (u : (Option Addr × Nat)), w.Le w' ∧ e = .returned (.slice u.1 (r).length u.2) ∧ (SlF u.1 (r).length u.2) ∧ HF w' W' (LEn [ow u.1 u.2 107 zH r]) := by
 unfold F_shape_Set__Less at H
 have leB := Bs.Le.refl w
 refine Tr.enter (n := 8) Tryz.func155 rfl rfl rfl hE ?_
 refine Tr.sr ?_
 refine Tr.asg rfl rfl ?_
 refine Tr.nilOwn 1 107 zH ?_
 show Tr _ _ (uf _ 4 (.slice none (([] : List zS)).length 0)) _ _
 refine Tr.nil (Tr.zA ?_)
 refine Tr.sr ?_
 refine Tr.mv rfl rfl ?_
 refine Tr.mv rfl rfl ?_
 obtain ⟨y100, hy100, H⟩ := bnd H
 refine Tr.callG [2] [emp] (U := (Option Addr × Nat)) (fun u => (.slice u.1 (y100).length u.2)) (fun O W u => SlF u.1 (y100).length u.2) (fun u => [ow u.1 u.2 107 zH y100]) rfl (zK rfl za) (fun _ => rfl) (wn rfl) rfl Tryz.call61 (zF rfl (zF rfl (zF rfl zN))) (fun W hW hp hE => F_shape_Merge_ok N p0 Ap0_0 cp0_0 (hp0_0.extO (hW.extS hp)) p1 Ap1_0 cp1_0 (hp1_0.extO (hW.extS hp)) (fun z0 z1 => F_shape_Set__Less_1 z0 z1) 171 [] Tryz.call171 (fun w' he z0 z1 y hy => F_shape_Set__Less_1_ok z0 z1 y hy (HF.start _)) y100 hy100 hE) ?_
 intro w u le101 hu
 obtain ⟨Ay100_0, cy100_0⟩ := u
 have gy100_0 := hu
 replace hp0_0 := hp0_0.le le101
 replace hp1_0 := hp1_0.le le101
 replace leB := leB.trans le101
 have hgy100_0 : SlF Ay100_0 (y100).length cy100_0 := gy100_0 --@phi
 show Tr _ _ (uf _ 7 (.slice Ay100_0 (y100).length cy100_0)) (up _ 2 (ow Ay100_0 cy100_0 107 zH y100)) _
 refine Tr.asg rfl rfl ?_
 refine Tr.nil (Tr.zA ?_)
 refine Tr.ret ?_
 obtain rfl := Option.some.inj H
 exact Tr.out (m := [(.slice Ay100_0 (y100).length cy100_0)]) [] (zL rfl zP) (fun W hW => ⟨w, (Ay100_0, cy100_0), leB, rfl, hgy100_0, hW.pick (ks := [2]) (by decide) (zK rfl za)⟩)

theorem F_shape_Set__Or_1_ok {w : Bs} (p0 : Bool) (p1 : Bool) (r : Bool) (H : F_shape_Set__Or_1 p0 p1 = some r) (hE : HF w w.W E0) : Calls Tryz.prog 62 [(.bool p0), (.bool p1)].toArray w.W fun e W' => e = .returned (.bool r) ∧ HF w W' E0 := by
 unfold F_shape_Set__Or_1 at H
 have leB := Bs.Le.refl w
 refine Tr.enter (n := 9) Tryz.func62 rfl rfl rfl hE ?_
 refine Tr.sr ?_
 refine Tr.asg rfl rfl ?_
 refine Tr.nil (Tr.zA ?_)
 refine Tr.sr ?_
 refine Tr.mv rfl rfl ?_
 refine Tr.mv rfl rfl ?_
 refine Tr.mid0 2 [(8, (.bool (p0 || p1)))] [] ?_ ?_
 ·cases hg99 : p0
  ·refine Tr.val (wg rfl rfl rfl) rfl (fun _ _ h1 h2 => run_move (h1.ev rfl)) ?_
   refine Tr.va rfl (fun _ _ h1 h2 => ze (h1.ev rfl) (h1.ev rfl)) ?_
   exact Tr.nil (Tr.fin0 (.cons rfl .nil) .nil)
  ·refine Tr.pass rfl rfl rfl rfl rfl (by decide) ?_
   refine Tr.va rfl (fun _ _ h1 h2 => zb (h1.ev rfl) (h1.ev rfl)) ?_
   exact Tr.nil (Tr.fin0 (.cons rfl .nil) .nil)
 ·show Tr _ _ (LF [(8, (.bool (p0 || p1)))]) (LE []) _
  refine Tr.asg rfl rfl ?_
  refine Tr.nil (Tr.zA ?_)
  refine Tr.ret ?_
  obtain rfl := Option.some.inj H
  exact Tr.out (m := [(.bool (p0 || p1))]) [] (zL rfl zP) (fun W hW => ⟨rfl, hW.low leB⟩)

theorem F_shape_Set__Or_ok (N : Nat) {w : Bs} (p0 : (List zS)) (Ap0_0 : Option Addr) (cp0_0 : Nat) (hp0_0 : Sl w.O w.W zH Ap0_0 cp0_0 p0) (p1 : (List zS)) (Ap1_0 : Option Addr) (cp1_0 : Nat) (hp1_0 : Sl w.O w.W zH Ap1_0 cp1_0 p1) (r : (List zS)) (H : F_shape_Set__Or N p0 p1 = some r) (hE : HF w w.W (LEn [emp])) : Calls Tryz.prog 36 [(.slice Ap0_0 (p0).length cp0_0), (.slice Ap1_0 (p1).length cp1_0)].toArray w.W fun e W' => ∃ (w' : Bs) (u : (Option Addr × Nat)), w.Le w' ∧ e = .returned (.slice u.1 (r).length u.2) ∧ (SlF u.1 (r).length u.2) ∧ HF w' W' (LEn [ow u.1 u.2 107 zH r]) := by
 unfold F_shape_Set__Or at H
 have leB := Bs.Le.refl w
 refine Tr.enter (n := 8) Tryz.func36 rfl rfl rfl hE ?_
 refine Tr.sr ?_
 refine Tr.asg rfl rfl ?_
 refine Tr.nilOwn 1 107 zH ?_
 show Tr _ _ (uf _ 4 (.slice none (([] : List zS)).length 0)) _ _
 refine Tr.nil (Tr.zA ?_)
 refine Tr.sr ?_
 refine Tr.mv rfl rfl ?_
 refine Tr.mv rfl rfl ?_
 obtain ⟨y100, hy100, H⟩ := bnd H
 refine Tr.callG [2] [emp] (U := (Option Addr × Nat)) (fun u => (.slice u.1 (y100).length u.2)) (fun O W u => SlF u.1 (y100).length u.2) (fun u => [ow u.1 u.2 107 zH y100]) rfl (zK rfl za) (fun _ => rfl) (wn rfl) rfl Tryz.call61 (zF rfl (zF rfl (zF rfl zN))) (fun W hW hp hE => F_shape_Merge_ok N p0 Ap0_0 cp0_0 (hp0_0.extO (hW.extS hp)) p1 Ap1_0 cp1_0 (hp1_0.extO (hW.extS hp)) (fun z0 z1 => F_shape_Set__Or_1 z0 z1) 62 [] Tryz.call62 (fun w' he z0 z1 y hy => F_shape_Set__Or_1_ok z0 z1 y hy (HF.start _)) y100 hy100 hE) ?_
 intro w u le101 hu
 obtain ⟨Ay100_0, cy100_0⟩ := u
 have gy100_0 := hu
 replace hp0_0 := hp0_0.le le101
 replace hp1_0 := hp1_0.le le101
 replace leB := leB.trans le101
 have hgy100_0 : SlF Ay100_0 (y100).length cy100_0 := gy100_0 --@phi
 show Tr _ _ (uf _ 7 (.slice Ay100_0 (y100).length cy100_0)) (up _ 2 (ow Ay100_0 cy100_0 107 zH y100)) _
 refine Tr.asg rfl rfl ?_
 refine Tr.nil (Tr.zA ?_)
 refine Tr.ret ?_
 obtain rfl := Option.some.inj H
 exact Tr.out (m := [(.slice Ay100_0 (y100).length cy100_0)]) [] (zL rfl zP) (fun W hW => ⟨w, (Ay100_0, cy100_0), leB, rfl, hgy100_0, hW.pick (ks := [2]) (by decide) (zK rfl za)⟩)

theorem F_shape_Set__Many_ok {w : Bs} (p0 : (List zS)) (Ap0_0 : Option Addr) (cp0_0 : Nat) (hp0_0 : Sl w.R w.W zH Ap0_0 cp0_0 p0) (r : Int) (H : F_shape_Set__Many p0 = some r) (hE : HF w w.W E0) : Calls Tryz.prog 89 [(.slice Ap0_0 (p0).length cp0_0)].toArray w.W fun e W' => e = .returned (iv r) ∧ HF w W' E0 := by
 unfold F_shape_Set__Many at H
 have leB := Bs.Le.refl w
 refine Tr.enter (n := 20) Tryz.func89 rfl rfl rfl hE ?_
 refine Tr.sr ?_
 refine Tr.asg rfl rfl ?_
 refine Tr.nil (Tr.zA ?_)
 refine Tr.sr ?_
 refine Tr.asg rfl rfl ?_
 refine Tr.nil (Tr.zA ?_)
 refine Tr.seq ?_
 refine Tr.sr ?_
 refine Tr.mv rfl rfl ?_
 refine Tr.va rfl (fun _ _ h1 h2 => zl un_66 (h1.ev rfl)) ?_
 refine Tr.mv rfl rfl ?_
 refine Tr.nil (Tr.zA ?_)
 refine Tr.block ?_
 refine Tr.loop (σ := (List zS) × Nat × Int) (fun m w s => m = s.1.length + 1 ∧ s.1 = List.drop s.2.1 p0 ∧ s.2.1 ≤ p0.length ∧ F_shape_Set__Many_L1 s.1 s.2.1 s.2.2 = some r) (fun s => [(3, (iv s.2.2)), (6, (.slice Ap0_0 (p0).length cp0_0)), (7, (iv (p0.length : Int))), (8, (iv (s.2.1 : Int)))]) (fun s => []) (p0.length + 1) (p0, 0, 0) ⟨rfl, rfl, Nat.zero_le _, H⟩ (.cons rfl (.cons rfl (.cons rfl (.cons rfl .nil)))) .nil (fun _ _ h => absurd h.1 (by simp)) ?_
 intro w leL1 m s hs
 obtain ⟨restL1, iL1, x112⟩ := s
 obtain ⟨hmL1, hdL1, hiL1, H⟩ := hs
 replace hdL1 : restL1 = List.drop iL1 p0 := hdL1
 replace H : F_shape_Set__Many_L1 restL1 iL1 x112 = some r := H
 replace hmL1 : m + 1 = restL1.length + 1 := hmL1
 replace hp0_0 := hp0_0.leR leL1
 replace leB := leB.trans leL1
 obtain rfl : m = restL1.length := by omega
 clear hmL1
 show Tr _ _ (LF [(3, (iv x112)), (6, (.slice Ap0_0 (p0).length cp0_0)), (7, (iv (p0.length : Int))), (8, (iv (iL1 : Int)))]) (LE []) _
 cases restL1 with
 | nil =>
  rw [F_shape_Set__Many_L1.eq_1] at H
  refine Tr.sr ?_
  refine Tr.va rfl (fun _ _ h1 h2 => zn (h1.ev rfl) (h1.ev rfl)) ?_
  refine Tr.nil (Tr.zA ?_)
  refine Tr.seq ?_
  refine Tr.condF rfl (range_nil hdL1) ?_
  refine Tr.exit (Tr.zV (Tr.zV (Tr.zw (Tr.zA ?_))))
  refine Tr.sr ?_
  refine Tr.mv rfl rfl ?_
  refine Tr.asg rfl rfl ?_
  refine Tr.nil (Tr.zA ?_)
  refine Tr.ret ?_
  obtain rfl := Option.some.inj H
  exact Tr.out (m := [(iv x112)]) [] (zL rfl zP) (fun W hW => ⟨rfl, hW.low leB⟩)
 | cons xL1 restL1 =>
  rw [F_shape_Set__Many_L1.eq_2] at H
  refine Tr.sr ?_
  refine Tr.va rfl (fun _ _ h1 h2 => zn (h1.ev rfl) (h1.ev rfl)) ?_
  refine Tr.nil (Tr.zA ?_)
  refine Tr.seq ?_
  refine Tr.condT rfl (range_on hdL1) ?_
  refine Tr.skip (Tr.zA ?_)
  refine Tr.seq ?_
  refine Tr.block ?_
  refine Tr.sr ?_
  obtain ⟨u113, hRu113, hoku113, hcu113⟩ := (hp0_0).el (range_at hdL1)
  obtain ⟨Au113_0, cu113_0⟩ := u113
  have hoku113_0 := hoku113
  replace hoku113_0 : Sl w.R w.W zX Au113_0 cu113_0 xL1.Xs := hoku113_0
  refine Tr.va rfl (fun _ _ h1 h2 => zI el_66 (h1.ev rfl) hp0_0.form (h1.ev rfl) (Int.natCast_nonneg _) (zf hdL1)) ?_
  refine Tr.va rfl (fun _ _ h1 h2 => zQ (cs := [(iv xL1.Y0), (iv xL1.Y1), (.slice Au113_0 (xL1.Xs).length cu113_0)]) ag_107 sz_107 (h1.ev rfl) (zO.take (rdR hRu113 hcu113 h2) 3) rfl) ?_
  refine Tr.alloc 3 (wn rfl) rfl ze_107 fun b114 => ?_
  refine Tr.store 3 (cs := [(iv xL1.Y0), (iv xL1.Y1), (.slice Au113_0 (xL1.Xs).length cu113_0)]) [(iv xL1.Y0), (iv xL1.Y1), (.slice Au113_0 (xL1.Xs).length cu113_0)] (wn rfl) rfl rfl rfl rfl sz_107 rfl rfl rfl ?_
  refine Tr.nil (Tr.zA ?_)
  refine Tr.region ?_
  refine Tr.mv rfl rfl ?_
  refine Tr.va rfl (fun _ _ h1 h2 => zB fo_107_2 (h1.ev rfl)) ?_
  refine Tr.va rfl (fun _ _ h1 h2 => zC ag_38 (h1.ev rfl) (rdb h2 (vs := [(iv xL1.Y0), (iv xL1.Y1), (.slice Au113_0 (xL1.Xs).length cu113_0)]) (k := 3) rfl 2) rfl) ?_
  refine Tr.va rfl (fun _ _ h1 h2 => zl un_38 (h1.ev rfl)) ?_
  refine Tr.va rfl (fun _ _ h1 h2 => run_quo (h1.ev rfl) (h1.ev rfl) (by decide)) ?_
  refine Tr.va rfl (fun _ _ h1 h2 => zm (h1.ev rfl) (h1.ev rfl)) ?_
  refine Tr.asg rfl rfl ?_
  refine Tr.nil (Tr.zT (Tr.zA ?_))
  refine Tr.region ?_
  refine Tr.va rfl (fun _ _ h1 h2 => zm (h1.ev rfl) (h1.ev rfl)) ?_
  refine Tr.mv rfl rfl ?_
  refine Tr.nil ?_
  exact Tr.zW leL1 (restL1, (iL1 + 1), (w64 (x112 + (w64 (Int.tdiv (xL1.Xs.length : Int) 2))))) ⟨rfl, zAI hdL1, zf hdL1, H⟩ (.cons rfl (.cons rfl (.cons rfl (.cons (congrArg (fun z => some (Value.int .i64 z)) (zAH hdL1 hp0_0.form)) .nil)))) .nil

theorem F_plot_machine__draw_ok (N : Nat) {w : Bs} (p0 : zo) (Ap0_0 : Option Addr) (cp0_0 : Nat) (hp0_0 : Sl w.R w.W zh Ap0_0 cp0_0 p0.p.Tools) (Ap0_1 : Option Addr) (cp0_1 : Nat) (hp0_1 : Sl w.R w.W zG Ap0_1 cp0_1 p0.p.Steps) (Ap0_2 : Option Addr) (cp0_2 : Nat) (hp0_2 : Sl w.R w.W zAA Ap0_2 cp0_2 p0.tools) (Ap0_3 : Option Addr) (cp0_3 : Nat) (bp0 : Nat) (p1 : (List zS)) (Ap1_0 : Option Addr) (cp1_0 : Nat) (hp1_0 : Sl w.O w.W zH Ap1_0 cp1_0 p1) (r : (Int × (List zS))) (H : F_plot_machine__draw N p0 p1 = some r) (hE : HF w w.W (LEn [bx bp0 #[(iv p0.p.Unit), (.slice Ap0_0 (p0.p.Tools).length cp0_0), (.slice Ap0_1 (p0.p.Steps).length cp0_1), (.slice Ap0_2 (p0.tools).length cp0_2), (.slice Ap0_3 (p0.image).length cp0_3), (.bool p0.clear), (iv p0.tool), (iv p0.place.X), (iv p0.place.Y), (.bool p0.placed), (iv p0.off), (iv p0.on)] 77, ow Ap0_3 cp0_3 107 zH p0.image])) : Calls Tryz.prog 125 [(.pointer (some ⟨bp0, 0, none⟩)), (.slice Ap1_0 (p1).length cp1_0)].toArray w.W fun e W' => ∃ (w' : Bs) (u : (Option Addr × Nat)), w.Le w' ∧ e = .returned (iv r.1) ∧ (SlF u.1 (r.2).length u.2) ∧ HF w' W' (LEn [bx bp0 #[(iv p0.p.Unit), (.slice Ap0_0 (p0.p.Tools).length cp0_0), (.slice Ap0_1 (p0.p.Steps).length cp0_1), (.slice Ap0_2 (p0.tools).length cp0_2), (.slice u.1 (r.2).length u.2), (.bool p0.clear), (iv p0.tool), (iv p0.place.X), (iv p0.place.Y), (.bool p0.placed), (iv p0.off), (iv p0.on)] 77, ow u.1 u.2 107 zH r.2]) := by
 unfold F_plot_machine__draw at H
 have hfhp0_3 := (hE.sl (k := 1) rfl).form
 have leB := Bs.Le.refl w
 refine Tr.enter (n := 38) Tryz.func125 rfl rfl rfl hE ?_
 refine Tr.sr ?_
 refine Tr.asg rfl rfl ?_
 refine Tr.nil (Tr.zA ?_)
 have leJ110 := Bs.Le.refl w
 refine Tr.cutJ (σ := (List zS) × (Option Addr) × Nat) (fun w s => F_plot_machine__draw_J1 s.1 = some r ∧ SlF s.2.1 (s.1).length s.2.2) (fun s => [(0, (.pointer (some ⟨bp0, 0, none⟩)))]) (fun s => [(0, bx bp0 #[(iv p0.p.Unit), (.slice Ap0_0 (p0.p.Tools).length cp0_0), (.slice Ap0_1 (p0.p.Steps).length cp0_1), (.slice Ap0_2 (p0.tools).length cp0_2), (.slice s.2.1 (s.1).length s.2.2), (.bool p0.clear), (iv p0.tool), (iv p0.place.X), (iv p0.place.Y), (.bool p0.placed), (iv p0.off), (iv p0.on)] 77), (4, ow s.2.1 s.2.2 107 zH s.1)]) ?_ ?_
 ·refine Tr.block ?_
  refine Tr.sr ?_
  refine Tr.mv rfl rfl ?_
  obtain ⟨y113, hy113, H⟩ := bnd H
  refine Tr.call0 (r := (.bool y113)) (wn rfl) rfl Tryz.call154 (zF rfl zN) (fun W hW => F_shape_Set__Fits_ok p1 Ap1_0 cp1_0 (hp1_0.rl.ext hW.extAll) y113 hy113 (HF.start _)) ?_
  refine Tr.va rfl (fun _ _ h1 h2 => run_not (h1.ev rfl)) ?_
  refine Tr.asg rfl rfl ?_
  refine Tr.nil (Tr.zA ?_)
  refine Tr.cond rfl H (fun H => ?_) (fun H => ?_)
  ·refine Tr.sr ?_
   refine Tr.asg rfl rfl ?_
   refine Tr.nil (Tr.zA ?_)
   refine Tr.ret (Tr.zt (Tr.zU ?_))
   obtain rfl := Option.some.inj H
   exact Tr.out (m := [(iv 1)]) [] (zL rfl zP) (fun W hW => ⟨w, (Ap0_3, cp0_3), leB, rfl, hfhp0_3, hW.pick (ks := [0, 1]) (by decide) (zK rfl (zK rfl za))⟩)
  ·refine Tr.sr ?_
   refine Tr.mv rfl rfl ?_
   refine Tr.va rfl (fun _ _ h1 h2 => zg (h1.ev rfl)) ?_
   refine Tr.va rfl (fun _ _ h1 h2 => zB fo_77_3 (h1.ev rfl)) ?_
   refine Tr.va rfl (fun _ _ h1 h2 => zC ag_4 (h1.ev rfl) (rdb h2 (vs := [(iv p0.p.Unit), (.slice Ap0_0 (p0.p.Tools).length cp0_0), (.slice Ap0_1 (p0.p.Steps).length cp0_1), (.slice Ap0_2 (p0.tools).length cp0_2), (.slice Ap0_3 (p0.image).length cp0_3), (.bool p0.clear), (iv p0.tool), (iv p0.place.X), (iv p0.place.Y), (.bool p0.placed), (iv p0.off), (iv p0.on)]) (k := 0) rfl 5) rfl) ?_
   refine Tr.asg rfl rfl ?_
   refine Tr.nil (Tr.zA ?_)
   refine Tr.cond rfl H (fun H => ?_) (fun H => ?_)
   ·refine Tr.region ?_
    refine Tr.mv rfl rfl ?_
    refine Tr.mv rfl rfl ?_
    refine Tr.va rfl (fun _ _ h1 h2 => zg (h1.ev rfl)) ?_
    refine Tr.va rfl (fun _ _ h1 h2 => zB fo_77_2 (h1.ev rfl)) ?_
    refine Tr.va rfl (fun _ _ h1 h2 => zC ag_66 (h1.ev rfl) (rdb h2 (vs := [(iv p0.p.Unit), (.slice Ap0_0 (p0.p.Tools).length cp0_0), (.slice Ap0_1 (p0.p.Steps).length cp0_1), (.slice Ap0_2 (p0.tools).length cp0_2), (.slice Ap0_3 (p0.image).length cp0_3), (.bool p0.clear), (iv p0.tool), (iv p0.place.X), (iv p0.place.Y), (.bool p0.placed), (iv p0.off), (iv p0.on)]) (k := 0) rfl 4) rfl) ?_
    refine Tr.mv rfl rfl ?_
    refine Tr.freeze 1 rfl fun w le115 hz114 => ?_
    replace hp0_0 := hp0_0.leR le115
    replace hp0_1 := hp0_1.leR le115
    replace hp0_2 := hp0_2.leR le115
    replace hp1_0 := hp1_0.le le115
    replace leB := leB.trans le115
    replace leJ110 := leJ110.trans le115
    obtain ⟨y116, hy116, H⟩ := bnd H
    refine Tr.callG [5] [emp] (U := (Option Addr × Nat)) (fun u => (.slice u.1 (y116).length u.2)) (fun O W u => SlF u.1 (y116).length u.2) (fun u => [ow u.1 u.2 107 zH y116]) rfl (zK rfl za) (fun _ => rfl) (wn rfl) rfl Tryz.call155 (zF rfl (zF rfl zN)) (fun W hW hp hE => F_shape_Set__Less_ok N p0.image Ap0_3 cp0_3 (hz114.extO (hW.extS hp)) p1 Ap1_0 cp1_0 (hp1_0.extO (hW.extS hp)) y116 hy116 hE) ?_
    intro w u le117 hu
    obtain ⟨Ay116_0, cy116_0⟩ := u
    have gy116_0 := hu
    replace hp0_0 := hp0_0.leR le117
    replace hp0_1 := hp0_1.leR le117
    replace hp0_2 := hp0_2.leR le117
    replace hz114 := hz114.le le117
    replace hp1_0 := hp1_0.le le117
    replace leB := leB.trans le117
    replace leJ110 := leJ110.trans le117
    have hgy116_0 : SlF Ay116_0 (y116).length cy116_0 := gy116_0 --@phi
    show Tr _ _ (uf _ 29 (.slice Ay116_0 (y116).length cy116_0)) (up _ 5 (ow Ay116_0 cy116_0 107 zH y116)) _
    refine Tr.va rfl (fun _ _ h1 h2 => zg (h1.ev rfl)) ?_
    refine Tr.va rfl (fun _ _ h1 h2 => zB fo_77_2 (h1.ev rfl)) ?_
    refine Tr.store 0 (cs := [(.slice Ay116_0 (y116).length cy116_0)]) [(iv p0.p.Unit), (.slice Ap0_0 (p0.p.Tools).length cp0_0), (.slice Ap0_1 (p0.p.Steps).length cp0_1), (.slice Ap0_2 (p0.tools).length cp0_2), (.slice Ay116_0 (y116).length cy116_0), (.bool p0.clear), (iv p0.tool), (iv p0.place.X), (iv p0.place.Y), (.bool p0.placed), (iv p0.off), (iv p0.on)] (wn rfl) rfl rfl rfl rfl sz_66 rfl rfl rfl ?_
    refine Tr.nil (Tr.zT ?_)
    refine Tr.ren 5 4 rfl rfl rfl ?_
    exact Tr.zW leJ110 (y116, Ay116_0, cy116_0) ⟨H, hgy116_0⟩ (.cons rfl .nil) (.cons rfl (.cons rfl .nil))
   ·refine Tr.region ?_
    refine Tr.mv rfl rfl ?_
    refine Tr.mv rfl rfl ?_
    refine Tr.va rfl (fun _ _ h1 h2 => zg (h1.ev rfl)) ?_
    refine Tr.va rfl (fun _ _ h1 h2 => zB fo_77_2 (h1.ev rfl)) ?_
    refine Tr.va rfl (fun _ _ h1 h2 => zC ag_66 (h1.ev rfl) (rdb h2 (vs := [(iv p0.p.Unit), (.slice Ap0_0 (p0.p.Tools).length cp0_0), (.slice Ap0_1 (p0.p.Steps).length cp0_1), (.slice Ap0_2 (p0.tools).length cp0_2), (.slice Ap0_3 (p0.image).length cp0_3), (.bool p0.clear), (iv p0.tool), (iv p0.place.X), (iv p0.place.Y), (.bool p0.placed), (iv p0.off), (iv p0.on)]) (k := 0) rfl 4) rfl) ?_
    refine Tr.mv rfl rfl ?_
    refine Tr.freeze 1 rfl fun w le119 hz118 => ?_
    replace hp0_0 := hp0_0.leR le119
    replace hp0_1 := hp0_1.leR le119
    replace hp0_2 := hp0_2.leR le119
    replace hp1_0 := hp1_0.le le119
    replace leB := leB.trans le119
    replace leJ110 := leJ110.trans le119
    obtain ⟨y120, hy120, H⟩ := bnd H
    refine Tr.callG [6] [emp] (U := (Option Addr × Nat)) (fun u => (.slice u.1 (y120).length u.2)) (fun O W u => SlF u.1 (y120).length u.2) (fun u => [ow u.1 u.2 107 zH y120]) rfl (zK rfl za) (fun _ => rfl) (wn rfl) rfl Tryz.call36 (zF rfl (zF rfl zN)) (fun W hW hp hE => F_shape_Set__Or_ok N p0.image Ap0_3 cp0_3 (hz118.extO (hW.extS hp)) p1 Ap1_0 cp1_0 (hp1_0.extO (hW.extS hp)) y120 hy120 hE) ?_
    intro w u le121 hu
    obtain ⟨Ay120_0, cy120_0⟩ := u
    have gy120_0 := hu
    replace hp0_0 := hp0_0.leR le121
    replace hp0_1 := hp0_1.leR le121
    replace hp0_2 := hp0_2.leR le121
    replace hz118 := hz118.le le121
    replace hp1_0 := hp1_0.le le121
    replace leB := leB.trans le121
    replace leJ110 := leJ110.trans le121
    have hgy120_0 : SlF Ay120_0 (y120).length cy120_0 := gy120_0 --@phi
    show Tr _ _ (uf _ 11 (.slice Ay120_0 (y120).length cy120_0)) (up _ 6 (ow Ay120_0 cy120_0 107 zH y120)) _
    refine Tr.va rfl (fun _ _ h1 h2 => zg (h1.ev rfl)) ?_
    refine Tr.va rfl (fun _ _ h1 h2 => zB fo_77_2 (h1.ev rfl)) ?_
    refine Tr.store 0 (cs := [(.slice Ay120_0 (y120).length cy120_0)]) [(iv p0.p.Unit), (.slice Ap0_0 (p0.p.Tools).length cp0_0), (.slice Ap0_1 (p0.p.Steps).length cp0_1), (.slice Ap0_2 (p0.tools).length cp0_2), (.slice Ay120_0 (y120).length cy120_0), (.bool p0.clear), (iv p0.tool), (iv p0.place.X), (iv p0.place.Y), (.bool p0.placed), (iv p0.off), (iv p0.on)] (wn rfl) rfl rfl rfl rfl sz_66 rfl rfl rfl ?_
    refine Tr.nil (Tr.zT ?_)
    refine Tr.ren 6 4 rfl rfl rfl ?_
    exact Tr.zW leJ110 (y120, Ay120_0, cy120_0) ⟨H, hgy120_0⟩ (.cons rfl .nil) (.cons rfl (.cons rfl .nil))
 ·intro w s hlJ111 hs
  obtain ⟨l109, Al109, cl109⟩ := s
  obtain ⟨H, hl109⟩ := hs
  replace H : F_plot_machine__draw_J1 l109 = some r := H
  replace hp0_0 := hp0_0.leR hlJ111
  replace hp0_1 := hp0_1.leR hlJ111
  replace hp0_2 := hp0_2.leR hlJ111
  replace leB := leB.trans hlJ111
  replace hl109 : SlF Al109 (l109).length cl109 := hl109
  unfold F_plot_machine__draw_J1 at H
  show Tr _ _ (LF [(0, (.pointer (some ⟨bp0, 0, none⟩)))]) (LE [(0, bx bp0 #[(iv p0.p.Unit), (.slice Ap0_0 (p0.p.Tools).length cp0_0), (.slice Ap0_1 (p0.p.Steps).length cp0_1), (.slice Ap0_2 (p0.tools).length cp0_2), (.slice Al109 (l109).length cl109), (.bool p0.clear), (iv p0.tool), (iv p0.place.X), (iv p0.place.Y), (.bool p0.placed), (iv p0.off), (iv p0.on)] 77), (4, ow Al109 cl109 107 zH l109)]) _
  refine Tr.seq ?_
  refine Tr.sr ?_
  refine Tr.mv rfl rfl ?_
  refine Tr.va rfl (fun _ _ h1 h2 => zg (h1.ev rfl)) ?_
  refine Tr.va rfl (fun _ _ h1 h2 => zB fo_77_2 (h1.ev rfl)) ?_
  refine Tr.va rfl (fun _ _ h1 h2 => zC ag_66 (h1.ev rfl) (rdb h2 (vs := [(iv p0.p.Unit), (.slice Ap0_0 (p0.p.Tools).length cp0_0), (.slice Ap0_1 (p0.p.Steps).length cp0_1), (.slice Ap0_2 (p0.tools).length cp0_2), (.slice Al109 (l109).length cl109), (.bool p0.clear), (iv p0.tool), (iv p0.place.X), (iv p0.place.Y), (.bool p0.placed), (iv p0.off), (iv p0.on)]) (k := 0) rfl 4) rfl) ?_
  obtain ⟨y112, hy112, H⟩ := bnd H
  refine Tr.call0 (r := (iv y112)) (wn rfl) rfl Tryz.call89 (zF rfl zN) (fun W hW => F_shape_Set__Many_ok l109 Al109 cl109 (hW.slCall (k := 4) rfl) y112 hy112 (HF.start _)) ?_
  refine Tr.va rfl (fun _ _ h1 h2 => run_gtr (h1.ev rfl) (h1.ev rfl)) ?_
  refine Tr.nil (Tr.zA ?_)
  refine Tr.cond rfl H (fun H => ?_) (fun H => ?_)
  ·refine Tr.sr ?_
   refine Tr.asg rfl rfl ?_
   refine Tr.nil (Tr.zA ?_)
   refine Tr.ret (Tr.zU ?_)
   obtain rfl := Option.some.inj H
   exact Tr.out (m := [(iv 2)]) [] (zL rfl zP) (fun W hW => ⟨w, (Al109, cl109), leB, rfl, hl109, hW.pick (ks := [0, 4]) (by decide) (zK rfl (zK rfl za))⟩)
  ·refine Tr.skip (Tr.zA ?_)
   refine Tr.sr ?_
   refine Tr.asg rfl rfl ?_
   refine Tr.nil (Tr.zA ?_)
   refine Tr.ret ?_
   obtain rfl := Option.some.inj H
   exact Tr.out (m := [(iv 0)]) [] (zL rfl zP) (fun W hW => ⟨w, (Al109, cl109), leB, rfl, hl109, hW.pick (ks := [0, 4]) (by decide) (zK rfl (zK rfl za))⟩)

end Go.Proofs.YtoageaoknnnfbaaGreatDoor
