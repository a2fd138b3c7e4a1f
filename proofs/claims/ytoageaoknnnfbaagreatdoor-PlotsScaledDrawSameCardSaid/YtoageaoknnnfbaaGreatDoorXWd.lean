/- The walks: each function computes its plain function. -/
import Derived.Test.YtoageaoknnnfbaaGreatDoorXWc
namespace Go.Proofs.YtoageaoknnnfbaaGreatDoor
open Go.RowKit
set_option maxRecDepth 100000
set_option maxHeartbeats 1000000
theorem F_shape_line_ok (N : Nat) {w : Bs} (p0 : (List Int)) (QA : Option Addr) (QB : Nat) (QE : Sl w.R w.W zn QA QB p0) (p1 : (List Int)) (QG : Option Addr) (QH : Nat) (QV : Sl w.R w.W zn QG QH p1) (p2 : Bool → Bool → Option Bool) (fid2 : Nat) (cap2 : List Value) (hg2 : ∀ args W, (callFunc fid2 args).run Tryz.prog W = .ok (.enter fid2 args) W) (hf2 : ∀ (w' : Bs), w.Ext w' → ∀ (z0 : Bool) (z1 : Bool), ∀ y, p2 z0 z1 = some y → Calls Tryz.prog fid2 (([(.bool z0), (.bool z1)] : List Value) ++ cap2).toArray w'.W fun e W'' => e = .returned (.bool y) ∧ HF w' W'' E0) (r : (List Int)) (H : zDA N p0 p1 p2 = some r) (hE : HF w w.W (LEn [emp])) : Calls Tryz.prog 91 [(.slice QA p0.length QB), (.slice QG p1.length QH), (.func (.func fid2) #[] cap2.toArray)].toArray w.W fun e W' => ∃ u : (Option Addr × Nat), e = .returned (.slice u.1 r.length u.2) ∧ (SlF u.1 r.length u.2) ∧ HF w W' (LEn [ow u.1 u.2 3 zn r]) := by
 unfold zDA at H
 have leB := Bs.Le.refl w
 refine Tr.enter (n := 85) Tryz.func91 rfl rfl rfl hE ?_
 refine Tr.sr (Tr.asg rfl rfl (Tr.JS 1 3 zn ?_))
 show Tr _ _ (uf _ 6 (.slice none (([] : List Int)).length 0)) _ _
 refine Tr.nil (Tr.zA (Tr.sr (Tr.asg rfl rfl (Tr.JS 2 3 zn ?_))))
 show Tr _ _ (uf _ 7 (.slice none (([] : List Int)).length 0)) _ _
 refine Tr.nil (Tr.zA (Tr.sr (Tr.asg rfl rfl (Tr.asg rfl rfl (Tr.asg rfl rfl (Tr.nil (Tr.zA (Tr.seq (Tr.block (Tr.loop (σ := (List Int) × (List Int) × (List Int) × Bool × Bool × Bool × (Option Addr) × Nat × (Option Addr) × Nat × (Option Addr) × Nat) (fun m w s => zAI p2 m s.1 s.2.1 s.2.2.1 s.2.2.2.1 s.2.2.2.2.1 s.2.2.2.2.2.1 = some r ∧ Sl w.R w.W zn s.2.2.2.2.2.2.1 s.2.2.2.2.2.2.2.1 s.1 ∧ Sl w.R w.W zn s.2.2.2.2.2.2.2.2.1 s.2.2.2.2.2.2.2.2.2.1 s.2.1 ∧ SlF s.2.2.2.2.2.2.2.2.2.2.1 s.2.2.1.length s.2.2.2.2.2.2.2.2.2.2.2) (fun s => [(0, (.slice s.2.2.2.2.2.2.1 s.1.length s.2.2.2.2.2.2.2.1)), (1, (.slice s.2.2.2.2.2.2.2.2.1 s.2.1.length s.2.2.2.2.2.2.2.2.2.1)), (2, (.func (.func fid2) #[] cap2.toArray)), (7, (.slice s.2.2.2.2.2.2.2.2.2.2.1 s.2.2.1.length s.2.2.2.2.2.2.2.2.2.2.2)), (8, (.bool s.2.2.2.1)), (9, (.bool s.2.2.2.2.1)), (10, (.bool s.2.2.2.2.2.1))]) (fun s => [(2, ow s.2.2.2.2.2.2.2.2.2.2.1 s.2.2.2.2.2.2.2.2.2.2.2 3 zn s.2.2.1)]) N (p0, p1, ([] : List Int), false, false, false, QA, QB, QG, QH, none, 0) ⟨H, QE, QV, VD⟩ (.cons rfl (.cons rfl (.cons rfl (.cons rfl (.cons rfl (.cons rfl (.cons rfl .nil))))))) (.cons rfl .nil) (fun _ _ h => zAi (h.1)) ?_))))))))))
 intro w zJS mL7 s hs
 obtain ⟨VW, WZ, Vs, zF9, zCs, zBk, zAd, zAT, zCZ, zCC, WX, WT⟩ := s
 obtain ⟨H, zDs, zEM, hl232⟩ := hs
 replace H : zAI p2 (mL7 + 1) VW WZ Vs zF9 zCs zBk = some r := H
 replace hf2 := fun w' he => hf2 w' (zJS.ext.trans he)
 replace leB := leB.trans zJS
 replace zDs : Sl w.R w.W zn zAd zAT VW := zDs
 replace zEM : Sl w.R w.W zn zCZ zCC WZ := zEM
 replace hl232 : SlF WX Vs.length WT := hl232
 rw [zAI.eq_2] at H
 show Tr _ _ (LF [(0, (.slice zAd VW.length zAT)), (1, (.slice zCZ WZ.length zCC)), (2, (.func (.func fid2) #[] cap2.toArray)), (7, (.slice WX Vs.length WT)), (8, (.bool zF9)), (9, (.bool zCs)), (10, (.bool zBk))]) (LE [(2, ow WX WT 3 zn Vs)]) _
 refine Tr.seq (Tr.sr (Tr.mv rfl rfl (Tr.va rfl (fun _ _ h1 h2 => zq zCA (h1.ev rfl)) ?_)))
 refine Tr.va rfl (fun _ _ h1 h2 => VI (h1.ev rfl) (h1.ev rfl)) ?_
 refine Tr.mv rfl rfl (Tr.VR 4 [(0, (.slice zAd VW.length zAT)), (1, (.slice zCZ WZ.length zCC)), (2, (.func (.func fid2) #[] cap2.toArray)), (7, (.slice WX Vs.length WT)), (8, (.bool zF9)), (9, (.bool zCs)), (10, (.bool zBk)), (20, (.bool ((decide (0 < (VW.length : Int))) || (decide (0 < (WZ.length : Int))))))] [(2, ow WX WT 3 zn Vs)] ?_ ?_)
 ·cases hg291 : (decide (0 < (VW.length : Int)))
  ·refine Tr.val (wg rfl rfl rfl) rfl (fun _ _ h1 h2 => run_move (h1.ev rfl)) ?_
   refine Tr.val (wg rfl rfl rfl) rfl (fun _ _ h1 h2 => zq zCA (h1.ev rfl)) ?_
   refine Tr.val (wg rfl rfl rfl) rfl (fun _ _ h1 h2 => VI (h1.ev rfl) (h1.ev rfl)) ?_
   refine Tr.va rfl (fun _ _ h1 h2 => zf (h1.ev rfl) (h1.ev rfl)) ?_
   exact Tr.nil (Tr.Qo (.cons rfl (.cons rfl (.cons rfl (.cons rfl (.cons rfl (.cons rfl (.cons rfl (.cons rfl .nil)))))))) (.cons rfl .nil))
  ·refine Tr.pass rfl rfl rfl rfl rfl (by decide) ?_
   refine Tr.pass rfl rfl rfl rfl rfl (by decide) ?_
   refine Tr.pass rfl rfl rfl rfl rfl (by decide) ?_
   refine Tr.va rfl (fun _ _ h1 h2 => ze (h1.ev rfl) (h1.ev rfl)) ?_
   exact Tr.nil (Tr.Qo (.cons rfl (.cons rfl (.cons rfl (.cons rfl (.cons rfl (.cons rfl (.cons rfl (.cons rfl .nil)))))))) (.cons rfl .nil))
 ·show Tr _ _ (LF [(0, (.slice zAd VW.length zAT)), (1, (.slice zCZ WZ.length zCC)), (2, (.func (.func fid2) #[] cap2.toArray)), (7, (.slice WX Vs.length WT)), (8, (.bool zF9)), (9, (.bool zCs)), (10, (.bool zBk)), (20, (.bool ((decide (0 < (VW.length : Int))) || (decide (0 < (WZ.length : Int))))))]) (LE [(2, ow WX WT 3 zn Vs)]) _
  refine Tr.nil (Tr.zA (Tr.cond rfl H (fun H => ?_) (fun H => ?_)))
  ·refine Tr.skip (Tr.zA (Tr.block (Tr.sr (Tr.asg rfl rfl (Tr.nil (Tr.zA ?_))))))
   have leJ250 := Bs.Le.refl w
   refine Tr.cutJ (σ := Int) (fun w s => KX p2 VW WZ Vs zF9 zCs zBk (zAI p2 mL7) s = some r) (fun s => [(0, (.slice zAd VW.length zAT)), (1, (.slice zCZ WZ.length zCC)), (2, (.func (.func fid2) #[] cap2.toArray)), (7, (.slice WX Vs.length WT)), (8, (.bool zF9)), (9, (.bool zCs)), (10, (.bool zBk)), (11, (iv s))]) (fun s => [(2, ow WX WT 3 zn Vs)]) ?_ ?_
   ·refine Tr.seq (Tr.draw (by kernel_rfl) (by kernel_rfl) ?_)
    refine Tq.mv rfl rfl (Tq.va rfl (fun _ _ h1 h2 => zq zCA (h1.ev rfl)) ?_)
    refine Tq.va rfl (fun _ _ h1 h2 => Qk (h1.ev rfl) (h1.ev rfl)) ?_
    refine Tq.mv rfl rfl ?_
    obtain ⟨g284, hg284, H⟩ := bnd H
    refine Tq.mid 13 [(0, (.slice zAd VW.length zAT)), (1, (.slice zCZ WZ.length zCC)), (2, (.func (.func fid2) #[] cap2.toArray)), (7, (.slice WX Vs.length WT)), (8, (.bool zF9)), (9, (.bool zCs)), (10, (.bool zBk)), (37, (.bool g284))] ?_ ?_
    ·cases hg291 : ((WZ.length : Int) == 0)
     ·rw [hg291] at hg284
      rw [if_neg (by decide)] at hg284
      have H := hg284
      refine Tq.val (wg rfl rfl rfl) rfl (fun _ _ h1 h2 => run_move (h1.ev rfl)) ?_
      refine Tq.val (wg rfl rfl rfl) rfl (fun _ _ h1 h2 => zq zCA (h1.ev rfl)) ?_
      refine Tq.val (wg rfl rfl rfl) rfl (fun _ _ h1 h2 => VI (h1.ev rfl) (h1.ev rfl)) ?_
      refine Tq.val (wg rfl rfl rfl) rfl (fun _ _ h1 h2 => run_move (h1.ev rfl)) ?_
      obtain ⟨g287, hg287, H⟩ := bnd H
      refine Tq.mid 8 [(0, (.slice zAd VW.length zAT)), (1, (.slice zCZ WZ.length zCC)), (2, (.func (.func fid2) #[] cap2.toArray)), (7, (.slice WX Vs.length WT)), (8, (.bool zF9)), (9, (.bool zCs)), (10, (.bool zBk)), (24, (.bool false)), (36, (.bool g287))] ?_ ?_
      ·cases hg289 : (decide (0 < (VW.length : Int)))
       ·rw [hg289] at hg287
        rw [if_neg (by decide)] at hg287
        have H := hg287
        obtain rfl := Option.some.inj H
        refine Tq.pass rfl rfl rfl rfl rfl (by decide) ?_
        refine Tq.pass rfl rfl rfl rfl rfl (by decide) ?_
        refine Tq.pass rfl rfl rfl rfl rfl (by decide) ?_
        refine Tq.pass rfl rfl rfl rfl rfl (by decide) ?_
        refine Tq.pass rfl rfl rfl rfl rfl (by decide) ?_
        refine Tq.pass rfl rfl rfl rfl rfl (by decide) ?_
        refine Tq.pass rfl rfl rfl rfl rfl (by decide) ?_
        refine Tq.val (wg rfl rfl rfl) rfl (fun _ _ h1 h2 => zf (h1.ev rfl) (h1.ev rfl)) ?_
        exact Tq.fin (.cons rfl (.cons rfl (.cons rfl (.cons rfl (.cons rfl (.cons rfl (.cons rfl (.cons rfl (.cons rfl .nil)))))))))
       ·rw [hg289] at hg287
        rw [if_pos rfl] at hg287
        have H := hg287
        refine Tq.val (wg rfl rfl rfl) rfl (fun _ _ h1 h2 => run_move (h1.ev rfl)) ?_
        obtain ⟨x288, hx288, H⟩ := bnd H
        obtain ⟨hx2880, hx2881, hx2882⟩ := zh hx288
        refine Tq.val (wg rfl rfl rfl) rfl (fun _ _ h1 h2 => zH zAR (h1.ev rfl) zDs.form (h1.ev rfl) hx2880 hx2881) ?_
        refine Tq.val (wg rfl rfl rfl) rfl (fun _ _ h1 h2 => zC QO (h1.ev rfl) (rdF VZ zDs hx2882 h2) rfl) ?_
        refine Tq.val (wg rfl rfl rfl) rfl (fun _ _ h1 h2 => run_move (h1.ev rfl)) ?_
        obtain ⟨x289, hx289, H⟩ := bnd H
        obtain ⟨hx2890, hx2891, hx2892⟩ := zh hx289
        refine Tq.val (wg rfl rfl rfl) rfl (fun _ _ h1 h2 => zH zAR (h1.ev rfl) zEM.form (h1.ev rfl) hx2890 hx2891) ?_
        refine Tq.val (wg rfl rfl rfl) rfl (fun _ _ h1 h2 => zC QO (h1.ev rfl) (rdF VZ zEM hx2892 h2) rfl) ?_
        refine Tq.val (wg rfl rfl rfl) rfl (fun _ _ h1 h2 => zA8 (h1.ev rfl) (h1.ev rfl)) ?_
        refine Tq.val (wg rfl rfl rfl) rfl (fun _ _ h1 h2 => ze (h1.ev rfl) (h1.ev rfl)) ?_
        obtain rfl := Option.some.inj H
        exact Tq.fin (.cons rfl (.cons rfl (.cons rfl (.cons rfl (.cons rfl (.cons rfl (.cons rfl (.cons rfl (.cons rfl .nil)))))))))
      ·refine Tq.va rfl (fun _ _ h1 h2 => zf (h1.ev rfl) (h1.ev rfl)) ?_
       obtain rfl := Option.some.inj H
       exact Tq.fin (.cons rfl (.cons rfl (.cons rfl (.cons rfl (.cons rfl (.cons rfl (.cons rfl (.cons rfl .nil))))))))
     ·rw [hg291] at hg284
      rw [if_pos rfl] at hg284
      have H := hg284
      obtain rfl := Option.some.inj H
      refine Tq.pass rfl rfl rfl rfl rfl (by decide) ?_
      refine Tq.pass rfl rfl rfl rfl rfl (by decide) ?_
      refine Tq.pass rfl rfl rfl rfl rfl (by decide) ?_
      refine Tq.pass rfl rfl rfl rfl rfl (by decide) ?_
      refine Tq.VV rfl rfl rfl rfl (by decide) ?_
      refine Tq.VV rfl rfl rfl rfl (by decide) ?_
      refine Tq.VV rfl rfl rfl rfl (by decide) ?_
      refine Tq.VV rfl rfl rfl rfl (by decide) ?_
      refine Tq.VV rfl rfl rfl rfl (by decide) ?_
      refine Tq.VV rfl rfl rfl rfl (by decide) ?_
      refine Tq.VV rfl rfl rfl rfl (by decide) ?_
      refine Tq.pass rfl rfl rfl rfl rfl (by decide) ?_
      refine Tq.va rfl (fun _ _ h1 h2 => ze (h1.ev rfl) (h1.ev rfl)) ?_
      exact Tq.fin (.cons rfl (.cons rfl (.cons rfl (.cons rfl (.cons rfl (.cons rfl (.cons rfl (.cons rfl .nil))))))))
    ·refine Tq.nil (Tr.zA (Tr.cond rfl H (fun H => ?_) (fun H => ?_)))
     ·refine Tr.region (Tr.mv rfl rfl ?_)
      obtain ⟨x290, hx290, H⟩ := bnd H
      obtain ⟨hx2900, hx2901, hx2902⟩ := zh hx290
      refine Tr.va rfl (fun _ _ h1 h2 => zH zAR (h1.ev rfl) zDs.form (h1.ev rfl) hx2900 hx2901) ?_
      refine Tr.va rfl (fun _ _ h1 h2 => zC QO (h1.ev rfl) (rdF VZ zDs hx2902 h2) rfl) ?_
      exact Tr.asg rfl rfl (Tr.nil (Tr.zZ leJ250 x290 H (.cons rfl (.cons rfl (.cons rfl (.cons rfl (.cons rfl (.cons rfl (.cons rfl (.cons rfl .nil)))))))) (.cons rfl .nil)))
     ·refine Tr.region (Tr.mv rfl rfl ?_)
      obtain ⟨x291, hx291, H⟩ := bnd H
      obtain ⟨hx2910, hx2911, hx2912⟩ := zh hx291
      refine Tr.va rfl (fun _ _ h1 h2 => zH zAR (h1.ev rfl) zEM.form (h1.ev rfl) hx2910 hx2911) ?_
      refine Tr.va rfl (fun _ _ h1 h2 => zC QO (h1.ev rfl) (rdF VZ zEM hx2912 h2) rfl) ?_
      exact Tr.asg rfl rfl (Tr.nil (Tr.zZ leJ250 x291 H (.cons rfl (.cons rfl (.cons rfl (.cons rfl (.cons rfl (.cons rfl (.cons rfl (.cons rfl .nil)))))))) (.cons rfl .nil)))
   ·intro w zCr hlJ251 hs
    have H := hs
    replace H : KX p2 VW WZ Vs zF9 zCs zBk (zAI p2 mL7) zCr = some r := H
    replace zDs := zDs.leR hlJ251
    replace zEM := zEM.leR hlJ251
    replace hf2 := fun w' he => hf2 w' (hlJ251.ext.trans he)
    replace zJS := zJS.trans hlJ251
    unfold KX at H
    show Tr _ _ (LF [(0, (.slice zAd VW.length zAT)), (1, (.slice zCZ WZ.length zCC)), (2, (.func (.func fid2) #[] cap2.toArray)), (7, (.slice WX Vs.length WT)), (8, (.bool zF9)), (9, (.bool zCs)), (10, (.bool zBk)), (11, (iv zCr))]) (LE [(2, ow WX WT 3 zn Vs)]) _
    have leJ258 := Bs.Le.refl w
    refine Tr.cutJ (σ := (List Int) × Bool × (Option Addr) × Nat) (fun w s => Ku p2 WZ Vs zCs zBk (zAI p2 mL7) zCr s.1 s.2.1 = some r ∧ Sl w.R w.W zn s.2.2.1 s.2.2.2 s.1) (fun s => [(0, (.slice s.2.2.1 s.1.length s.2.2.2)), (1, (.slice zCZ WZ.length zCC)), (2, (.func (.func fid2) #[] cap2.toArray)), (7, (.slice WX Vs.length WT)), (8, (.bool s.2.1)), (9, (.bool zCs)), (10, (.bool zBk)), (11, (iv zCr))]) (fun s => [(2, ow WX WT 3 zn Vs)]) ?_ ?_
    ·refine Tr.sr (Tr.mv rfl rfl (Tr.va rfl (fun _ _ h1 h2 => zq zCA (h1.ev rfl)) ?_))
     refine Tr.va rfl (fun _ _ h1 h2 => VI (h1.ev rfl) (h1.ev rfl)) ?_
     refine Tr.mv rfl rfl ?_
     obtain ⟨g276, zKH, H⟩ := bnd H
     refine Tr.VR 6 [(0, (.slice zAd VW.length zAT)), (1, (.slice zCZ WZ.length zCC)), (2, (.func (.func fid2) #[] cap2.toArray)), (7, (.slice WX Vs.length WT)), (8, (.bool zF9)), (9, (.bool zCs)), (10, (.bool zBk)), (11, (iv zCr)), (53, (.bool g276))] [(2, ow WX WT 3 zn Vs)] ?_ ?_
     ·cases hg278 : (decide (0 < (VW.length : Int)))
      ·rw [hg278] at zKH
       rw [if_neg (by decide)] at zKH
       have H := zKH
       obtain rfl := Option.some.inj H
       refine Tr.pass rfl rfl rfl rfl rfl (by decide) ?_
       refine Tr.pass rfl rfl rfl rfl rfl (by decide) ?_
       refine Tr.pass rfl rfl rfl rfl rfl (by decide) ?_
       refine Tr.pass rfl rfl rfl rfl rfl (by decide) ?_
       refine Tr.pass rfl rfl rfl rfl rfl (by decide) ?_
       refine Tr.va rfl (fun _ _ h1 h2 => zf (h1.ev rfl) (h1.ev rfl)) ?_
       exact Tr.nil (Tr.Qo (.cons rfl (.cons rfl (.cons rfl (.cons rfl (.cons rfl (.cons rfl (.cons rfl (.cons rfl (.cons rfl .nil))))))))) (.cons rfl .nil))
      ·rw [hg278] at zKH
       rw [if_pos rfl] at zKH
       have H := zKH
       refine Tr.val (wg rfl rfl rfl) rfl (fun _ _ h1 h2 => run_move (h1.ev rfl)) ?_
       obtain ⟨x277, hx277, H⟩ := bnd H
       obtain ⟨hx2770, hx2771, hx2772⟩ := zh hx277
       refine Tr.val (wg rfl rfl rfl) rfl (fun _ _ h1 h2 => zH zAR (h1.ev rfl) zDs.form (h1.ev rfl) hx2770 hx2771) ?_
       refine Tr.val (wg rfl rfl rfl) rfl (fun _ _ h1 h2 => zC QO (h1.ev rfl) (rdF VZ zDs hx2772 h2) rfl) ?_
       refine Tr.val (wg rfl rfl rfl) rfl (fun _ _ h1 h2 => run_move (h1.ev rfl)) ?_
       refine Tr.val (wg rfl rfl rfl) rfl (fun _ _ h1 h2 => Qk (h1.ev rfl) (h1.ev rfl)) ?_
       refine Tr.va rfl (fun _ _ h1 h2 => ze (h1.ev rfl) (h1.ev rfl)) ?_
       obtain rfl := Option.some.inj H
       exact Tr.nil (Tr.Qo (.cons rfl (.cons rfl (.cons rfl (.cons rfl (.cons rfl (.cons rfl (.cons rfl (.cons rfl (.cons rfl .nil))))))))) (.cons rfl .nil))
     ·show Tr _ _ (LF [(0, (.slice zAd VW.length zAT)), (1, (.slice zCZ WZ.length zCC)), (2, (.func (.func fid2) #[] cap2.toArray)), (7, (.slice WX Vs.length WT)), (8, (.bool zF9)), (9, (.bool zCs)), (10, (.bool zBk)), (11, (iv zCr)), (53, (.bool g276))]) (LE [(2, ow WX WT 3 zn Vs)]) _
      refine Tr.nil (Tr.zA (Tr.cond rfl H (fun H => ?_) (fun H => ?_)))
      ·refine Tr.region (Tr.mv rfl rfl ?_)
       obtain ⟨l278, hl278, H⟩ := bnd H
       refine Tr.va rfl (fun _ _ h1 h2 => zHo zAR (h1.ev rfl) zDs.form (h1.ev rfl) hl278) ?_
       refine Tr.mv rfl rfl (Tr.va rfl (fun _ _ h1 h2 => JO (h1.ev rfl)) ?_)
       exact Tr.asg rfl rfl (Tr.asg rfl rfl (Tr.nil (Tr.zZ leJ258 (l278, (!zF9), (zG0 zAd (1 : Int).toNat 1 zAT), (zAT - (1 : Int).toNat)) ⟨H, (Sl.cut zDs hl278)⟩ (.cons rfl (.cons rfl (.cons rfl (.cons rfl (.cons rfl (.cons rfl (.cons rfl (.cons rfl .nil)))))))) (.cons rfl .nil))))
      ·exact Tr.skip (Tr.zZ leJ258 (VW, zF9, zAd, zAT) ⟨H, zDs⟩ (.cons rfl (.cons rfl (.cons rfl (.cons rfl (.cons rfl (.cons rfl (.cons rfl (.cons rfl .nil)))))))) (.cons rfl .nil))
    ·intro w s hlJ259 hs
     obtain ⟨zHq, zHW, Al256, cl256⟩ := s
     obtain ⟨H, hl256⟩ := hs
     replace H : Ku p2 WZ Vs zCs zBk (zAI p2 mL7) zCr zHq zHW = some r := H
     replace zEM := zEM.leR hlJ259
     replace hf2 := fun w' he => hf2 w' (hlJ259.ext.trans he)
     replace zJS := zJS.trans hlJ259
     replace hl256 : Sl w.R w.W zn Al256 cl256 zHq := hl256
     unfold Ku at H
     show Tr _ _ (LF [(0, (.slice Al256 zHq.length cl256)), (1, (.slice zCZ WZ.length zCC)), (2, (.func (.func fid2) #[] cap2.toArray)), (7, (.slice WX Vs.length WT)), (8, (.bool zHW)), (9, (.bool zCs)), (10, (.bool zBk)), (11, (iv zCr))]) (LE [(2, ow WX WT 3 zn Vs)]) _
     have leJ266 := Bs.Le.refl w
     refine Tr.cutJ (σ := (List Int) × Bool × (Option Addr) × Nat) (fun w s => WE p2 Vs zBk (zAI p2 mL7) zCr zHq zHW s.1 s.2.1 = some r ∧ Sl w.R w.W zn s.2.2.1 s.2.2.2 s.1) (fun s => [(0, (.slice Al256 zHq.length cl256)), (1, (.slice s.2.2.1 s.1.length s.2.2.2)), (2, (.func (.func fid2) #[] cap2.toArray)), (7, (.slice WX Vs.length WT)), (8, (.bool zHW)), (9, (.bool s.2.1)), (10, (.bool zBk)), (11, (iv zCr))]) (fun s => [(2, ow WX WT 3 zn Vs)]) ?_ ?_
     ·refine Tr.sr (Tr.mv rfl rfl (Tr.va rfl (fun _ _ h1 h2 => zq zCA (h1.ev rfl)) ?_))
      refine Tr.va rfl (fun _ _ h1 h2 => VI (h1.ev rfl) (h1.ev rfl)) ?_
      refine Tr.mv rfl rfl ?_
      obtain ⟨g272, hg272, H⟩ := bnd H
      refine Tr.VR 6 [(0, (.slice Al256 zHq.length cl256)), (1, (.slice zCZ WZ.length zCC)), (2, (.func (.func fid2) #[] cap2.toArray)), (7, (.slice WX Vs.length WT)), (8, (.bool zHW)), (9, (.bool zCs)), (10, (.bool zBk)), (11, (iv zCr)), (67, (.bool g272))] [(2, ow WX WT 3 zn Vs)] ?_ ?_
      ·cases hg274 : (decide (0 < (WZ.length : Int)))
       ·rw [hg274] at hg272
        rw [if_neg (by decide)] at hg272
        have H := hg272
        obtain rfl := Option.some.inj H
        refine Tr.pass rfl rfl rfl rfl rfl (by decide) ?_
        refine Tr.pass rfl rfl rfl rfl rfl (by decide) ?_
        refine Tr.pass rfl rfl rfl rfl rfl (by decide) ?_
        refine Tr.pass rfl rfl rfl rfl rfl (by decide) ?_
        refine Tr.pass rfl rfl rfl rfl rfl (by decide) ?_
        refine Tr.va rfl (fun _ _ h1 h2 => zf (h1.ev rfl) (h1.ev rfl)) ?_
        exact Tr.nil (Tr.Qo (.cons rfl (.cons rfl (.cons rfl (.cons rfl (.cons rfl (.cons rfl (.cons rfl (.cons rfl (.cons rfl .nil))))))))) (.cons rfl .nil))
       ·rw [hg274] at hg272
        rw [if_pos rfl] at hg272
        have H := hg272
        refine Tr.val (wg rfl rfl rfl) rfl (fun _ _ h1 h2 => run_move (h1.ev rfl)) ?_
        obtain ⟨x273, hx273, H⟩ := bnd H
        obtain ⟨hx2730, hx2731, hx2732⟩ := zh hx273
        refine Tr.val (wg rfl rfl rfl) rfl (fun _ _ h1 h2 => zH zAR (h1.ev rfl) zEM.form (h1.ev rfl) hx2730 hx2731) ?_
        refine Tr.val (wg rfl rfl rfl) rfl (fun _ _ h1 h2 => zC QO (h1.ev rfl) (rdF VZ zEM hx2732 h2) rfl) ?_
        refine Tr.val (wg rfl rfl rfl) rfl (fun _ _ h1 h2 => run_move (h1.ev rfl)) ?_
        refine Tr.val (wg rfl rfl rfl) rfl (fun _ _ h1 h2 => Qk (h1.ev rfl) (h1.ev rfl)) ?_
        refine Tr.va rfl (fun _ _ h1 h2 => ze (h1.ev rfl) (h1.ev rfl)) ?_
        obtain rfl := Option.some.inj H
        exact Tr.nil (Tr.Qo (.cons rfl (.cons rfl (.cons rfl (.cons rfl (.cons rfl (.cons rfl (.cons rfl (.cons rfl (.cons rfl .nil))))))))) (.cons rfl .nil))
      ·show Tr _ _ (LF [(0, (.slice Al256 zHq.length cl256)), (1, (.slice zCZ WZ.length zCC)), (2, (.func (.func fid2) #[] cap2.toArray)), (7, (.slice WX Vs.length WT)), (8, (.bool zHW)), (9, (.bool zCs)), (10, (.bool zBk)), (11, (iv zCr)), (67, (.bool g272))]) (LE [(2, ow WX WT 3 zn Vs)]) _
       refine Tr.nil (Tr.zA (Tr.cond rfl H (fun H => ?_) (fun H => ?_)))
       ·refine Tr.region (Tr.mv rfl rfl ?_)
        obtain ⟨l274, hl274, H⟩ := bnd H
        refine Tr.va rfl (fun _ _ h1 h2 => zHo zAR (h1.ev rfl) zEM.form (h1.ev rfl) hl274) ?_
        refine Tr.mv rfl rfl (Tr.va rfl (fun _ _ h1 h2 => JO (h1.ev rfl)) ?_)
        exact Tr.asg rfl rfl (Tr.asg rfl rfl (Tr.nil (Tr.zZ leJ266 (l274, (!zCs), (zG0 zCZ (1 : Int).toNat 1 zCC), (zCC - (1 : Int).toNat)) ⟨H, (Sl.cut zEM hl274)⟩ (.cons rfl (.cons rfl (.cons rfl (.cons rfl (.cons rfl (.cons rfl (.cons rfl (.cons rfl .nil)))))))) (.cons rfl .nil))))
       ·exact Tr.skip (Tr.zZ leJ266 (WZ, zCs, zCZ, zCC) ⟨H, zEM⟩ (.cons rfl (.cons rfl (.cons rfl (.cons rfl (.cons rfl (.cons rfl (.cons rfl (.cons rfl .nil)))))))) (.cons rfl .nil))
     ·intro w s hlJ267 hs
      obtain ⟨l264, x265, Al264, cl264⟩ := s
      obtain ⟨H, hl264⟩ := hs
      replace H : WE p2 Vs zBk (zAI p2 mL7) zCr zHq zHW l264 x265 = some r := H
      replace hl256 := hl256.leR hlJ267
      replace hf2 := fun w' he => hf2 w' (hlJ267.ext.trans he)
      replace zJS := zJS.trans hlJ267
      replace hl264 : Sl w.R w.W zn Al264 cl264 l264 := hl264
      unfold WE at H
      show Tr _ _ (LF [(0, (.slice Al256 zHq.length cl256)), (1, (.slice Al264 l264.length cl264)), (2, (.func (.func fid2) #[] cap2.toArray)), (7, (.slice WX Vs.length WT)), (8, (.bool zHW)), (9, (.bool x265)), (10, (.bool zBk)), (11, (iv zCr))]) (LE [(2, ow WX WT 3 zn Vs)]) _
      refine Tr.sr (Tr.mv rfl rfl (Tr.mv rfl rfl (Tr.mv rfl rfl ?_)))
      obtain ⟨y268, hy268, H⟩ := bnd H
      refine Tr.callF (r := (.bool y268)) (wn rfl) rfl rfl hg2 (zF rfl (zF rfl zO)) (fun W hW => hf2 hW.all hW.QZ zHW x265 _ hy268) ?_
      refine Tr.asg rfl rfl (Tr.nil (Tr.zA (Tr.sr (Tr.mv rfl rfl (Tr.mv rfl rfl (Tr.va rfl (fun _ _ h1 h2 => run_neqB un_4 (h1.ev rfl) (h1.ev rfl)) ?_))))))
      refine Tr.nil (Tr.zA (Tr.cond rfl H (fun H => ?_) (fun H => ?_)))
      ·refine Tr.region (Tr.mv rfl rfl (Tr.mv rfl rfl (Tr.buildSlice 5 (e := 3) (vs := [(0, (iv zCr))]) (cs := [(iv zCr)]) (wn rfl) rfl (zi rfl Qb) (by kernel_rfl) fun b269 => ?_)))
       obtain ⟨l270, hl270, H⟩ := bnd H
       refine Tr.append 2 (t := zn) (l := Vs) (l2 := [zCr]) (wn rfl) rfl rfl rfl rfl (fun W hW => ⟨[[(iv zCr)]], (.cons ⟨(), trivial, rfl⟩ .nil), rdb hW (vs := [(iv zCr)]) (k := 5) rfl 0⟩) zCA zIz zl_3 (by decide) by_3 rfl hl270 fun Al270 cl270 hAl270 => ?_
       refine Tr.mv rfl rfl (Tr.asg rfl rfl (Tr.asg rfl rfl (Tr.nil (Tr.zW ?_))))
       exact Tr.zZ zJS (zHq, l264, l270, zHW, x265, y268, Al256, cl256, Al264, cl264, Al270, cl270) ⟨H, hl256, hl264, hAl270⟩ (.cons rfl (.cons rfl (.cons rfl (.cons rfl (.cons rfl (.cons rfl (.cons rfl .nil))))))) (.cons rfl .nil)
      ·refine Tr.skip (Tr.zW ?_)
       exact Tr.zZ zJS (zHq, l264, Vs, zHW, x265, zBk, Al256, cl256, Al264, cl264, WX, WT) ⟨H, hl256, hl264, hl232⟩ (.cons rfl (.cons rfl (.cons rfl (.cons rfl (.cons rfl (.cons rfl (.cons rfl .nil))))))) (.cons rfl .nil)
  ·refine Tr.exit (Tr.zX (Tr.zX (Tr.zAC (Tr.zA (Tr.sr (Tr.mv rfl rfl (Tr.asg rfl rfl (Tr.nil (Tr.zA (Tr.ret ?_))))))))))
   obtain rfl := Option.some.inj H
   exact Tr.out (m := [(.slice WX Vs.length WT)]) [] (zP rfl zQ) (fun W hW => ⟨(WX, WT), rfl, hl232, HF.zHZ leB (hW.pick (ks := [2]) (by decide) (zM rfl zY)) ⟨zE4 _ _ _ _ tr_i64, trivial⟩⟩)

theorem zGX (N : Nat) {w : Bs} (p0 : (List zV)) (QA : Option Addr) (QB : Nat) (QE : Sl w.O w.W zJ QA QB p0) (p1 : (List zV)) (QG : Option Addr) (QH : Nat) (QV : Sl w.O w.W zJ QG QH p1) (p2 : Bool → Bool → Option Bool) (fid2 : Nat) (cap2 : List Value) (hg2 : ∀ args W, (callFunc fid2 args).run Tryz.prog W = .ok (.enter fid2 args) W) (hf2 : ∀ (w' : Bs), w.Ext w' → ∀ (z0 : Bool) (z1 : Bool), ∀ y, p2 z0 z1 = some y → Calls Tryz.prog fid2 (([(.bool z0), (.bool z1)] : List Value) ++ cap2).toArray w'.W fun e W'' => e = .returned (.bool y) ∧ HF w' W'' E0) (r : (List zV)) (H : zBS N p0 p1 p2 = some r) (hE : HF w w.W (LEn [emp])) : Calls Tryz.prog 61 [(.slice QA p0.length QB), (.slice QG p1.length QH), (.func (.func fid2) #[] cap2.toArray)].toArray w.W fun e W' => ∃ (w' : Bs) (u : (Option Addr × Nat)), w.Le w' ∧ e = .returned (.slice u.1 r.length u.2) ∧ (SlF u.1 r.length u.2) ∧ HF w' W' (LEn [ow u.1 u.2 107 zJ r]) := by
 unfold zBS at H
 have leB := Bs.Le.refl w
 refine Tr.enter (n := 126) Tryz.func61 rfl rfl rfl hE ?_
 refine Tr.sr (Tr.asg rfl rfl (Tr.JS 1 107 zJ ?_))
 show Tr _ _ (uf _ 6 (.slice none (([] : List zV)).length 0)) _ _
 refine Tr.nil (Tr.zA (Tr.sr (Tr.asg rfl rfl (Tr.JS 2 107 zJ ?_))))
 show Tr _ _ (uf _ 7 (.slice none (([] : List zV)).length 0)) _ _
 refine Tr.nil (Tr.zA (Tr.seq (Tr.sr (Tr.mv rfl rfl (Tr.va rfl (fun _ _ h1 h2 => zq zEE (h1.ev rfl)) ?_)))))
 refine Tr.mv rfl rfl (Tr.va rfl (fun _ _ h1 h2 => zq zEE (h1.ev rfl)) ?_)
 refine Tr.va rfl (fun _ _ h1 h2 => zx (h1.ev rfl) (h1.ev rfl)) ?_
 refine Tr.va rfl (fun _ _ h1 h2 => Qk (h1.ev rfl) (h1.ev rfl)) ?_
 refine Tr.nil (Tr.zA (Tr.cond rfl H (fun H => ?_) (fun H => ?_)))
 ·refine Tr.sr (Tr.asg rfl rfl (Tr.JS 3 107 zJ ?_))
  show Tr _ _ (uf _ 6 (.slice none (([] : List zV)).length 0)) _ _
  refine Tr.nil (Tr.zA (Tr.ret (Tr.zU ?_)))
  obtain rfl := Option.some.inj H
  exact Tr.out (m := [(.slice none (([] : List zV)).length 0)]) [] (zP rfl zQ) (fun W hW => ⟨w, (none, 0), leB, rfl, VD, hW.pick (ks := [3]) (by decide) (zM rfl zY)⟩)
 ·refine Tr.skip (Tr.zA (Tr.sr (Tr.asg rfl rfl (Tr.asg rfl rfl (Tr.nil (Tr.zA (Tr.seq (Tr.sr (Tr.mv rfl rfl (Tr.mv rfl rfl ?_))))))))))
  refine Tr.buildSlice 4 (e := 66) (vs := [(0, (.slice QA p0.length QB)), (1, (.slice QG p1.length QH))]) (cs := [(.slice QA p0.length QB), (.slice QG p1.length QH)]) (wn rfl) rfl (zi rfl (zi rfl Qb)) (by kernel_rfl) fun QM => ?_
  refine Tr.va rfl (fun _ _ h1 h2 => zq un_75 (h1.ev rfl)) ?_
  refine Tr.mv rfl rfl (Tr.nil (Tr.zA (Tr.block (Tr.own 4 Qe [p0, p1] (css := [[(.slice QA p0.length QB)], [(.slice QG p1.length QH)]]) rfl (.cons ⟨(QA, QB), QE, rfl⟩ (.cons ⟨(QG, QH), QV, rfl⟩ .nil)) rfl (by decide) (zCx rfl) ?_))))
  refine Tr.ren 4 9 rfl rfl rfl ?_
  refine Tr.loop (σ := Int × Int × (List (List zV)) × Int × (Option Addr) × Nat) (fun m w s => zAF N p0 p1 p2 m s.1 s.2.1 s.2.2.1 s.2.2.2.1 = some r ∧ SlF s.2.2.2.2.1 s.2.2.1.length s.2.2.2.2.2) (fun s => [(0, (.slice QA p0.length QB)), (1, (.slice QG p1.length QH)), (2, (.func (.func fid2) #[] cap2.toArray)), (7, (.slice none (([] : List zV)).length 0)), (8, (iv s.1)), (9, (iv s.2.1)), (25, (.slice s.2.2.2.2.1 s.2.2.1.length s.2.2.2.2.2)), (26, (iv 2)), (27, (iv s.2.2.2.1))]) (fun s => [(2, ow none 0 107 zJ ([] : List zV)), (9, ow s.2.2.2.2.1 s.2.2.2.2.2 66 Qe s.2.2.1)]) N (0, 0, [p0, p1], 0, (some ⟨QM, 0, none⟩), 2) ⟨H, (lit_form QM rfl)⟩ (.cons rfl (.cons rfl (.cons rfl (.cons rfl (.cons rfl (.cons rfl (.cons rfl (.cons rfl (.cons rfl .nil))))))))) (.cons rfl (.cons rfl .nil)) (fun _ _ h => zAi (h.1)) ?_
  intro w VK mL3 s hs
  obtain ⟨x150, x151, zB2, x153, zCn, zCl⟩ := s
  obtain ⟨H, zI9⟩ := hs
  replace H : zAF N p0 p1 p2 (mL3 + 1) x150 x151 zB2 x153 = some r := H
  replace QE := QE.le VK
  replace QV := QV.le VK
  replace hf2 := fun w' he => hf2 w' (VK.ext.trans he)
  replace leB := leB.trans VK
  replace zI9 : SlF zCn zB2.length zCl := zI9
  rw [zAF.eq_2] at H
  show Tr _ _ (LF [(0, (.slice QA p0.length QB)), (1, (.slice QG p1.length QH)), (2, (.func (.func fid2) #[] cap2.toArray)), (7, (.slice none (([] : List zV)).length 0)), (8, (iv x150)), (9, (iv x151)), (25, (.slice zCn zB2.length zCl)), (26, (iv 2)), (27, (iv x153))]) (LE [(2, ow none 0 107 zJ ([] : List zV)), (9, ow zCn zCl 66 Qe zB2)]) _
  refine Tr.sr (Tr.va rfl (fun _ _ h1 h2 => zz (h1.ev rfl) (h1.ev rfl)) ?_)
  refine Tr.nil (Tr.zA (Tr.seq (Tr.cond rfl H (fun H => ?_) (fun H => ?_))))
  ·refine Tr.skip (Tr.zA (Tr.seq (Tr.block (Tr.sr (Tr.mv rfl rfl ?_)))))
   obtain ⟨zFR, hx154, H⟩ := bnd H
   obtain ⟨hx1540, hx1541, hx1542⟩ := zh hx154
   refine Tr.va rfl (fun _ _ h1 h2 => zH el_75 (h1.ev rfl) zI9 (h1.ev rfl) hx1540 hx1541) ?_
   refine Tr.valE (U := (Qe).Ad) (fun u => (Qe).ok w.O w.W u zFR) (fun u => (.slice u.1 zFR.length u.2)) (wn rfl) rfl (ldN (κ := 9) (t := Qe) (V := fun u => (.slice u.1 zFR.length u.2)) rfl hx1542 (fun _ _ u h1 hc => zC ag_66 (h1.ev rfl) hc rfl)) ?_
   intro u155 hoku155
   obtain ⟨zDk, zIm⟩ := u155
   have Ws := hoku155
   replace Ws : Sl w.O w.W zJ zDk zIm zFR := Ws
   show Tr _ _ (uf _ 31 (.slice zDk zFR.length zIm)) _ _
   refine Tr.asg rfl rfl (Tr.asg rfl rfl (Tr.nil (Tr.zA (Tr.sr (Tr.mv rfl rfl (Tr.va rfl (fun _ _ h1 h2 => zq zEE (h1.ev rfl)) ?_))))))
   refine Tr.va rfl (fun _ _ h1 h2 => VI (h1.ev rfl) (h1.ev rfl)) ?_
   refine Tr.nil (Tr.zA (Tr.cond rfl H (fun H => ?_) (fun H => ?_)))
   ·have leJ162 := Bs.Le.refl w
    refine Tr.cutJ (σ := Int × Int) (fun w s => VB zB2 x153 (zAF N p0 p1 p2 mL3) zFR s.1 s.2 = some r) (fun s => [(0, (.slice QA p0.length QB)), (1, (.slice QG p1.length QH)), (2, (.func (.func fid2) #[] cap2.toArray)), (7, (.slice none (([] : List zV)).length 0)), (8, (iv s.1)), (9, (iv s.2)), (11, (.slice zDk zFR.length zIm)), (25, (.slice zCn zB2.length zCl)), (26, (iv 2)), (27, (iv x153))]) (fun s => [(2, ow none 0 107 zJ ([] : List zV)), (9, ow zCn zCl 66 Qe zB2)]) ?_ ?_
    ·refine Tr.sr (Tr.mv rfl rfl (Tr.va rfl (fun _ _ h1 h2 => Qk (h1.ev rfl) (h1.ev rfl)) ?_))
     refine Tr.mv rfl rfl (Tr.VR 4 [(0, (.slice QA p0.length QB)), (1, (.slice QG p1.length QH)), (2, (.func (.func fid2) #[] cap2.toArray)), (7, (.slice none (([] : List zV)).length 0)), (8, (iv x150)), (9, (iv x151)), (11, (.slice zDk zFR.length zIm)), (25, (.slice zCn zB2.length zCl)), (26, (iv 2)), (27, (iv x153)), (41, (.bool ((x153 == 0) || ((p0.length : Int) == 0))))] [(2, ow none 0 107 zJ ([] : List zV)), (9, ow zCn zCl 66 Qe zB2)] ?_ ?_)
     ·cases hg171 : (x153 == 0)
      ·refine Tr.val (wg rfl rfl rfl) rfl (fun _ _ h1 h2 => run_move (h1.ev rfl)) ?_
       refine Tr.val (wg rfl rfl rfl) rfl (fun _ _ h1 h2 => zq zEE (h1.ev rfl)) ?_
       refine Tr.val (wg rfl rfl rfl) rfl (fun _ _ h1 h2 => Qk (h1.ev rfl) (h1.ev rfl)) ?_
       refine Tr.va rfl (fun _ _ h1 h2 => zf (h1.ev rfl) (h1.ev rfl)) ?_
       exact Tr.nil (Tr.Qo (.cons rfl (.cons rfl (.cons rfl (.cons rfl (.cons rfl (.cons rfl (.cons rfl (.cons rfl (.cons rfl (.cons rfl (.cons rfl .nil))))))))))) (.cons rfl (.cons rfl .nil)))
      ·refine Tr.pass rfl rfl rfl rfl rfl (by decide) ?_
       refine Tr.pass rfl rfl rfl rfl rfl (by decide) ?_
       refine Tr.pass rfl rfl rfl rfl rfl (by decide) ?_
       refine Tr.va rfl (fun _ _ h1 h2 => ze (h1.ev rfl) (h1.ev rfl)) ?_
       exact Tr.nil (Tr.Qo (.cons rfl (.cons rfl (.cons rfl (.cons rfl (.cons rfl (.cons rfl (.cons rfl (.cons rfl (.cons rfl (.cons rfl (.cons rfl .nil))))))))))) (.cons rfl (.cons rfl .nil)))
     ·show Tr _ _ (LF [(0, (.slice QA p0.length QB)), (1, (.slice QG p1.length QH)), (2, (.func (.func fid2) #[] cap2.toArray)), (7, (.slice none (([] : List zV)).length 0)), (8, (iv x150)), (9, (iv x151)), (11, (.slice zDk zFR.length zIm)), (25, (.slice zCn zB2.length zCl)), (26, (iv 2)), (27, (iv x153)), (41, (.bool ((x153 == 0) || ((p0.length : Int) == 0))))]) (LE [(2, ow none 0 107 zJ ([] : List zV)), (9, ow zCn zCl 66 Qe zB2)]) _
      refine Tr.nil (Tr.zA (Tr.cond rfl H (fun H => ?_) (fun H => ?_)))
      ·refine Tr.draw (by kernel_rfl) (by kernel_rfl) ?_
       refine Tq.mv rfl rfl ?_
       obtain ⟨x168, hx168, H⟩ := bnd H
       obtain ⟨hx1680, hx1681, hx1682⟩ := zh hx168
       obtain ⟨u169, hRu169, hoku169, hcu169⟩ := (Ws).el hx1682
       obtain ⟨Au169_0, cu169_0⟩ := u169
       have hoku169_0 := hoku169
       replace hRu169 : w.R (adB zDk) := Or.inl hRu169
       refine Tq.va rfl (fun _ _ h1 h2 => zH zCB (h1.ev rfl) Ws.form (h1.ev rfl) hx1680 hx1681) ?_
       refine Tq.va rfl (fun _ _ h1 h2 => zB zDt (h1.ev rfl)) ?_
       refine Tq.va rfl (fun _ _ h1 h2 => zC QO (h1.ev rfl) (zL.drop (rdR hRu169 hcu169 h2) 0) rfl) ?_
       refine Tq.mv rfl rfl (Tq.mv rfl rfl (Tq.va rfl (fun _ _ h1 h2 => zq zEE (h1.ev rfl)) ?_))
       refine Tq.va rfl (fun _ _ h1 h2 => Wm (h1.ev rfl) (h1.ev rfl)) ?_
       obtain ⟨zEt, hx170, H⟩ := bnd H
       obtain ⟨hx1700, hx1701, hx1702⟩ := zh hx170
       obtain ⟨u171, hRu171, hoku171, hcu171⟩ := (Ws).el hx1702
       obtain ⟨Au171_0, cu171_0⟩ := u171
       have hoku171_0 := hoku171
       replace hRu171 : w.R (adB zDk) := Or.inl hRu171
       refine Tq.va rfl (fun _ _ h1 h2 => zH zCB (h1.ev rfl) Ws.form (h1.ev rfl) hx1700 hx1701) ?_
       refine Tq.va rfl (fun _ _ h1 h2 => zB zBr (h1.ev rfl)) ?_
       refine Tq.va rfl (fun _ _ h1 h2 => zC QO (h1.ev rfl) (zL.drop (rdR hRu171 hcu171 h2) 1) rfl) ?_
       exact Tq.asg rfl rfl (Tq.asg rfl rfl (Tq.nil (Tr.zZ leJ162 (x168.Y0, zEt.Y1) H (.cons rfl (.cons rfl (.cons rfl (.cons rfl (.cons rfl (.cons rfl (.cons rfl (.cons rfl (.cons rfl (.cons rfl .nil)))))))))) (.cons rfl (.cons rfl .nil)))))
      ·exact Tr.skip (Tr.zZ leJ162 (x150, x151) H (.cons rfl (.cons rfl (.cons rfl (.cons rfl (.cons rfl (.cons rfl (.cons rfl (.cons rfl (.cons rfl (.cons rfl .nil)))))))))) (.cons rfl (.cons rfl .nil)))
    ·intro w s hlJ163 hs
     obtain ⟨x160, x161⟩ := s
     have H := hs
     replace H : VB zB2 x153 (zAF N p0 p1 p2 mL3) zFR x160 x161 = some r := H
     replace hf2 := fun w' he => hf2 w' (hlJ163.ext.trans he)
     replace Ws := Ws.le hlJ163
     replace VK := VK.trans hlJ163
     unfold VB at H
     show Tr _ _ (LF [(0, (.slice QA p0.length QB)), (1, (.slice QG p1.length QH)), (2, (.func (.func fid2) #[] cap2.toArray)), (7, (.slice none (([] : List zV)).length 0)), (8, (iv x160)), (9, (iv x161)), (11, (.slice zDk zFR.length zIm)), (25, (.slice zCn zB2.length zCl)), (26, (iv 2)), (27, (iv x153))]) (LE [(2, ow none 0 107 zJ ([] : List zV)), (9, ow zCn zCl 66 Qe zB2)]) _
     refine Tr.draw (by kernel_rfl) (by kernel_rfl) ?_
     refine Tq.mv rfl rfl (Tq.mv rfl rfl ?_)
     obtain ⟨Qn, hx164, H⟩ := bnd H
     obtain ⟨hx1640, hx1641, hx1642⟩ := zh hx164
     obtain ⟨u165, hRu165, zKD, hcu165⟩ := (Ws).el hx1642
     obtain ⟨zDj, zDc⟩ := u165
     have zB3 := zKD
     replace hRu165 : w.R (adB zDk) := Or.inl hRu165
     refine Tq.va rfl (fun _ _ h1 h2 => zH zCB (h1.ev rfl) Ws.form (h1.ev rfl) hx1640 hx1641) ?_
     refine Tq.va rfl (fun _ _ h1 h2 => zB zDt (h1.ev rfl)) ?_
     refine Tq.va rfl (fun _ _ h1 h2 => zC QO (h1.ev rfl) (zL.drop (rdR hRu165 hcu165 h2) 0) rfl) ?_
     refine Tq.va rfl (fun _ _ h1 h2 => zFY (h1.ev rfl) (h1.ev rfl) _) ?_
     refine Tq.mv rfl rfl (Tq.mv rfl rfl (Tq.mv rfl rfl (Tq.va rfl (fun _ _ h1 h2 => zq zEE (h1.ev rfl)) ?_)))
     refine Tq.va rfl (fun _ _ h1 h2 => Wm (h1.ev rfl) (h1.ev rfl)) ?_
     obtain ⟨x166, hx166, H⟩ := bnd H
     obtain ⟨hx1660, hx1661, hx1662⟩ := zh hx166
     obtain ⟨u167, hRu167, hoku167, hcu167⟩ := (Ws).el hx1662
     obtain ⟨Au167_0, cu167_0⟩ := u167
     have hoku167_0 := hoku167
     replace hRu167 : w.R (adB zDk) := Or.inl hRu167
     refine Tq.va rfl (fun _ _ h1 h2 => zH zCB (h1.ev rfl) Ws.form (h1.ev rfl) hx1660 hx1661) ?_
     refine Tq.va rfl (fun _ _ h1 h2 => zB zBr (h1.ev rfl)) ?_
     refine Tq.va rfl (fun _ _ h1 h2 => zC QO (h1.ev rfl) (zL.drop (rdR hRu167 hcu167 h2) 1) rfl) ?_
     refine Tq.va rfl (fun _ _ h1 h2 => zFZ (h1.ev rfl) (h1.ev rfl) _) ?_
     refine Tq.asg rfl rfl (Tq.asg rfl rfl (Tq.nil (Tr.zW (Tr.zA ?_))))
     refine Tr.region (Tr.va rfl (fun _ _ h1 h2 => zx (h1.ev rfl) (h1.ev rfl)) ?_)
     exact Tr.mv rfl rfl (Tr.nil (Tr.zZ VK ((min x160 Qn.Y0), (max x161 x166.Y1), zB2, (w64 (x153 + 1)), zCn, zCl) ⟨H, zI9⟩ (.cons rfl (.cons rfl (.cons rfl (.cons rfl (.cons rfl (.cons rfl (.cons rfl (.cons rfl (.cons rfl .nil))))))))) (.cons rfl (.cons rfl .nil))))
   ·refine Tr.skip (Tr.zW (Tr.zA ?_))
    refine Tr.region (Tr.va rfl (fun _ _ h1 h2 => zx (h1.ev rfl) (h1.ev rfl)) ?_)
    exact Tr.mv rfl rfl (Tr.nil (Tr.zZ VK (x150, x151, zB2, (w64 (x153 + 1)), zCn, zCl) ⟨H, zI9⟩ (.cons rfl (.cons rfl (.cons rfl (.cons rfl (.cons rfl (.cons rfl (.cons rfl (.cons rfl (.cons rfl .nil))))))))) (.cons rfl (.cons rfl .nil))))
  ·refine Tr.exit (Tr.zX (Tr.zX (Tr.zAC (Tr.zA (Tr.seq (Tr.block (Tr.loop (σ := (List zV) × (List zV) × (List zV) × Int × (Option Addr) × Nat × (Option Addr) × Nat × (Option Addr) × Nat) (fun m w s => JF N p2 x151 m s.1 s.2.1 s.2.2.1 s.2.2.2.1 = some r ∧ Sl w.O w.W zJ s.2.2.2.2.1 s.2.2.2.2.2.1 s.1 ∧ Sl w.O w.W zJ s.2.2.2.2.2.2.1 s.2.2.2.2.2.2.2.1 s.2.1 ∧ SlF s.2.2.2.2.2.2.2.2.1 s.2.2.1.length s.2.2.2.2.2.2.2.2.2) (fun s => [(0, (.slice s.2.2.2.2.1 s.1.length s.2.2.2.2.2.1)), (1, (.slice s.2.2.2.2.2.2.1 s.2.1.length s.2.2.2.2.2.2.2.1)), (2, (.func (.func fid2) #[] cap2.toArray)), (7, (.slice s.2.2.2.2.2.2.2.2.1 s.2.2.1.length s.2.2.2.2.2.2.2.2.2)), (8, (iv s.2.2.2.1)), (9, (iv x151))]) (fun s => [(2, ow s.2.2.2.2.2.2.2.2.1 s.2.2.2.2.2.2.2.2.2 107 zJ s.2.2.1)]) N (p0, p1, ([] : List zV), x150, QA, QB, QG, QH, none, 0) ⟨H, QE, QV, VD⟩ (.cons rfl (.cons rfl (.cons rfl (.cons rfl (.cons rfl (.cons rfl .nil)))))) (.cons rfl .nil) (fun _ _ h => zAi (h.1)) ?_)))))))
   intro w zEB mL9 s hs
   obtain ⟨l292, zJV, zBg, zCL, Al292, cl292, Al293, cl293, zBz, zBs⟩ := s
   obtain ⟨H, hl292, hl293, hl294⟩ := hs
   replace H : JF N p2 x151 (mL9 + 1) l292 zJV zBg zCL = some r := H
   replace hf2 := fun w' he => hf2 w' (zEB.ext.trans he)
   replace leB := leB.trans zEB
   replace hl292 : Sl w.O w.W zJ Al292 cl292 l292 := hl292
   replace hl293 : Sl w.O w.W zJ Al293 cl293 zJV := hl293
   replace hl294 : SlF zBz zBg.length zBs := hl294
   rw [JF.eq_2] at H
   show Tr _ _ (LF [(0, (.slice Al292 l292.length cl292)), (1, (.slice Al293 zJV.length cl293)), (2, (.func (.func fid2) #[] cap2.toArray)), (7, (.slice zBz zBg.length zBs)), (8, (iv zCL)), (9, (iv x151))]) (LE [(2, ow zBz zBs 107 zJ zBg)]) _
   refine Tr.seq (Tr.sr (Tr.mv rfl rfl (Tr.mv rfl rfl (Tr.va rfl (fun _ _ h1 h2 => zz (h1.ev rfl) (h1.ev rfl)) ?_))))
   refine Tr.nil (Tr.zA (Tr.cond rfl H (fun H => ?_) (fun H => ?_)))
   ·refine Tr.skip (Tr.zA (Tr.block (Tr.seq (Tr.block (Tr.loop (σ := (List zV) × (Option Addr) × Nat) (fun m w s => Kk N p2 x151 zJV zBg zCL (JF N p2 x151 mL9) m s.1 = some r ∧ Sl w.O w.W zJ s.2.1 s.2.2 s.1) (fun s => [(0, (.slice s.2.1 s.1.length s.2.2)), (1, (.slice Al293 zJV.length cl293)), (2, (.func (.func fid2) #[] cap2.toArray)), (7, (.slice zBz zBg.length zBs)), (8, (iv zCL)), (9, (iv x151))]) (fun s => [(2, ow zBz zBs 107 zJ zBg)]) N (l292, Al292, cl292) ⟨H, hl292⟩ (.cons rfl (.cons rfl (.cons rfl (.cons rfl (.cons rfl (.cons rfl .nil)))))) (.cons rfl .nil) (fun _ _ h => zAi (h.1)) ?_)))))
    intro w zFd mL10 s hs
    obtain ⟨zEV, zHR, zHM⟩ := s
    obtain ⟨H, zDG⟩ := hs
    replace H : Kk N p2 x151 zJV zBg zCL (JF N p2 x151 mL9) (mL10 + 1) zEV = some r := H
    replace hl293 := hl293.le zFd
    replace hf2 := fun w' he => hf2 w' (zFd.ext.trans he)
    replace zEB := zEB.trans zFd
    replace zDG : Sl w.O w.W zJ zHR zHM zEV := zDG
    rw [Kk.eq_2] at H
    show Tr _ _ (LF [(0, (.slice zHR zEV.length zHM)), (1, (.slice Al293 zJV.length cl293)), (2, (.func (.func fid2) #[] cap2.toArray)), (7, (.slice zBz zBg.length zBs)), (8, (iv zCL)), (9, (iv x151))]) (LE [(2, ow zBz zBs 107 zJ zBg)]) _
    refine Tr.seq (Tr.sr (Tr.mv rfl rfl (Tr.va rfl (fun _ _ h1 h2 => zq zEE (h1.ev rfl)) ?_)))
    refine Tr.va rfl (fun _ _ h1 h2 => VI (h1.ev rfl) (h1.ev rfl)) ?_
    refine Tr.mv rfl rfl ?_
    obtain ⟨g314, hg314, H⟩ := bnd H
    refine Tr.VR 7 [(0, (.slice zHR zEV.length zHM)), (1, (.slice Al293 zJV.length cl293)), (2, (.func (.func fid2) #[] cap2.toArray)), (7, (.slice zBz zBg.length zBs)), (8, (iv zCL)), (9, (iv x151)), (82, (.bool g314))] [(2, ow zBz zBs 107 zJ zBg)] ?_ ?_
    ·cases hg349 : (decide (0 < (zEV.length : Int)))
     ·rw [hg349] at hg314
      rw [if_neg (by decide)] at hg314
      have H := hg314
      obtain rfl := Option.some.inj H
      refine Tr.pass rfl rfl rfl rfl rfl (by decide) ?_
      refine Tr.pass rfl rfl rfl rfl rfl (by decide) ?_
      refine Tr.pass rfl rfl rfl rfl rfl (by decide) ?_
      refine Tr.pass rfl rfl rfl rfl rfl (by decide) ?_
      refine Tr.pass rfl rfl rfl rfl rfl (by decide) ?_
      refine Tr.pass rfl rfl rfl rfl rfl (by decide) ?_
      refine Tr.va rfl (fun _ _ h1 h2 => zf (h1.ev rfl) (h1.ev rfl)) ?_
      exact Tr.nil (Tr.Qo (.cons rfl (.cons rfl (.cons rfl (.cons rfl (.cons rfl (.cons rfl (.cons rfl .nil))))))) (.cons rfl .nil))
     ·rw [hg349] at hg314
      rw [if_pos rfl] at hg314
      have H := hg314
      refine Tr.val (wg rfl rfl rfl) rfl (fun _ _ h1 h2 => run_move (h1.ev rfl)) ?_
      obtain ⟨x315, hx315, H⟩ := bnd H
      obtain ⟨hx3150, hx3151, hx3152⟩ := zh hx315
      obtain ⟨u316, hRu316, hoku316, hcu316⟩ := (zDG).el hx3152
      obtain ⟨Au316_0, cu316_0⟩ := u316
      have hoku316_0 := hoku316
      replace hRu316 : w.R (adB zHR) := Or.inl hRu316
      refine Tr.val (wg rfl rfl rfl) rfl (fun _ _ h1 h2 => zH zCB (h1.ev rfl) zDG.form (h1.ev rfl) hx3150 hx3151) ?_
      refine Tr.val (wg rfl rfl rfl) rfl (fun _ _ h1 h2 => zB zBr (h1.ev rfl)) ?_
      refine Tr.val (wg rfl rfl rfl) rfl (fun _ _ h1 h2 => zC QO (h1.ev rfl) (zL.drop (rdR hRu316 hcu316 h2) 1) rfl) ?_
      refine Tr.val (wg rfl rfl rfl) rfl (fun _ _ h1 h2 => run_move (h1.ev rfl)) ?_
      refine Tr.val (wg rfl rfl rfl) rfl (fun _ _ h1 h2 => zA8 (h1.ev rfl) (h1.ev rfl)) ?_
      refine Tr.va rfl (fun _ _ h1 h2 => ze (h1.ev rfl) (h1.ev rfl)) ?_
      obtain rfl := Option.some.inj H
      exact Tr.nil (Tr.Qo (.cons rfl (.cons rfl (.cons rfl (.cons rfl (.cons rfl (.cons rfl (.cons rfl .nil))))))) (.cons rfl .nil))
    ·show Tr _ _ (LF [(0, (.slice zHR zEV.length zHM)), (1, (.slice Al293 zJV.length cl293)), (2, (.func (.func fid2) #[] cap2.toArray)), (7, (.slice zBz zBg.length zBs)), (8, (iv zCL)), (9, (iv x151)), (82, (.bool g314))]) (LE [(2, ow zBz zBs 107 zJ zBg)]) _
     refine Tr.nil (Tr.zA (Tr.cond rfl H (fun H => ?_) (fun H => ?_)))
     ·refine Tr.skip (Tr.zA (Tr.block (Tr.region (Tr.mv rfl rfl ?_))))
      obtain ⟨l317, hl317, H⟩ := bnd H
      refine Tr.va rfl (fun _ _ h1 h2 => zHo zCB (h1.ev rfl) zDG.form (h1.ev rfl) hl317) ?_
      refine Tr.asg rfl rfl (Tr.nil (Tr.zW ?_))
      exact Tr.zZ zFd (l317, (zG0 zHR (1 : Int).toNat 3 zHM), (zHM - (1 : Int).toNat)) ⟨H, (Sl.cut zDG hl317)⟩ (.cons rfl (.cons rfl (.cons rfl (.cons rfl (.cons rfl (.cons rfl .nil)))))) (.cons rfl .nil)
     ·refine Tr.exit (Tr.zX (Tr.zX (Tr.zAC (Tr.zA (Tr.seq (Tr.block (Tr.loop (σ := (List zV) × (Option Addr) × Nat) (fun m w s => Kj N p2 x151 zBg zCL (JF N p2 x151 mL9) zEV m s.1 = some r ∧ Sl w.O w.W zJ s.2.1 s.2.2 s.1) (fun s => [(0, (.slice zHR zEV.length zHM)), (1, (.slice s.2.1 s.1.length s.2.2)), (2, (.func (.func fid2) #[] cap2.toArray)), (7, (.slice zBz zBg.length zBs)), (8, (iv zCL)), (9, (iv x151))]) (fun s => [(2, ow zBz zBs 107 zJ zBg)]) N (zJV, Al293, cl293) ⟨H, hl293⟩ (.cons rfl (.cons rfl (.cons rfl (.cons rfl (.cons rfl (.cons rfl .nil)))))) (.cons rfl .nil) (fun _ _ h => zAi (h.1)) ?_)))))))
      intro w leL11 mL11 s hs
      obtain ⟨zJU, Al333, cl333⟩ := s
      obtain ⟨H, zEL⟩ := hs
      replace H : Kj N p2 x151 zBg zCL (JF N p2 x151 mL9) zEV (mL11 + 1) zJU = some r := H
      replace zDG := zDG.le leL11
      replace hf2 := fun w' he => hf2 w' (leL11.ext.trans he)
      replace zEB := zEB.trans leL11
      replace zEL : Sl w.O w.W zJ Al333 cl333 zJU := zEL
      rw [Kj.eq_2] at H
      show Tr _ _ (LF [(0, (.slice zHR zEV.length zHM)), (1, (.slice Al333 zJU.length cl333)), (2, (.func (.func fid2) #[] cap2.toArray)), (7, (.slice zBz zBg.length zBs)), (8, (iv zCL)), (9, (iv x151))]) (LE [(2, ow zBz zBs 107 zJ zBg)]) _
      refine Tr.seq (Tr.sr (Tr.mv rfl rfl (Tr.va rfl (fun _ _ h1 h2 => zq zEE (h1.ev rfl)) ?_)))
      refine Tr.va rfl (fun _ _ h1 h2 => VI (h1.ev rfl) (h1.ev rfl)) ?_
      refine Tr.mv rfl rfl ?_
      obtain ⟨g336, hg336, H⟩ := bnd H
      refine Tr.VR 7 [(0, (.slice zHR zEV.length zHM)), (1, (.slice Al333 zJU.length cl333)), (2, (.func (.func fid2) #[] cap2.toArray)), (7, (.slice zBz zBg.length zBs)), (8, (iv zCL)), (9, (iv x151)), (95, (.bool g336))] [(2, ow zBz zBs 107 zJ zBg)] ?_ ?_
      ·cases hg349 : (decide (0 < (zJU.length : Int)))
       ·rw [hg349] at hg336
        rw [if_neg (by decide)] at hg336
        have H := hg336
        obtain rfl := Option.some.inj H
        refine Tr.pass rfl rfl rfl rfl rfl (by decide) ?_
        refine Tr.pass rfl rfl rfl rfl rfl (by decide) ?_
        refine Tr.pass rfl rfl rfl rfl rfl (by decide) ?_
        refine Tr.pass rfl rfl rfl rfl rfl (by decide) ?_
        refine Tr.pass rfl rfl rfl rfl rfl (by decide) ?_
        refine Tr.pass rfl rfl rfl rfl rfl (by decide) ?_
        refine Tr.va rfl (fun _ _ h1 h2 => zf (h1.ev rfl) (h1.ev rfl)) ?_
        exact Tr.nil (Tr.Qo (.cons rfl (.cons rfl (.cons rfl (.cons rfl (.cons rfl (.cons rfl (.cons rfl .nil))))))) (.cons rfl .nil))
       ·rw [hg349] at hg336
        rw [if_pos rfl] at hg336
        have H := hg336
        refine Tr.val (wg rfl rfl rfl) rfl (fun _ _ h1 h2 => run_move (h1.ev rfl)) ?_
        obtain ⟨x337, hx337, H⟩ := bnd H
        obtain ⟨hx3370, hx3371, hx3372⟩ := zh hx337
        obtain ⟨u338, hRu338, hoku338, hcu338⟩ := (zEL).el hx3372
        obtain ⟨Au338_0, cu338_0⟩ := u338
        have hoku338_0 := hoku338
        replace hRu338 : w.R (adB Al333) := Or.inl hRu338
        refine Tr.val (wg rfl rfl rfl) rfl (fun _ _ h1 h2 => zH zCB (h1.ev rfl) zEL.form (h1.ev rfl) hx3370 hx3371) ?_
        refine Tr.val (wg rfl rfl rfl) rfl (fun _ _ h1 h2 => zB zBr (h1.ev rfl)) ?_
        refine Tr.val (wg rfl rfl rfl) rfl (fun _ _ h1 h2 => zC QO (h1.ev rfl) (zL.drop (rdR hRu338 hcu338 h2) 1) rfl) ?_
        refine Tr.val (wg rfl rfl rfl) rfl (fun _ _ h1 h2 => run_move (h1.ev rfl)) ?_
        refine Tr.val (wg rfl rfl rfl) rfl (fun _ _ h1 h2 => zA8 (h1.ev rfl) (h1.ev rfl)) ?_
        refine Tr.va rfl (fun _ _ h1 h2 => ze (h1.ev rfl) (h1.ev rfl)) ?_
        obtain rfl := Option.some.inj H
        exact Tr.nil (Tr.Qo (.cons rfl (.cons rfl (.cons rfl (.cons rfl (.cons rfl (.cons rfl (.cons rfl .nil))))))) (.cons rfl .nil))
      ·show Tr _ _ (LF [(0, (.slice zHR zEV.length zHM)), (1, (.slice Al333 zJU.length cl333)), (2, (.func (.func fid2) #[] cap2.toArray)), (7, (.slice zBz zBg.length zBs)), (8, (iv zCL)), (9, (iv x151)), (95, (.bool g336))]) (LE [(2, ow zBz zBs 107 zJ zBg)]) _
       refine Tr.nil (Tr.zA (Tr.cond rfl H (fun H => ?_) (fun H => ?_)))
       ·refine Tr.skip (Tr.zA (Tr.block (Tr.region (Tr.mv rfl rfl ?_))))
        obtain ⟨l339, hl339, H⟩ := bnd H
        refine Tr.va rfl (fun _ _ h1 h2 => zHo zCB (h1.ev rfl) zEL.form (h1.ev rfl) hl339) ?_
        refine Tr.asg rfl rfl (Tr.nil (Tr.zW ?_))
        exact Tr.zZ leL11 (l339, (zG0 Al333 (1 : Int).toNat 3 cl333), (cl333 - (1 : Int).toNat)) ⟨H, (Sl.cut zEL hl339)⟩ (.cons rfl (.cons rfl (.cons rfl (.cons rfl (.cons rfl (.cons rfl .nil)))))) (.cons rfl .nil)
       ·refine Tr.exit (Tr.zX (Tr.zX (Tr.zAC (Tr.zA (Tr.sr (Tr.mv rfl rfl (Tr.mv rfl rfl (Tr.mv rfl rfl ?_))))))))
        obtain ⟨zIw, hy340, H⟩ := bnd H
        refine Tr.VQ [] [] (U := (Option Addr × Nat)) (fun u => (.tuple #[(.slice u.1 zIw.1.length u.2), (iv zIw.2)])) (fun O W u => Sl O W zn u.1 u.2 zIw.1) (fun u => []) rfl zY (fun _ => rfl) (wn rfl) rfl Tryz.call90 (zF rfl (zF rfl (zF rfl zO))) (fun W hW hp hE => zFL zEV zHR zHM (zDG.zAl (hW.QS hp)) zCL x151 zIw hy340 hE) ?_
        intro w u le341 hu
        obtain ⟨Ay340_0, cy340_0⟩ := u
        have gy340_0 := hu
        replace zDG := zDG.le le341
        replace zEL := zEL.le le341
        replace hf2 := fun w' he => hf2 w' (le341.ext.trans he)
        replace zEB := zEB.trans le341
        have zFC : Sl w.O w.W zn Ay340_0 cy340_0 zIw.1 := gy340_0 --@phi
        show Tr _ _ (uf _ 102 (.tuple #[(.slice Ay340_0 zIw.1.length cy340_0), (iv zIw.2)])) (_) _
        refine Tr.mv rfl rfl (Tr.va rfl (fun _ _ h1 h2 => Qq (h1.ev rfl) rfl) ?_)
        refine Tr.va rfl (fun _ _ h1 h2 => Qq (h1.ev rfl) rfl) ?_
        refine Tr.asg rfl rfl (Tr.asg rfl rfl (Tr.nil (Tr.zA (Tr.sr (Tr.mv rfl rfl (Tr.mv rfl rfl (Tr.mv rfl rfl ?_)))))))
        obtain ⟨zIv, hy342, H⟩ := bnd H
        refine Tr.VQ [] [] (U := (Option Addr × Nat)) (fun u => (.tuple #[(.slice u.1 zIv.1.length u.2), (iv zIv.2)])) (fun O W u => Sl O W zn u.1 u.2 zIv.1) (fun u => []) rfl zY (fun _ => rfl) (wn rfl) rfl Tryz.call90 (zF rfl (zF rfl (zF rfl zO))) (fun W hW hp hE => zFL zJU Al333 cl333 (zEL.zAl (hW.QS hp)) zCL x151 zIv hy342 hE) ?_
        intro w u le343 hu
        obtain ⟨Ay342_0, cy342_0⟩ := u
        have gy342_0 := hu
        replace zDG := zDG.le le343
        replace zEL := zEL.le le343
        replace hf2 := fun w' he => hf2 w' (le343.ext.trans he)
        replace zFC := zFC.le le343
        replace zEB := zEB.trans le343
        have zHw : Sl w.O w.W zn Ay342_0 cy342_0 zIv.1 := gy342_0 --@phi
        show Tr _ _ (uf _ 109 (.tuple #[(.slice Ay342_0 zIv.1.length cy342_0), (iv zIv.2)])) (_) _
        refine Tr.mv rfl rfl (Tr.va rfl (fun _ _ h1 h2 => Qq (h1.ev rfl) rfl) ?_)
        refine Tr.va rfl (fun _ _ h1 h2 => Qq (h1.ev rfl) rfl) ?_
        refine Tr.asg rfl rfl (Tr.asg rfl rfl (Tr.nil (Tr.zA (Tr.sr (Tr.mv rfl rfl (Tr.mv rfl rfl (Tr.va rfl (fun _ _ h1 h2 => zFY (h1.ev rfl) (h1.ev rfl) _) ?_)))))))
        refine Tr.asg rfl rfl (Tr.nil (Tr.zA (Tr.sr (Tr.mv rfl rfl (Tr.mv rfl rfl (Tr.mv rfl rfl (Tr.mv rfl rfl (Tr.mv rfl rfl (Tr.mv rfl rfl ?_)))))))))
        obtain ⟨zJm, hy344, H⟩ := bnd H
        refine Tr.VP [12] [emp] (U := (Option Addr × Nat)) (fun u => (.slice u.1 zJm.length u.2)) (fun u => SlF u.1 zJm.length u.2) (fun u => [ow u.1 u.2 3 zn zJm]) rfl (zM rfl zY) (fun _ => rfl) (wn rfl) rfl Tryz.call91 (zF rfl (zF rfl (zF rfl zO))) (fun W hW hp hE => F_shape_line_ok N zIw.1 Ay340_0 cy340_0 (zFC.rl.ext (hW.QS hp)) zIv.1 Ay342_0 cy342_0 (zHw.rl.ext (hW.QS hp)) p2 fid2 cap2 hg2 (fun w' he => hf2 w' ((hW.QS hp).trans he)) zJm hy344 hE) ?_
        intro u hu
        obtain ⟨zIq, zIh⟩ := u
        have gy344_0 := hu
        have hgy344_0 : SlF zIq zJm.length zIh := gy344_0 --@phi
        show Tr _ _ (uf _ 121 (.slice zIq zJm.length zIh)) (up _ 12 (ow zIq zIh 3 zn zJm)) _
        refine Tr.build (vs := [(0, (iv zCL)), (1, (iv (min zIw.2 zIv.2))), (2, (.slice zIq zJm.length zIh))]) (cs := [(iv zCL), (iv (min zIw.2 zIv.2)), (.slice zIq zJm.length zIh)]) (wn rfl) rfl (zi rfl (zi rfl (zi rfl Qb))) (by kernel_rfl) ?_
        refine Tr.freeze 12 rfl fun w le347 hz346 => ?_
        replace zDG := zDG.le le347
        replace zEL := zEL.le le347
        replace hf2 := fun w' he => hf2 w' (le347.ext.trans he)
        replace zFC := zFC.le le347
        replace zHw := zHw.le le347
        replace zEB := zEB.trans le347
        obtain ⟨y348, hy348, H⟩ := bnd H
        refine Tr.VQ [2] [ow zBz zBs 107 zJ zBg] (U := (Option Addr × Nat)) (fun u => (.slice u.1 y348.length u.2)) (fun O W u => SlF u.1 y348.length u.2) (fun u => [ow u.1 u.2 107 zJ y348]) rfl (zM rfl zY) (fun _ => rfl) (wn rfl) rfl Tryz.call87 (zF rfl (zF rfl zO)) (fun W hW hp hE => zBw zBg zBz zBs (zV.mk zCL (min zIw.2 zIv.2) zJm) zIq zIh (hz346.zAl (hW.QS hp)) y348 hy348 hE) ?_
        intro w u le349 hu
        obtain ⟨Ay348_0, cy348_0⟩ := u
        have gy348_0 := hu
        replace zDG := zDG.le le349
        replace zEL := zEL.le le349
        replace hf2 := fun w' he => hf2 w' (le349.ext.trans he)
        replace zFC := zFC.le le349
        replace zHw := zHw.le le349
        replace hz346 := hz346.le le349
        replace zEB := zEB.trans le349
        have hgy348_0 : SlF Ay348_0 y348.length cy348_0 := gy348_0 --@phi
        show Tr _ _ (uf _ 123 (.slice Ay348_0 y348.length cy348_0)) (up _ 2 (ow Ay348_0 cy348_0 107 zJ y348)) _
        refine Tr.asg rfl rfl (Tr.nil (Tr.zA (Tr.region (Tr.mv rfl rfl (Tr.asg rfl rfl (Tr.nil (Tr.zW ?_)))))))
        exact Tr.zZ zEB (zEV, zJU, y348, (min zIw.2 zIv.2), zHR, zHM, Al333, cl333, Ay348_0, cy348_0) ⟨H, zDG, zEL, hgy348_0⟩ (.cons rfl (.cons rfl (.cons rfl (.cons rfl (.cons rfl (.cons rfl .nil)))))) (.cons rfl .nil)
   ·refine Tr.exit (Tr.zX (Tr.zX (Tr.zAC (Tr.zA (Tr.sr (Tr.mv rfl rfl (Tr.asg rfl rfl (Tr.nil (Tr.zA (Tr.ret ?_))))))))))
    obtain rfl := Option.some.inj H
    exact Tr.out (m := [(.slice zBz zBg.length zBs)]) [] (zP rfl zQ) (fun W hW => ⟨w, (zBz, zBs), leB, rfl, hl294, hW.pick (ks := [2]) (by decide) (zM rfl zY)⟩)

theorem zG8 {w : Bs} (p0 : Bool) (p1 : Bool) (r : Bool) (H : WN p0 p1 = some r) (hE : HF w w.W E0) : Calls Tryz.prog 171 [(.bool p0), (.bool p1)].toArray w.W fun e W' => e = .returned (.bool r) ∧ HF w W' E0 := by
 unfold WN at H
 have leB := Bs.Le.refl w
 refine Tr.enter (n := 10) Tryz.func171 rfl rfl rfl hE ?_
 refine Tr.sr (Tr.asg rfl rfl (Tr.nil (Tr.zA (Tr.sr (Tr.mv rfl rfl (Tr.mv rfl rfl (Tr.VR 3 [(9, (.bool (p0 && (!p1))))] [] ?_ ?_)))))))
 ·cases hg99 : p0
  ·refine Tr.pass rfl rfl rfl rfl rfl (by decide) ?_
   refine Tr.pass rfl rfl rfl rfl rfl (by decide) ?_
   refine Tr.va rfl (fun _ _ h1 h2 => zf (h1.ev rfl) (h1.ev rfl)) ?_
   exact Tr.nil (Tr.Qo (.cons rfl .nil) .nil)
  ·refine Tr.val (wg rfl rfl rfl) rfl (fun _ _ h1 h2 => run_move (h1.ev rfl)) ?_
   refine Tr.val (wg rfl rfl rfl) rfl (fun _ _ h1 h2 => JO (h1.ev rfl)) ?_
   refine Tr.va rfl (fun _ _ h1 h2 => ze (h1.ev rfl) (h1.ev rfl)) ?_
   exact Tr.nil (Tr.Qo (.cons rfl .nil) .nil)
 ·show Tr _ _ (LF [(9, (.bool (p0 && (!p1))))]) (LE []) _
  refine Tr.asg rfl rfl (Tr.nil (Tr.zA (Tr.ret ?_)))
  obtain rfl := Option.some.inj H
  exact Tr.out (m := [(.bool (p0 && (!p1)))]) [] (zP rfl zQ) (fun W hW => ⟨rfl, hW.low leB⟩)

theorem zIB (N : Nat) {w : Bs} (p0 : (List zV)) (QA : Option Addr) (QB : Nat) (QE : Sl w.O w.W zJ QA QB p0) (p1 : (List zV)) (QG : Option Addr) (QH : Nat) (QV : Sl w.O w.W zJ QG QH p1) (r : (List zV)) (H : Vy N p0 p1 = some r) (hE : HF w w.W (LEn [emp])) : Calls Tryz.prog 155 [(.slice QA p0.length QB), (.slice QG p1.length QH)].toArray w.W fun e W' => ∃ (w' : Bs) (u : (Option Addr × Nat)), w.Le w' ∧ e = .returned (.slice u.1 r.length u.2) ∧ (SlF u.1 r.length u.2) ∧ HF w' W' (LEn [ow u.1 u.2 107 zJ r]) := by
 unfold Vy at H
 have leB := Bs.Le.refl w
 refine Tr.enter (n := 8) Tryz.func155 rfl rfl rfl hE ?_
 refine Tr.sr (Tr.asg rfl rfl (Tr.JS 1 107 zJ ?_))
 show Tr _ _ (uf _ 4 (.slice none (([] : List zV)).length 0)) _ _
 refine Tr.nil (Tr.zA (Tr.sr (Tr.mv rfl rfl (Tr.mv rfl rfl ?_))))
 obtain ⟨QT, zBp, H⟩ := bnd H
 refine Tr.VQ [2] [emp] (U := (Option Addr × Nat)) (fun u => (.slice u.1 QT.length u.2)) (fun O W u => SlF u.1 QT.length u.2) (fun u => [ow u.1 u.2 107 zJ QT]) rfl (zM rfl zY) (fun _ => rfl) (wn rfl) rfl Tryz.call61 (zF rfl (zF rfl (zF rfl zO))) (fun W hW hp hE => zGX N p0 QA QB (QE.zAl (hW.QS hp)) p1 QG QH (QV.zAl (hW.QS hp)) (fun z0 z1 => WN z0 z1) 171 [] Tryz.call171 (fun w' he z0 z1 y hy => zG8 z0 z1 y hy (HF.start _)) QT zBp hE) ?_
 intro w u zAj hu
 obtain ⟨QY, QX⟩ := u
 have gy100_0 := hu
 replace leB := leB.trans zAj
 have zBq : SlF QY QT.length QX := gy100_0 --@phi
 show Tr _ _ (uf _ 7 (.slice QY QT.length QX)) (up _ 2 (ow QY QX 107 zJ QT)) _
 refine Tr.asg rfl rfl (Tr.nil (Tr.zA (Tr.ret ?_)))
 obtain rfl := Option.some.inj H
 exact Tr.out (m := [(.slice QY QT.length QX)]) [] (zP rfl zQ) (fun W hW => ⟨w, (QY, QX), leB, rfl, zBq, hW.pick (ks := [2]) (by decide) (zM rfl zY)⟩)

theorem zIA {w : Bs} (p0 : Bool) (p1 : Bool) (r : Bool) (H : zAV p0 p1 = some r) (hE : HF w w.W E0) : Calls Tryz.prog 62 [(.bool p0), (.bool p1)].toArray w.W fun e W' => e = .returned (.bool r) ∧ HF w W' E0 := by
 unfold zAV at H
 have leB := Bs.Le.refl w
 refine Tr.enter (n := 9) Tryz.func62 rfl rfl rfl hE ?_
 refine Tr.sr (Tr.asg rfl rfl (Tr.nil (Tr.zA (Tr.sr (Tr.mv rfl rfl (Tr.mv rfl rfl (Tr.VR 2 [(8, (.bool (p0 || p1)))] [] ?_ ?_)))))))
 ·cases hg99 : p0
  ·refine Tr.val (wg rfl rfl rfl) rfl (fun _ _ h1 h2 => run_move (h1.ev rfl)) ?_
   refine Tr.va rfl (fun _ _ h1 h2 => zf (h1.ev rfl) (h1.ev rfl)) ?_
   exact Tr.nil (Tr.Qo (.cons rfl .nil) .nil)
  ·refine Tr.pass rfl rfl rfl rfl rfl (by decide) ?_
   refine Tr.va rfl (fun _ _ h1 h2 => ze (h1.ev rfl) (h1.ev rfl)) ?_
   exact Tr.nil (Tr.Qo (.cons rfl .nil) .nil)
 ·show Tr _ _ (LF [(8, (.bool (p0 || p1)))]) (LE []) _
  refine Tr.asg rfl rfl (Tr.nil (Tr.zA (Tr.ret ?_)))
  obtain rfl := Option.some.inj H
  exact Tr.out (m := [(.bool (p0 || p1))]) [] (zP rfl zQ) (fun W hW => ⟨rfl, hW.low leB⟩)

theorem zJf (N : Nat) {w : Bs} (p0 : (List zV)) (QA : Option Addr) (QB : Nat) (QE : Sl w.O w.W zJ QA QB p0) (p1 : (List zV)) (QG : Option Addr) (QH : Nat) (QV : Sl w.O w.W zJ QG QH p1) (r : (List zV)) (H : Wu N p0 p1 = some r) (hE : HF w w.W (LEn [emp])) : Calls Tryz.prog 36 [(.slice QA p0.length QB), (.slice QG p1.length QH)].toArray w.W fun e W' => ∃ (w' : Bs) (u : (Option Addr × Nat)), w.Le w' ∧ e = .returned (.slice u.1 r.length u.2) ∧ (SlF u.1 r.length u.2) ∧ HF w' W' (LEn [ow u.1 u.2 107 zJ r]) := by
 unfold Wu at H
 have leB := Bs.Le.refl w
 refine Tr.enter (n := 8) Tryz.func36 rfl rfl rfl hE ?_
 refine Tr.sr (Tr.asg rfl rfl (Tr.JS 1 107 zJ ?_))
 show Tr _ _ (uf _ 4 (.slice none (([] : List zV)).length 0)) _ _
 refine Tr.nil (Tr.zA (Tr.sr (Tr.mv rfl rfl (Tr.mv rfl rfl ?_))))
 obtain ⟨QT, zBp, H⟩ := bnd H
 refine Tr.VQ [2] [emp] (U := (Option Addr × Nat)) (fun u => (.slice u.1 QT.length u.2)) (fun O W u => SlF u.1 QT.length u.2) (fun u => [ow u.1 u.2 107 zJ QT]) rfl (zM rfl zY) (fun _ => rfl) (wn rfl) rfl Tryz.call61 (zF rfl (zF rfl (zF rfl zO))) (fun W hW hp hE => zGX N p0 QA QB (QE.zAl (hW.QS hp)) p1 QG QH (QV.zAl (hW.QS hp)) (fun z0 z1 => zAV z0 z1) 62 [] Tryz.call62 (fun w' he z0 z1 y hy => zIA z0 z1 y hy (HF.start _)) QT zBp hE) ?_
 intro w u zAj hu
 obtain ⟨QY, QX⟩ := u
 have gy100_0 := hu
 replace leB := leB.trans zAj
 have zBq : SlF QY QT.length QX := gy100_0 --@phi
 show Tr _ _ (uf _ 7 (.slice QY QT.length QX)) (up _ 2 (ow QY QX 107 zJ QT)) _
 refine Tr.asg rfl rfl (Tr.nil (Tr.zA (Tr.ret ?_)))
 obtain rfl := Option.some.inj H
 exact Tr.out (m := [(.slice QY QT.length QX)]) [] (zP rfl zQ) (fun W hW => ⟨w, (QY, QX), leB, rfl, zBq, hW.pick (ks := [2]) (by decide) (zM rfl zY)⟩)

theorem zDw {w : Bs} (p0 : (List zV)) (QA : Option Addr) (QB : Nat) (QE : Sl w.R w.W zJ QA QB p0) (r : Int) (H : zAW p0 = some r) (hE : HF w w.W E0) : Calls Tryz.prog 89 [(.slice QA p0.length QB)].toArray w.W fun e W' => e = .returned (iv r) ∧ HF w W' E0 := by
 unfold zAW at H
 have leB := Bs.Le.refl w
 refine Tr.enter (n := 20) Tryz.func89 rfl rfl rfl hE ?_
 refine Tr.sr (Tr.asg rfl rfl (Tr.nil (Tr.zA (Tr.sr (Tr.asg rfl rfl (Tr.nil (Tr.zA (Tr.seq (Tr.sr (Tr.mv rfl rfl ?_))))))))))
 refine Tr.va rfl (fun _ _ h1 h2 => zq zEE (h1.ev rfl)) ?_
 refine Tr.mv rfl rfl (Tr.nil (Tr.zA (Tr.block (Tr.loop (σ := (List zV) × Nat × Int) (fun m w s => m = s.1.length + 1 ∧ s.1 = List.drop s.2.1 p0 ∧ s.2.1 ≤ p0.length ∧ JV s.1 s.2.1 s.2.2 = some r) (fun s => [(3, (iv s.2.2)), (6, (.slice QA p0.length QB)), (7, (iv (p0.length : Int))), (8, (iv (s.2.1 : Int)))]) (fun s => []) (p0.length + 1) (p0, 0, 0) ⟨rfl, rfl, Nat.zero_le _, H⟩ (.cons rfl (.cons rfl (.cons rfl (.cons rfl .nil)))) .nil (fun _ _ h => absurd h.1 (by simp)) ?_))))
 intro w QW m s hs
 obtain ⟨QF, iL1, x112⟩ := s
 obtain ⟨KJ, QP, hiL1, H⟩ := hs
 replace QP : QF = List.drop iL1 p0 := QP
 replace H : JV QF iL1 x112 = some r := H
 replace KJ : m + 1 = QF.length + 1 := KJ
 replace QE := QE.leR QW
 replace leB := leB.trans QW
 obtain rfl : m = QF.length := by omega
 clear KJ
 show Tr _ _ (LF [(3, (iv x112)), (6, (.slice QA p0.length QB)), (7, (iv (p0.length : Int))), (8, (iv (iL1 : Int)))]) (LE []) _
 cases QF with
 | nil =>
  rw [JV.eq_1] at H
  refine Tr.sr (Tr.va rfl (fun _ _ h1 h2 => zz (h1.ev rfl) (h1.ev rfl)) ?_)
  refine Tr.nil (Tr.zA (Tr.seq (Tr.WJ rfl (Qy QP) ?_)))
  refine Tr.exit (Tr.zX (Tr.zX (Tr.zAC (Tr.zA (Tr.sr (Tr.mv rfl rfl (Tr.asg rfl rfl (Tr.nil (Tr.zA (Tr.ret ?_))))))))))
  obtain rfl := Option.some.inj H
  exact Tr.out (m := [(iv x112)]) [] (zP rfl zQ) (fun W hW => ⟨rfl, hW.low leB⟩)
 | cons xL1 QF =>
  rw [JV.eq_2] at H
  refine Tr.sr (Tr.va rfl (fun _ _ h1 h2 => zz (h1.ev rfl) (h1.ev rfl)) ?_)
  refine Tr.nil (Tr.zA (Tr.seq (Tr.WI rfl (Jg QP) ?_)))
  refine Tr.skip (Tr.zA (Tr.seq (Tr.block (Tr.sr ?_))))
  obtain ⟨u113, hRu113, hoku113, hcu113⟩ := (QE).el (Js QP)
  obtain ⟨Au113_0, cu113_0⟩ := u113
  have hoku113_0 := hoku113
  refine Tr.va rfl (fun _ _ h1 h2 => zH zCB (h1.ev rfl) QE.form (h1.ev rfl) (Int.natCast_nonneg _) (zo QP)) ?_
  refine Tr.va rfl (fun _ _ h1 h2 => zR (cs := [(iv xL1.Y0), (iv xL1.Y1), (.slice Au113_0 xL1.Xs.length cu113_0)]) ag_107 zHk (h1.ev rfl) (zL.take (rdR hRu113 hcu113 h2) 3) rfl) ?_
  refine Tr.alloc 3 (wn rfl) rfl ze_107 fun b114 => ?_
  refine Tr.store 3 (cs := [(iv xL1.Y0), (iv xL1.Y1), (.slice Au113_0 xL1.Xs.length cu113_0)]) [(iv xL1.Y0), (iv xL1.Y1), (.slice Au113_0 xL1.Xs.length cu113_0)] (wn rfl) rfl rfl rfl rfl zHk rfl rfl rfl ?_
  refine Tr.nil (Tr.zA (Tr.region (Tr.mv rfl rfl (Tr.va rfl (fun _ _ h1 h2 => zB zAk (h1.ev rfl)) ?_))))
  refine Tr.va rfl (fun _ _ h1 h2 => zC zCT (h1.ev rfl) (rdb h2 (vs := [(iv xL1.Y0), (iv xL1.Y1), (.slice Au113_0 xL1.Xs.length cu113_0)]) (k := 3) rfl 2) rfl) ?_
  refine Tr.va rfl (fun _ _ h1 h2 => zq zCA (h1.ev rfl)) ?_
  refine Tr.va rfl (fun _ _ h1 h2 => run_quo (h1.ev rfl) (h1.ev rfl) (by decide)) ?_
  refine Tr.va rfl (fun _ _ h1 h2 => zx (h1.ev rfl) (h1.ev rfl)) ?_
  refine Tr.asg rfl rfl (Tr.nil (Tr.zW (Tr.zA ?_)))
  refine Tr.region (Tr.va rfl (fun _ _ h1 h2 => zx (h1.ev rfl) (h1.ev rfl)) ?_)
  exact Tr.mv rfl rfl (Tr.nil (Tr.zZ QW (QF, (iL1 + 1), (w64 (x112 + (w64 (Int.tdiv (xL1.Xs.length : Int) 2))))) ⟨rfl, Qg QP, zo QP, H⟩ (.cons rfl (.cons rfl (.cons rfl (.cons (congrArg (fun z => some (Value.int .i64 z)) (Qf QP QE.form)) .nil)))) .nil))

theorem zAr (N : Nat) {w : Bs} (p0 : zAA) (QA : Option Addr) (QB : Nat) (QE : Sl w.R w.W zK QA QB p0.p.Tools) (QD : Option Addr) (QC : Nat) (QU : Sl w.R w.W zG QD QC p0.p.Steps) (QL : Option Addr) (QN : Nat) (Jz : Sl w.R w.W Qe QL QN p0.tools) (QR : Option Addr) (QQ : Nat) (bp0 : Nat) (p1 : (List zV)) (QG : Option Addr) (QH : Nat) (QV : Sl w.O w.W zJ QG QH p1) (r : (Int × (List zV))) (H : KM N p0 p1 = some r) (hE : HF w w.W (LEn [bx bp0 #[(iv p0.p.Unit), (.slice QA p0.p.Tools.length QB), (.slice QD p0.p.Steps.length QC), (.slice QL p0.tools.length QN), (.slice QR p0.image.length QQ), (.bool p0.clear), (iv p0.tool), (iv p0.place.X), (iv p0.place.Y), (.bool p0.placed), (iv p0.off), (iv p0.on)] 77, ow QR QQ 107 zJ p0.image])) : Calls Tryz.prog 125 [(.pointer (some ⟨bp0, 0, none⟩)), (.slice QG p1.length QH)].toArray w.W fun e W' => ∃ (w' : Bs) (u : (Option Addr × Nat)), w.Le w' ∧ e = .returned (iv r.1) ∧ (SlF u.1 r.2.length u.2) ∧ HF w' W' (LEn [bx bp0 #[(iv p0.p.Unit), (.slice QA p0.p.Tools.length QB), (.slice QD p0.p.Steps.length QC), (.slice QL p0.tools.length QN), (.slice u.1 r.2.length u.2), (.bool p0.clear), (iv p0.tool), (iv p0.place.X), (iv p0.place.Y), (.bool p0.placed), (iv p0.off), (iv p0.on)] 77, ow u.1 u.2 107 zJ r.2]) := by
 unfold KM at H
 have WQ := (hE.sl (k := 1) rfl).form
 have leB := Bs.Le.refl w
 refine Tr.enter (n := 38) Tryz.func125 rfl rfl rfl hE ?_
 refine Tr.sr (Tr.asg rfl rfl (Tr.nil (Tr.zA ?_)))
 have leJ110 := Bs.Le.refl w
 refine Tr.cutJ (σ := (List zV) × (Option Addr) × Nat) (fun w s => Jk s.1 = some r ∧ SlF s.2.1 s.1.length s.2.2) (fun s => [(0, (.pointer (some ⟨bp0, 0, none⟩)))]) (fun s => [(0, bx bp0 #[(iv p0.p.Unit), (.slice QA p0.p.Tools.length QB), (.slice QD p0.p.Steps.length QC), (.slice QL p0.tools.length QN), (.slice s.2.1 s.1.length s.2.2), (.bool p0.clear), (iv p0.tool), (iv p0.place.X), (iv p0.place.Y), (.bool p0.placed), (iv p0.off), (iv p0.on)] 77), (4, ow s.2.1 s.2.2 107 zJ s.1)]) ?_ ?_
 ·refine Tr.block (Tr.sr (Tr.mv rfl rfl ?_))
  obtain ⟨y113, hy113, H⟩ := bnd H
  refine Tr.Qp (r := (.bool y113)) (wn rfl) rfl Tryz.call154 (zF rfl zO) (fun W hW => zIC p1 QG QH (QV.rl.ext hW.QZ) y113 hy113 (HF.start _)) ?_
  refine Tr.va rfl (fun _ _ h1 h2 => JO (h1.ev rfl)) ?_
  refine Tr.asg rfl rfl (Tr.nil (Tr.zA (Tr.cond rfl H (fun H => ?_) (fun H => ?_))))
  ·refine Tr.sr (Tr.asg rfl rfl (Tr.nil (Tr.zA (Tr.ret (Tr.zAB (Tr.zU ?_))))))
   obtain rfl := Option.some.inj H
   exact Tr.out (m := [(iv 1)]) [] (zP rfl zQ) (fun W hW => ⟨w, (QR, QQ), leB, rfl, WQ, hW.pick (ks := [0, 1]) (by decide) (zM rfl (zM rfl zY))⟩)
  ·refine Tr.sr (Tr.mv rfl rfl (Tr.va rfl (fun _ _ h1 h2 => zb (h1.ev rfl)) ?_))
   refine Tr.va rfl (fun _ _ h1 h2 => zB fo_77_3 (h1.ev rfl)) ?_
   refine Tr.va rfl (fun _ _ h1 h2 => zC ag_4 (h1.ev rfl) (rdb h2 (vs := [(iv p0.p.Unit), (.slice QA p0.p.Tools.length QB), (.slice QD p0.p.Steps.length QC), (.slice QL p0.tools.length QN), (.slice QR p0.image.length QQ), (.bool p0.clear), (iv p0.tool), (iv p0.place.X), (iv p0.place.Y), (.bool p0.placed), (iv p0.off), (iv p0.on)]) (k := 0) rfl 5) rfl) ?_
   refine Tr.asg rfl rfl (Tr.nil (Tr.zA (Tr.cond rfl H (fun H => ?_) (fun H => ?_))))
   ·refine Tr.region (Tr.mv rfl rfl (Tr.mv rfl rfl (Tr.va rfl (fun _ _ h1 h2 => zb (h1.ev rfl)) ?_)))
    refine Tr.va rfl (fun _ _ h1 h2 => zB zIf (h1.ev rfl)) ?_
    refine Tr.va rfl (fun _ _ h1 h2 => zC ag_66 (h1.ev rfl) (rdb h2 (vs := [(iv p0.p.Unit), (.slice QA p0.p.Tools.length QB), (.slice QD p0.p.Steps.length QC), (.slice QL p0.tools.length QN), (.slice QR p0.image.length QQ), (.bool p0.clear), (iv p0.tool), (iv p0.place.X), (iv p0.place.Y), (.bool p0.placed), (iv p0.off), (iv p0.on)]) (k := 0) rfl 4) rfl) ?_
    refine Tr.mv rfl rfl (Tr.freeze 1 rfl fun w le115 hz114 => ?_)
    replace QV := QV.le le115
    replace leJ110 := leJ110.trans le115
    obtain ⟨zD7, hy116, H⟩ := bnd H
    refine Tr.VQ [5] [emp] (U := (Option Addr × Nat)) (fun u => (.slice u.1 zD7.length u.2)) (fun O W u => SlF u.1 zD7.length u.2) (fun u => [ow u.1 u.2 107 zJ zD7]) rfl (zM rfl zY) (fun _ => rfl) (wn rfl) rfl Tryz.call155 (zF rfl (zF rfl zO)) (fun W hW hp hE => zIB N p0.image QR QQ (hz114.zAl (hW.QS hp)) p1 QG QH (QV.zAl (hW.QS hp)) zD7 hy116 hE) ?_
    intro w u le117 hu
    obtain ⟨zIs, zIj⟩ := u
    have gy116_0 := hu
    replace hz114 := hz114.le le117
    replace leJ110 := leJ110.trans le117
    have hgy116_0 : SlF zIs zD7.length zIj := gy116_0 --@phi
    show Tr _ _ (uf _ 29 (.slice zIs zD7.length zIj)) (up _ 5 (ow zIs zIj 107 zJ zD7)) _
    refine Tr.va rfl (fun _ _ h1 h2 => zb (h1.ev rfl)) ?_
    refine Tr.va rfl (fun _ _ h1 h2 => zB zIf (h1.ev rfl)) ?_
    refine Tr.store 0 (cs := [(.slice zIs zD7.length zIj)]) [(iv p0.p.Unit), (.slice QA p0.p.Tools.length QB), (.slice QD p0.p.Steps.length QC), (.slice QL p0.tools.length QN), (.slice zIs zD7.length zIj), (.bool p0.clear), (iv p0.tool), (iv p0.place.X), (iv p0.place.Y), (.bool p0.placed), (iv p0.off), (iv p0.on)] (wn rfl) rfl rfl rfl rfl sz_66 rfl rfl rfl ?_
    refine Tr.nil (Tr.zW ?_)
    refine Tr.ren 5 4 rfl rfl rfl ?_
    exact Tr.zZ leJ110 (zD7, zIs, zIj) ⟨H, hgy116_0⟩ (.cons rfl .nil) (.cons rfl (.cons rfl .nil))
   ·refine Tr.region (Tr.mv rfl rfl (Tr.mv rfl rfl (Tr.va rfl (fun _ _ h1 h2 => zb (h1.ev rfl)) ?_)))
    refine Tr.va rfl (fun _ _ h1 h2 => zB zIf (h1.ev rfl)) ?_
    refine Tr.va rfl (fun _ _ h1 h2 => zC ag_66 (h1.ev rfl) (rdb h2 (vs := [(iv p0.p.Unit), (.slice QA p0.p.Tools.length QB), (.slice QD p0.p.Steps.length QC), (.slice QL p0.tools.length QN), (.slice QR p0.image.length QQ), (.bool p0.clear), (iv p0.tool), (iv p0.place.X), (iv p0.place.Y), (.bool p0.placed), (iv p0.off), (iv p0.on)]) (k := 0) rfl 4) rfl) ?_
    refine Tr.mv rfl rfl (Tr.freeze 1 rfl fun w le119 zHJ => ?_)
    replace QV := QV.le le119
    replace leJ110 := leJ110.trans le119
    obtain ⟨zDL, hy120, H⟩ := bnd H
    refine Tr.VQ [6] [emp] (U := (Option Addr × Nat)) (fun u => (.slice u.1 zDL.length u.2)) (fun O W u => SlF u.1 zDL.length u.2) (fun u => [ow u.1 u.2 107 zJ zDL]) rfl (zM rfl zY) (fun _ => rfl) (wn rfl) rfl Tryz.call36 (zF rfl (zF rfl zO)) (fun W hW hp hE => zJf N p0.image QR QQ (zHJ.zAl (hW.QS hp)) p1 QG QH (QV.zAl (hW.QS hp)) zDL hy120 hE) ?_
    intro w u le121 hu
    obtain ⟨zIr, zIi⟩ := u
    have gy120_0 := hu
    replace zHJ := zHJ.le le121
    replace leJ110 := leJ110.trans le121
    have hgy120_0 : SlF zIr zDL.length zIi := gy120_0 --@phi
    show Tr _ _ (uf _ 11 (.slice zIr zDL.length zIi)) (up _ 6 (ow zIr zIi 107 zJ zDL)) _
    refine Tr.va rfl (fun _ _ h1 h2 => zb (h1.ev rfl)) ?_
    refine Tr.va rfl (fun _ _ h1 h2 => zB zIf (h1.ev rfl)) ?_
    refine Tr.store 0 (cs := [(.slice zIr zDL.length zIi)]) [(iv p0.p.Unit), (.slice QA p0.p.Tools.length QB), (.slice QD p0.p.Steps.length QC), (.slice QL p0.tools.length QN), (.slice zIr zDL.length zIi), (.bool p0.clear), (iv p0.tool), (iv p0.place.X), (iv p0.place.Y), (.bool p0.placed), (iv p0.off), (iv p0.on)] (wn rfl) rfl rfl rfl rfl sz_66 rfl rfl rfl ?_
    refine Tr.nil (Tr.zW ?_)
    refine Tr.ren 6 4 rfl rfl rfl ?_
    exact Tr.zZ leJ110 (zDL, zIr, zIi) ⟨H, hgy120_0⟩ (.cons rfl .nil) (.cons rfl (.cons rfl .nil))
 ·intro w s hlJ111 hs
  obtain ⟨l109, Al109, cl109⟩ := s
  obtain ⟨H, hl109⟩ := hs
  replace H : Jk l109 = some r := H
  replace leB := leB.trans hlJ111
  replace hl109 : SlF Al109 l109.length cl109 := hl109
  unfold Jk at H
  show Tr _ _ (LF [(0, (.pointer (some ⟨bp0, 0, none⟩)))]) (LE [(0, bx bp0 #[(iv p0.p.Unit), (.slice QA p0.p.Tools.length QB), (.slice QD p0.p.Steps.length QC), (.slice QL p0.tools.length QN), (.slice Al109 l109.length cl109), (.bool p0.clear), (iv p0.tool), (iv p0.place.X), (iv p0.place.Y), (.bool p0.placed), (iv p0.off), (iv p0.on)] 77), (4, ow Al109 cl109 107 zJ l109)]) _
  refine Tr.seq (Tr.sr (Tr.mv rfl rfl (Tr.va rfl (fun _ _ h1 h2 => zb (h1.ev rfl)) ?_)))
  refine Tr.va rfl (fun _ _ h1 h2 => zB zIf (h1.ev rfl)) ?_
  refine Tr.va rfl (fun _ _ h1 h2 => zC ag_66 (h1.ev rfl) (rdb h2 (vs := [(iv p0.p.Unit), (.slice QA p0.p.Tools.length QB), (.slice QD p0.p.Steps.length QC), (.slice QL p0.tools.length QN), (.slice Al109 l109.length cl109), (.bool p0.clear), (iv p0.tool), (iv p0.place.X), (iv p0.place.Y), (.bool p0.placed), (iv p0.off), (iv p0.on)]) (k := 0) rfl 4) rfl) ?_
  obtain ⟨y112, hy112, H⟩ := bnd H
  refine Tr.Qp (r := (iv y112)) (wn rfl) rfl Tryz.call89 (zF rfl zO) (fun W hW => zDw l109 Al109 cl109 (hW.zEA (k := 4) rfl) y112 hy112 (HF.start _)) ?_
  refine Tr.va rfl (fun _ _ h1 h2 => VI (h1.ev rfl) (h1.ev rfl)) ?_
  refine Tr.nil (Tr.zA (Tr.cond rfl H (fun H => ?_) (fun H => ?_)))
  ·refine Tr.sr (Tr.asg rfl rfl (Tr.nil (Tr.zA (Tr.ret (Tr.zU ?_)))))
   obtain rfl := Option.some.inj H
   exact Tr.out (m := [(iv 2)]) [] (zP rfl zQ) (fun W hW => ⟨w, (Al109, cl109), leB, rfl, hl109, hW.pick (ks := [0, 4]) (by decide) (zM rfl (zM rfl zY))⟩)
  ·refine Tr.skip (Tr.zA (Tr.sr (Tr.asg rfl rfl (Tr.nil (Tr.zA (Tr.ret ?_))))))
   obtain rfl := Option.some.inj H
   exact Tr.out (m := [(iv 0)]) [] (zP rfl zQ) (fun W hW => ⟨w, (Al109, cl109), leB, rfl, hl109, hW.pick (ks := [0, 4]) (by decide) (zM rfl (zM rfl zY))⟩)

theorem zA3 {w : Bs} (p0 : zAA) (QA : Option Addr) (QB : Nat) (QE : Sl w.R w.W zK QA QB p0.p.Tools) (QD : Option Addr) (QC : Nat) (QU : Sl w.R w.W zG QD QC p0.p.Steps) (QL : Option Addr) (QN : Nat) (Jz : Sl w.R w.W Qe QL QN p0.tools) (QR : Option Addr) (QQ : Nat) (hp0_3 : Sl w.R w.W zJ QR QQ p0.image) (bp0 : Nat) (p1 : zI) (r : (Int × Int × Int × Bool × Int)) (H : Jj p0 p1 = some r) (hE : HF w w.W (LEn [bx bp0 #[(iv p0.p.Unit), (.slice QA p0.p.Tools.length QB), (.slice QD p0.p.Steps.length QC), (.slice QL p0.tools.length QN), (.slice QR p0.image.length QQ), (.bool p0.clear), (iv p0.tool), (iv p0.place.X), (iv p0.place.Y), (.bool p0.placed), (iv p0.off), (iv p0.on)] 77])) : Calls Tryz.prog 104 [(.pointer (some ⟨bp0, 0, none⟩)), (.agg #[(iv p1.X), (iv p1.Y)]), (.pointer (some ⟨bp0, 10, none⟩))].toArray w.W fun e W' => ∃ u : Unit, e = .returned (iv r.1) ∧ (True) ∧ HF w W' (LEn [bx bp0 #[(iv p0.p.Unit), (.slice QA p0.p.Tools.length QB), (.slice QD p0.p.Steps.length QC), (.slice QL p0.tools.length QN), (.slice QR p0.image.length QQ), (.bool p0.clear), (iv p0.tool), (iv r.2.1), (iv r.2.2.1), (.bool r.2.2.2.1), (iv r.2.2.2.2), (iv p0.on)] 77]) := by
 unfold Jj at H
 have leB := Bs.Le.refl w
 refine Tr.enter (n := 32) Tryz.func104 rfl rfl rfl hE ?_
 refine Tr.sr (Tr.box 1 (cs := [(iv p1.X), (iv p1.Y)]) (wn rfl) rfl rfl rfl fun QM => ?_)
 refine Tr.asg rfl rfl (Tr.nil (Tr.zA (Tr.seq (Tr.sr (Tr.va rfl (fun _ _ h1 h2 => zR (cs := [(iv p1.X), (iv p1.Y)]) KF JB (h1.ev rfl) (zL.take (rdb h2 (vs := [(iv p1.X), (iv p1.Y)]) (k := 1) rfl 0) 2) rfl) ?_)))))
 obtain ⟨y101, hy101, H⟩ := bnd H
 refine Tr.Qp (r := (.bool y101)) (wn rfl) rfl Tryz.call123 (zF rfl zO) (fun W hW => zCh p1 y101 hy101 (HF.start _)) ?_
 refine Tr.va rfl (fun _ _ h1 h2 => JO (h1.ev rfl)) ?_
 refine Tr.nil (Tr.zA (Tr.cond rfl H (fun H => ?_) (fun H => ?_)))
 ·refine Tr.sr (Tr.asg rfl rfl (Tr.nil (Tr.zA (Tr.ret (Tr.zU ?_)))))
  obtain rfl := Option.some.inj H
  exact Tr.out (m := [(iv 1)]) [] (zP rfl zQ) (fun W hW => ⟨(), rfl, trivial, HF.zHZ leB (hW.pick (ks := [0]) (by decide) (zM rfl zY)) ⟨zJb _ _ _, trivial⟩⟩)
 ·refine Tr.skip (Tr.zA ?_)
  have leJ104 := Bs.Le.refl w
  refine Tr.cutJ (σ := Int) (fun w s => JN p1 s = some r) (fun s => [(0, (.pointer (some ⟨bp0, 0, none⟩))), (4, (.pointer (some ⟨QM, 0, none⟩)))]) (fun s => [(0, bx bp0 #[(iv p0.p.Unit), (.slice QA p0.p.Tools.length QB), (.slice QD p0.p.Steps.length QC), (.slice QL p0.tools.length QN), (.slice QR p0.image.length QQ), (.bool p0.clear), (iv p0.tool), (iv p0.place.X), (iv p0.place.Y), (.bool p0.placed), (iv s), (iv p0.on)] 77), (1, bx QM #[(iv p1.X), (iv p1.Y)] 43)]) ?_ ?_
  ·refine Tr.sr (Tr.mv rfl rfl (Tr.va rfl (fun _ _ h1 h2 => zb (h1.ev rfl)) ?_))
   refine Tr.va rfl (fun _ _ h1 h2 => zB zKK (h1.ev rfl)) ?_
   refine Tr.va rfl (fun _ _ h1 h2 => zC ag_4 (h1.ev rfl) (rdb h2 (vs := [(iv p0.p.Unit), (.slice QA p0.p.Tools.length QB), (.slice QD p0.p.Steps.length QC), (.slice QL p0.tools.length QN), (.slice QR p0.image.length QQ), (.bool p0.clear), (iv p0.tool), (iv p0.place.X), (iv p0.place.Y), (.bool p0.placed), (iv p0.off), (iv p0.on)]) (k := 0) rfl 9) rfl) ?_
   refine Tr.nil (Tr.zA (Tr.cond rfl H (fun H => ?_) (fun H => ?_)))
   ·refine Tr.zC6 9 (by kernel_rfl) (by kernel_rfl) ?_
    refine Tq.mv rfl rfl (Tq.va rfl (fun _ _ h1 h2 => zb (h1.ev rfl)) ?_)
    refine Tq.va rfl (fun _ _ h1 h2 => zC QO (h1.ev rfl) (rdb h2 (vs := [(iv p0.p.Unit), (.slice QA p0.p.Tools.length QB), (.slice QD p0.p.Steps.length QC), (.slice QL p0.tools.length QN), (.slice QR p0.image.length QQ), (.bool p0.clear), (iv p0.tool), (iv p0.place.X), (iv p0.place.Y), (.bool p0.placed), (iv p0.off), (iv p0.on)]) (k := 0) rfl 10) rfl) ?_
    refine Tq.mv rfl rfl (Tq.va rfl (fun _ _ h1 h2 => zb (h1.ev rfl)) ?_)
    refine Tq.va rfl (fun _ _ h1 h2 => zB zGs (h1.ev rfl)) ?_
    refine Tq.va rfl (fun _ _ h1 h2 => zR (cs := [(iv p0.place.X), (iv p0.place.Y)]) KF JB (h1.ev rfl) (zL.take (rdb h2 (vs := [(iv p0.p.Unit), (.slice QA p0.p.Tools.length QB), (.slice QD p0.p.Steps.length QC), (.slice QL p0.tools.length QN), (.slice QR p0.image.length QQ), (.bool p0.clear), (iv p0.tool), (iv p0.place.X), (iv p0.place.Y), (.bool p0.placed), (iv p0.off), (iv p0.on)]) (k := 0) rfl 7) 2) rfl) ?_
    refine Tq.va rfl (fun _ _ h1 h2 => zR (cs := [(iv p1.X), (iv p1.Y)]) KF JB (h1.ev rfl) (zL.take (rdb h2 (vs := [(iv p1.X), (iv p1.Y)]) (k := 1) rfl 0) 2) rfl) ?_
    obtain ⟨VU, zHu, H⟩ := bnd H
    refine Tq.Qp (r := (iv VU)) (wn rfl) rfl Tryz.call124 (zF rfl (zF rfl zO)) (fun W hW => zJH p0.place p1 VU zHu (HF.start _)) ?_
    refine Tq.nil (Tr.va rfl (fun _ _ h1 h2 => zx (h1.ev rfl) (h1.ev rfl)) ?_)
    refine Tr.va rfl (fun _ _ h1 h2 => zb (h1.ev rfl)) ?_
    refine Tr.store 0 (cs := [(iv (w64 (p0.off + VU)))]) [(iv p0.p.Unit), (.slice QA p0.p.Tools.length QB), (.slice QD p0.p.Steps.length QC), (.slice QL p0.tools.length QN), (.slice QR p0.image.length QQ), (.bool p0.clear), (iv p0.tool), (iv p0.place.X), (iv p0.place.Y), (.bool p0.placed), (iv (w64 (p0.off + VU))), (iv p0.on)] (wn rfl) rfl rfl rfl rfl zIz rfl rfl rfl ?_
    exact Tr.nil (Tr.zZ leJ104 (w64 (p0.off + VU)) H (.cons rfl (.cons rfl .nil)) (.cons rfl (.cons rfl .nil)))
   ·exact Tr.skip (Tr.zZ leJ104 p0.off H (.cons rfl (.cons rfl .nil)) (.cons rfl (.cons rfl .nil)))
  ·intro w x103 hlJ105 hs
   have H := hs
   replace H : JN p1 x103 = some r := H
   replace leB := leB.trans hlJ105
   unfold JN at H
   show Tr _ _ (LF [(0, (.pointer (some ⟨bp0, 0, none⟩))), (4, (.pointer (some ⟨QM, 0, none⟩)))]) (LE [(0, bx bp0 #[(iv p0.p.Unit), (.slice QA p0.p.Tools.length QB), (.slice QD p0.p.Steps.length QC), (.slice QL p0.tools.length QN), (.slice QR p0.image.length QQ), (.bool p0.clear), (iv p0.tool), (iv p0.place.X), (iv p0.place.Y), (.bool p0.placed), (iv x103), (iv p0.on)] 77), (1, bx QM #[(iv p1.X), (iv p1.Y)] 43)]) _
   refine Tr.sr (Tr.mv rfl rfl (Tr.mv rfl rfl (Tr.va rfl (fun _ _ h1 h2 => zR (cs := [(iv p1.X), (iv p1.Y)]) KF JB (h1.ev rfl) (zL.take (rdb h2 (vs := [(iv p1.X), (iv p1.Y)]) (k := 1) rfl 0) 2) rfl) ?_)))
   refine Tr.va rfl (fun _ _ h1 h2 => zb (h1.ev rfl)) ?_
   refine Tr.va rfl (fun _ _ h1 h2 => zB zGs (h1.ev rfl)) ?_
   refine Tr.store 0 (cs := [(iv p1.X), (iv p1.Y)]) [(iv p0.p.Unit), (.slice QA p0.p.Tools.length QB), (.slice QD p0.p.Steps.length QC), (.slice QL p0.tools.length QN), (.slice QR p0.image.length QQ), (.bool p0.clear), (iv p0.tool), (iv p1.X), (iv p1.Y), (.bool p0.placed), (iv x103), (iv p0.on)] (wn rfl) rfl rfl rfl rfl JB rfl rfl rfl ?_
   refine Tr.va rfl (fun _ _ h1 h2 => zb (h1.ev rfl)) ?_
   refine Tr.va rfl (fun _ _ h1 h2 => zB zKK (h1.ev rfl)) ?_
   refine Tr.store 0 (cs := [(.bool true)]) [(iv p0.p.Unit), (.slice QA p0.p.Tools.length QB), (.slice QD p0.p.Steps.length QC), (.slice QL p0.tools.length QN), (.slice QR p0.image.length QQ), (.bool p0.clear), (iv p0.tool), (iv p1.X), (iv p1.Y), (.bool true), (iv x103), (iv p0.on)] (wn rfl) rfl rfl rfl rfl sz_4 rfl rfl rfl ?_
   refine Tr.nil (Tr.zA (Tr.sr (Tr.asg rfl rfl (Tr.nil (Tr.zA (Tr.ret ?_))))))
   obtain rfl := Option.some.inj H
   exact Tr.out (m := [(iv 0)]) [] (zP rfl zQ) (fun W hW => ⟨(), rfl, trivial, HF.zHZ leB (hW.pick (ks := [0]) (by decide) (zM rfl zY)) ⟨zJb _ _ _, trivial⟩⟩)

theorem zF6 (N : Nat) {w : Bs} (p0 : zAA) (QA : Option Addr) (QB : Nat) (QE : Sl w.R w.W zK QA QB p0.p.Tools) (QD : Option Addr) (QC : Nat) (QU : Sl w.R w.W zG QD QC p0.p.Steps) (QL : Option Addr) (QN : Nat) (Jz : Sl w.R w.W Qe QL QN p0.tools) (QR : Option Addr) (QQ : Nat) (bp0 : Nat) (p1 : zI) (r : (Int × Int × Int × Bool × Int × (List zV))) (H : VY N p0 p1 = some r) (hE : HF w w.W (LEn [bx bp0 #[(iv p0.p.Unit), (.slice QA p0.p.Tools.length QB), (.slice QD p0.p.Steps.length QC), (.slice QL p0.tools.length QN), (.slice QR p0.image.length QQ), (.bool p0.clear), (iv p0.tool), (iv p0.place.X), (iv p0.place.Y), (.bool p0.placed), (iv p0.off), (iv p0.on)] 77, ow QR QQ 107 zJ p0.image])) : Calls Tryz.prog 105 [(.pointer (some ⟨bp0, 0, none⟩)), (.agg #[(iv p1.X), (iv p1.Y)])].toArray w.W fun e W' => ∃ (w' : Bs) (u : (Option Addr × Nat)), w.Le w' ∧ e = .returned (iv r.1) ∧ (SlF u.1 r.2.2.2.2.2.length u.2) ∧ HF w' W' (LEn [bx bp0 #[(iv p0.p.Unit), (.slice QA p0.p.Tools.length QB), (.slice QD p0.p.Steps.length QC), (.slice QL p0.tools.length QN), (.slice u.1 r.2.2.2.2.2.length u.2), (.bool p0.clear), (iv p0.tool), (iv r.2.1), (iv r.2.2.1), (.bool r.2.2.2.1), (iv r.2.2.2.2.1), (iv p0.on)] 77, ow u.1 u.2 107 zJ r.2.2.2.2.2]) := by
 unfold VY at H
 have WQ := (hE.sl (k := 1) rfl).form
 have leB := Bs.Le.refl w
 refine Tr.enter (n := 35) Tryz.func105 rfl rfl rfl hE ?_
 refine Tr.sr (Tr.box 2 (cs := [(iv p1.X), (iv p1.Y)]) (wn rfl) rfl rfl rfl fun QM => ?_)
 refine Tr.asg rfl rfl (Tr.nil (Tr.zA (Tr.seq (Tr.sr (Tr.mv rfl rfl (Tr.va rfl (fun _ _ h1 h2 => zb (h1.ev rfl)) ?_))))))
 refine Tr.va rfl (fun _ _ h1 h2 => zB zKL (h1.ev rfl)) ?_
 refine Tr.va rfl (fun _ _ h1 h2 => zC QO (h1.ev rfl) (rdb h2 (vs := [(iv p0.p.Unit), (.slice QA p0.p.Tools.length QB), (.slice QD p0.p.Steps.length QC), (.slice QL p0.tools.length QN), (.slice QR p0.image.length QQ), (.bool p0.clear), (iv p0.tool), (iv p0.place.X), (iv p0.place.Y), (.bool p0.placed), (iv p0.off), (iv p0.on)]) (k := 0) rfl 6) rfl) ?_
 refine Tr.va rfl (fun _ _ h1 h2 => zz (h1.ev rfl) (h1.ev rfl)) ?_
 refine Tr.nil (Tr.zA (Tr.cond rfl H (fun H => ?_) (fun H => ?_)))
 ·refine Tr.sr (Tr.asg rfl rfl (Tr.nil (Tr.zA (Tr.ret (Tr.zU ?_)))))
  obtain rfl := Option.some.inj H
  exact Tr.out (m := [(iv 11)]) [] (zP rfl zQ) (fun W hW => ⟨w, (QR, QQ), leB, rfl, WQ, hW.pick (ks := [0, 1]) (by decide) (zM rfl (zM rfl zY))⟩)
 ·refine Tr.skip (Tr.zA (Tr.seq (Tr.seq (Tr.zC6 5 (by kernel_rfl) (by kernel_rfl) ?_))))
  refine Tq.mv rfl rfl (Tq.va rfl (fun _ _ h1 h2 => zR (cs := [(iv p1.X), (iv p1.Y)]) KF JB (h1.ev rfl) (zL.take (rdb h2 (vs := [(iv p1.X), (iv p1.Y)]) (k := 2) rfl 0) 2) rfl) ?_)
  refine Tq.mv rfl rfl (Tq.va rfl (fun _ _ h1 h2 => zb (h1.ev rfl)) ?_)
  refine Tq.va rfl (fun _ _ h1 h2 => zB fo_77_7 (h1.ev rfl)) ?_
  refine Tq.nil ?_
  obtain ⟨y101, hy101, H⟩ := bnd H
  refine Tr.VP [0] [bx bp0 #[(iv p0.p.Unit), (.slice QA p0.p.Tools.length QB), (.slice QD p0.p.Steps.length QC), (.slice QL p0.tools.length QN), (.slice QR p0.image.length QQ), (.bool p0.clear), (iv p0.tool), (iv p0.place.X), (iv p0.place.Y), (.bool p0.placed), (iv p0.off), (iv p0.on)] 77] (U := Unit) (fun u => (iv y101.1)) (fun u => True) (fun u => [bx bp0 #[(iv p0.p.Unit), (.slice QA p0.p.Tools.length QB), (.slice QD p0.p.Steps.length QC), (.slice QL p0.tools.length QN), (.slice QR p0.image.length QQ), (.bool p0.clear), (iv p0.tool), (iv y101.2.1), (iv y101.2.2.1), (.bool y101.2.2.2.1), (iv y101.2.2.2.2), (iv p0.on)] 77]) rfl (zM rfl zY) (fun _ => rfl) (wn rfl) rfl Tryz.call104 (zF rfl (zF rfl (zF rfl zO))) (fun W hW hp hE => zA3 p0 QA QB (QE.ext (hW.QS hp)) QD QC (QU.ext (hW.QS hp)) QL QN (Jz.ext (hW.QS hp)) QR QQ (hW.slS (k := 1) rfl hp rfl) bp0 p1 y101 hy101 hE) ?_
  intro u hu
  show Tr _ _ (uf _ 16 (iv y101.1)) (up _ 0 (bx bp0 #[(iv p0.p.Unit), (.slice QA p0.p.Tools.length QB), (.slice QD p0.p.Steps.length QC), (.slice QL p0.tools.length QN), (.slice QR p0.image.length QQ), (.bool p0.clear), (iv p0.tool), (iv y101.2.1), (iv y101.2.2.1), (.bool y101.2.2.2.1), (iv y101.2.2.2.2), (iv p0.on)] 77)) _
  refine Tr.asg rfl rfl (Tr.nil (Tr.zA (Tr.sr (Tr.mv rfl rfl (Tr.va rfl (fun _ _ h1 h2 => Jv (h1.ev rfl) (h1.ev rfl)) ?_)))))
  refine Tr.nil (Tr.zA (Tr.cond rfl H (fun H => ?_) (fun H => ?_)))
  ·refine Tr.sr (Tr.mv rfl rfl (Tr.asg rfl rfl (Tr.nil (Tr.zA (Tr.ret (Tr.zU ?_))))))
   obtain rfl := Option.some.inj H
   exact Tr.out (m := [(iv y101.1)]) [] (zP rfl zQ) (fun W hW => ⟨w, (QR, QQ), leB, rfl, WQ, hW.pick (ks := [0, 1]) (by decide) (zM rfl (zM rfl zY))⟩)
  ·refine Tr.skip (Tr.zA (Tr.seq (Tr.zHL 14 [] [] (by kernel_rfl) (by kernel_rfl) fun sz103 hlosz103 hEsz103 => ?_)))
   refine Dr.quiet 0 [(20, (.pointer (some ⟨bp0, 0, none⟩)))] (by kernel_rfl) rfl rfl (by kernel_rfl) ?_ rfl rfl ?_
   ·exact Tq.mv rfl rfl (Tq.fin (.cons rfl .nil))
   refine Dr.quiet 1 [(21, (.pointer (some ⟨bp0, 0, none⟩)))] (by kernel_rfl) rfl rfl (by kernel_rfl) ?_ rfl rfl ?_
   ·exact Tq.mv rfl rfl (Tq.fin (.cons rfl .nil))
   refine Dr.quiet 2 [(22, (.pointer (some ⟨bp0, 0, none⟩)))] (by kernel_rfl) rfl rfl (by kernel_rfl) ?_ rfl rfl ?_
   ·refine Tq.va rfl (fun _ _ h1 h2 => zb (h1.ev rfl)) ?_
    exact Tq.fin (.cons rfl .nil)
   refine Dr.quiet 3 [(23, (.pointer (some ⟨bp0, 3, none⟩)))] (by kernel_rfl) rfl rfl (by kernel_rfl) ?_ rfl rfl ?_
   ·refine Tq.va rfl (fun _ _ h1 h2 => zB fo_77_1 (h1.ev rfl)) ?_
    exact Tq.fin (.cons rfl .nil)
   refine Dr.quiet 4 [(24, (.slice QL p0.tools.length QN))] (by kernel_rfl) rfl rfl (by kernel_rfl) ?_ rfl rfl ?_
   ·refine Tq.va rfl (fun _ _ h1 h2 => zC ag_75 (h1.ev rfl) (rdb h2 (vs := [(iv p0.p.Unit), (.slice QA p0.p.Tools.length QB), (.slice QD p0.p.Steps.length QC), (.slice QL p0.tools.length QN), (.slice QR p0.image.length QQ), (.bool p0.clear), (iv p0.tool), (iv y101.2.1), (iv y101.2.2.1), (.bool y101.2.2.2.1), (iv y101.2.2.2.2), (iv p0.on)]) (k := 0) rfl 3) rfl) ?_
    exact Tq.fin (.cons rfl .nil)
   refine Dr.quiet 5 [(25, (.pointer (some ⟨bp0, 0, none⟩)))] (by kernel_rfl) rfl rfl (by kernel_rfl) ?_ rfl rfl ?_
   ·exact Tq.mv rfl rfl (Tq.fin (.cons rfl .nil))
   refine Dr.quiet 6 [(26, (.pointer (some ⟨bp0, 0, none⟩)))] (by kernel_rfl) rfl rfl (by kernel_rfl) ?_ rfl rfl ?_
   ·refine Tq.va rfl (fun _ _ h1 h2 => zb (h1.ev rfl)) ?_
    exact Tq.fin (.cons rfl .nil)
   refine Dr.quiet 7 [(27, (.pointer (some ⟨bp0, 6, none⟩)))] (by kernel_rfl) rfl rfl (by kernel_rfl) ?_ rfl rfl ?_
   ·refine Tq.va rfl (fun _ _ h1 h2 => zB zKL (h1.ev rfl)) ?_
    exact Tq.fin (.cons rfl .nil)
   refine Dr.quiet 8 [(28, (iv p0.tool))] (by kernel_rfl) rfl rfl (by kernel_rfl) ?_ rfl rfl ?_
   ·refine Tq.va rfl (fun _ _ h1 h2 => zC QO (h1.ev rfl) (rdb h2 (vs := [(iv p0.p.Unit), (.slice QA p0.p.Tools.length QB), (.slice QD p0.p.Steps.length QC), (.slice QL p0.tools.length QN), (.slice QR p0.image.length QQ), (.bool p0.clear), (iv p0.tool), (iv y101.2.1), (iv y101.2.2.1), (.bool y101.2.2.2.1), (iv y101.2.2.2.2), (iv p0.on)]) (k := 0) rfl 6) rfl) ?_
    exact Tq.fin (.cons rfl .nil)
   obtain ⟨x104, hx104, H⟩ := bnd H
   obtain ⟨hx1040, hx1041, hx1042⟩ := zh hx104
   obtain ⟨u105, hRu105, hoku105, hcu105⟩ := (Jz).el hx1042
   obtain ⟨Au105_0, cu105_0⟩ := u105
   have zIa := hoku105
   refine Dr.quiet 9 [(29, (.pointer (some ⟨adB QL, adO QL + (p0.tool).toNat * 1, none⟩)))] (by kernel_rfl) rfl rfl (by kernel_rfl) ?_ rfl rfl ?_
   ·replace zIa : Sl w.R w.W zJ Au105_0 cu105_0 x104 := zIa
    refine Tq.va rfl (fun _ _ h1 h2 => zH el_75 (h1.ev rfl) Jz.form (h1.ev rfl) hx1040 hx1041) ?_
    exact Tq.fin (.cons rfl .nil)
   refine Dr.quiet 10 [(30, (.slice Au105_0 x104.length cu105_0))] (by kernel_rfl) rfl rfl (by kernel_rfl) ?_ rfl rfl ?_
   ·refine Tq.va rfl (fun _ _ h1 h2 => zC ag_66 (h1.ev rfl) (rdR hRu105 hcu105 h2) rfl) ?_
    exact Tq.fin (.cons rfl .nil)
   refine Dr.quiet 11 [(31, (.agg #[(iv p1.X), (iv p1.Y)]))] (by kernel_rfl) rfl rfl (by kernel_rfl) ?_ rfl rfl ?_
   ·refine Tq.va rfl (fun _ _ h1 h2 => zR (cs := [(iv p1.X), (iv p1.Y)]) KF JB (h1.ev rfl) (zL.take (rdb h2 (vs := [(iv p1.X), (iv p1.Y)]) (k := 2) rfl 0) 2) rfl) ?_
    exact Tq.fin (.cons rfl .nil)
   refine Dr.quiet 12 [(32, (.agg #[(iv p1.X), (iv p1.Y)]))] (by kernel_rfl) rfl rfl (by kernel_rfl) ?_ rfl rfl ?_
   ·refine Tq.va rfl (fun _ _ h1 h2 => zR (cs := [(iv p1.X), (iv p1.Y)]) KF JB (h1.ev rfl) (zL.take (rdb h2 (vs := [(iv p1.X), (iv p1.Y)]) (k := 2) rfl 0) 2) rfl) ?_
    exact Tq.fin (.cons rfl .nil)
   obtain ⟨VU, zHu, H⟩ := bnd H
   refine Dr.one 13 (by kernel_rfl) ?_
   refine St.VQ 13 [3] [emp] (U := (Option Addr × Nat)) (fun u => (.slice u.1 VU.length u.2)) (fun O W u => SlF u.1 VU.length u.2) (fun u => [ow u.1 u.2 107 zJ VU]) rfl (zM rfl zY) (fun _ => rfl) (insS_no rfl) rfl (wn rfl) rfl Tryz.call126 (zF rfl (zF rfl (zF rfl zO))) (fun W hW hp hE => zHO N x104 Au105_0 cu105_0 (zIa.ext (hW.QS hp)) p1 p1 VU zHu hE) ?_
   intro w u le107 hu hsy106
   obtain ⟨zAb, zAS⟩ := u
   have gy106_0 := hu
   replace QE := QE.leR le107
   replace QU := QU.leR le107
   replace Jz := Jz.leR le107
   replace hRu105 := le107.r _ hRu105
   replace leB := leB.trans le107
   have hgy106_0 : SlF zAb VU.length zAS := gy106_0
   show Dr _ _ _ _ _ _ _ _ _ (uf _ 33 (.slice zAb VU.length zAS)) (up _ 3 (ow zAb zAS 107 zJ VU))
   refine Dr.tail (by kernel_rfl) ?_
   refine Tr.freeze 3 rfl fun w le109 hz108 => ?_
   replace QE := QE.leR le109
   replace QU := QU.leR le109
   replace Jz := Jz.leR le109
   replace hRu105 := le109.r _ hRu105
   replace leB := leB.trans le109
   obtain ⟨zBj, zKB, H⟩ := bnd H
   refine Tr.VQ [0, 1] [bx bp0 #[(iv p0.p.Unit), (.slice QA p0.p.Tools.length QB), (.slice QD p0.p.Steps.length QC), (.slice QL p0.tools.length QN), (.slice QR p0.image.length QQ), (.bool p0.clear), (iv p0.tool), (iv y101.2.1), (iv y101.2.2.1), (.bool y101.2.2.2.1), (iv y101.2.2.2.2), (iv p0.on)] 77, ow QR QQ 107 zJ p0.image] (U := (Option Addr × Nat)) (fun u => (iv zBj.1)) (fun O W u => SlF u.1 zBj.2.length u.2) (fun u => [bx bp0 #[(iv p0.p.Unit), (.slice QA p0.p.Tools.length QB), (.slice QD p0.p.Steps.length QC), (.slice QL p0.tools.length QN), (.slice u.1 zBj.2.length u.2), (.bool p0.clear), (iv p0.tool), (iv y101.2.1), (iv y101.2.2.1), (.bool y101.2.2.2.1), (iv y101.2.2.2.2), (iv p0.on)] 77, ow u.1 u.2 107 zJ zBj.2]) rfl (zM rfl (zM rfl zY)) (fun _ => rfl) (wn rfl) rfl Tryz.call125 (zF rfl (zF rfl zO)) (fun W hW hp hE => zAr N (zAA.mk p0.p p0.tools p0.image p0.clear p0.tool (zI.mk y101.2.1 y101.2.2.1) y101.2.2.2.1 y101.2.2.2.2 p0.on) QA QB (QE.ext (hW.QS hp)) QD QC (QU.ext (hW.QS hp)) QL QN (Jz.ext (hW.QS hp)) QR QQ bp0 VU zAb zAS (hz108.zAl (hW.QS hp)) zBj zKB hE) ?_
   intro w u le111 hu
   obtain ⟨Ay110_0, cy110_0⟩ := u
   have gy110_0 := hu
   replace hRu105 := le111.r _ hRu105
   replace hz108 := hz108.le le111
   replace leB := leB.trans le111
   have hgy110_0 : SlF Ay110_0 zBj.2.length cy110_0 := gy110_0 --@phi
   show Tr _ _ (uf _ 34 (iv zBj.1)) (up (up _ 1 (ow Ay110_0 cy110_0 107 zJ zBj.2)) 0 (bx bp0 #[(iv p0.p.Unit), (.slice QA p0.p.Tools.length QB), (.slice QD p0.p.Steps.length QC), (.slice QL p0.tools.length QN), (.slice Ay110_0 zBj.2.length cy110_0), (.bool p0.clear), (iv p0.tool), (iv y101.2.1), (iv y101.2.2.1), (.bool y101.2.2.2.1), (iv y101.2.2.2.2), (iv p0.on)] 77)) _
   refine Tr.asg rfl rfl (Tr.nil (Tr.zA (Tr.ret ?_)))
   obtain rfl := Option.some.inj H
   exact Tr.out (m := [(iv zBj.1)]) [] (zP rfl zQ) (fun W hW => ⟨w, (Ay110_0, cy110_0), leB, rfl, hgy110_0, hW.pick (ks := [0, 1]) (by decide) (zM rfl (zM rfl zY))⟩)

theorem zDy {w : Bs} (p0 : zAA) (QA : Option Addr) (QB : Nat) (QE : Sl w.R w.W zK QA QB p0.p.Tools) (QD : Option Addr) (QC : Nat) (QU : Sl w.R w.W zG QD QC p0.p.Steps) (QL : Option Addr) (QN : Nat) (Jz : Sl w.R w.W Qe QL QN p0.tools) (QR : Option Addr) (QQ : Nat) (hp0_3 : Sl w.R w.W zJ QR QQ p0.image) (bp0 : Nat) (p1 : zI) (r : (Int × Int × Int × Bool × Int)) (H : KL p0 p1 = some r) (hE : HF w w.W (LEn [bx bp0 #[(iv p0.p.Unit), (.slice QA p0.p.Tools.length QB), (.slice QD p0.p.Steps.length QC), (.slice QL p0.tools.length QN), (.slice QR p0.image.length QQ), (.bool p0.clear), (iv p0.tool), (iv p0.place.X), (iv p0.place.Y), (.bool p0.placed), (iv p0.off), (iv p0.on)] 77])) : Calls Tryz.prog 104 [(.pointer (some ⟨bp0, 0, none⟩)), (.agg #[(iv p1.X), (iv p1.Y)]), (.pointer (some ⟨bp0, 11, none⟩))].toArray w.W fun e W' => ∃ u : Unit, e = .returned (iv r.1) ∧ (True) ∧ HF w W' (LEn [bx bp0 #[(iv p0.p.Unit), (.slice QA p0.p.Tools.length QB), (.slice QD p0.p.Steps.length QC), (.slice QL p0.tools.length QN), (.slice QR p0.image.length QQ), (.bool p0.clear), (iv p0.tool), (iv r.2.1), (iv r.2.2.1), (.bool r.2.2.2.1), (iv p0.off), (iv r.2.2.2.2)] 77]) := by
 unfold KL at H
 have leB := Bs.Le.refl w
 refine Tr.enter (n := 32) Tryz.func104 rfl rfl rfl hE ?_
 refine Tr.sr (Tr.box 1 (cs := [(iv p1.X), (iv p1.Y)]) (wn rfl) rfl rfl rfl fun QM => ?_)
 refine Tr.asg rfl rfl (Tr.nil (Tr.zA (Tr.seq (Tr.sr (Tr.va rfl (fun _ _ h1 h2 => zR (cs := [(iv p1.X), (iv p1.Y)]) KF JB (h1.ev rfl) (zL.take (rdb h2 (vs := [(iv p1.X), (iv p1.Y)]) (k := 1) rfl 0) 2) rfl) ?_)))))
 obtain ⟨y101, hy101, H⟩ := bnd H
 refine Tr.Qp (r := (.bool y101)) (wn rfl) rfl Tryz.call123 (zF rfl zO) (fun W hW => zCh p1 y101 hy101 (HF.start _)) ?_
 refine Tr.va rfl (fun _ _ h1 h2 => JO (h1.ev rfl)) ?_
 refine Tr.nil (Tr.zA (Tr.cond rfl H (fun H => ?_) (fun H => ?_)))
 ·refine Tr.sr (Tr.asg rfl rfl (Tr.nil (Tr.zA (Tr.ret (Tr.zU ?_)))))
  obtain rfl := Option.some.inj H
  exact Tr.out (m := [(iv 1)]) [] (zP rfl zQ) (fun W hW => ⟨(), rfl, trivial, HF.zHZ leB (hW.pick (ks := [0]) (by decide) (zM rfl zY)) ⟨zJb _ _ _, trivial⟩⟩)
 ·refine Tr.skip (Tr.zA ?_)
  have leJ104 := Bs.Le.refl w
  refine Tr.cutJ (σ := Int) (fun w s => JM p1 s = some r) (fun s => [(0, (.pointer (some ⟨bp0, 0, none⟩))), (4, (.pointer (some ⟨QM, 0, none⟩)))]) (fun s => [(0, bx bp0 #[(iv p0.p.Unit), (.slice QA p0.p.Tools.length QB), (.slice QD p0.p.Steps.length QC), (.slice QL p0.tools.length QN), (.slice QR p0.image.length QQ), (.bool p0.clear), (iv p0.tool), (iv p0.place.X), (iv p0.place.Y), (.bool p0.placed), (iv p0.off), (iv s)] 77), (1, bx QM #[(iv p1.X), (iv p1.Y)] 43)]) ?_ ?_
  ·refine Tr.sr (Tr.mv rfl rfl (Tr.va rfl (fun _ _ h1 h2 => zb (h1.ev rfl)) ?_))
   refine Tr.va rfl (fun _ _ h1 h2 => zB zKK (h1.ev rfl)) ?_
   refine Tr.va rfl (fun _ _ h1 h2 => zC ag_4 (h1.ev rfl) (rdb h2 (vs := [(iv p0.p.Unit), (.slice QA p0.p.Tools.length QB), (.slice QD p0.p.Steps.length QC), (.slice QL p0.tools.length QN), (.slice QR p0.image.length QQ), (.bool p0.clear), (iv p0.tool), (iv p0.place.X), (iv p0.place.Y), (.bool p0.placed), (iv p0.off), (iv p0.on)]) (k := 0) rfl 9) rfl) ?_
   refine Tr.nil (Tr.zA (Tr.cond rfl H (fun H => ?_) (fun H => ?_)))
   ·refine Tr.zC6 9 (by kernel_rfl) (by kernel_rfl) ?_
    refine Tq.mv rfl rfl (Tq.va rfl (fun _ _ h1 h2 => zb (h1.ev rfl)) ?_)
    refine Tq.va rfl (fun _ _ h1 h2 => zC QO (h1.ev rfl) (rdb h2 (vs := [(iv p0.p.Unit), (.slice QA p0.p.Tools.length QB), (.slice QD p0.p.Steps.length QC), (.slice QL p0.tools.length QN), (.slice QR p0.image.length QQ), (.bool p0.clear), (iv p0.tool), (iv p0.place.X), (iv p0.place.Y), (.bool p0.placed), (iv p0.off), (iv p0.on)]) (k := 0) rfl 11) rfl) ?_
    refine Tq.mv rfl rfl (Tq.va rfl (fun _ _ h1 h2 => zb (h1.ev rfl)) ?_)
    refine Tq.va rfl (fun _ _ h1 h2 => zB zGs (h1.ev rfl)) ?_
    refine Tq.va rfl (fun _ _ h1 h2 => zR (cs := [(iv p0.place.X), (iv p0.place.Y)]) KF JB (h1.ev rfl) (zL.take (rdb h2 (vs := [(iv p0.p.Unit), (.slice QA p0.p.Tools.length QB), (.slice QD p0.p.Steps.length QC), (.slice QL p0.tools.length QN), (.slice QR p0.image.length QQ), (.bool p0.clear), (iv p0.tool), (iv p0.place.X), (iv p0.place.Y), (.bool p0.placed), (iv p0.off), (iv p0.on)]) (k := 0) rfl 7) 2) rfl) ?_
    refine Tq.va rfl (fun _ _ h1 h2 => zR (cs := [(iv p1.X), (iv p1.Y)]) KF JB (h1.ev rfl) (zL.take (rdb h2 (vs := [(iv p1.X), (iv p1.Y)]) (k := 1) rfl 0) 2) rfl) ?_
    obtain ⟨VU, zHu, H⟩ := bnd H
    refine Tq.Qp (r := (iv VU)) (wn rfl) rfl Tryz.call124 (zF rfl (zF rfl zO)) (fun W hW => zJH p0.place p1 VU zHu (HF.start _)) ?_
    refine Tq.nil (Tr.va rfl (fun _ _ h1 h2 => zx (h1.ev rfl) (h1.ev rfl)) ?_)
    refine Tr.va rfl (fun _ _ h1 h2 => zb (h1.ev rfl)) ?_
    refine Tr.store 0 (cs := [(iv (w64 (p0.on + VU)))]) [(iv p0.p.Unit), (.slice QA p0.p.Tools.length QB), (.slice QD p0.p.Steps.length QC), (.slice QL p0.tools.length QN), (.slice QR p0.image.length QQ), (.bool p0.clear), (iv p0.tool), (iv p0.place.X), (iv p0.place.Y), (.bool p0.placed), (iv p0.off), (iv (w64 (p0.on + VU)))] (wn rfl) rfl rfl rfl rfl zIz rfl rfl rfl ?_
    exact Tr.nil (Tr.zZ leJ104 (w64 (p0.on + VU)) H (.cons rfl (.cons rfl .nil)) (.cons rfl (.cons rfl .nil)))
   ·exact Tr.skip (Tr.zZ leJ104 p0.on H (.cons rfl (.cons rfl .nil)) (.cons rfl (.cons rfl .nil)))
  ·intro w x103 hlJ105 hs
   have H := hs
   replace H : JM p1 x103 = some r := H
   replace leB := leB.trans hlJ105
   unfold JM at H
   show Tr _ _ (LF [(0, (.pointer (some ⟨bp0, 0, none⟩))), (4, (.pointer (some ⟨QM, 0, none⟩)))]) (LE [(0, bx bp0 #[(iv p0.p.Unit), (.slice QA p0.p.Tools.length QB), (.slice QD p0.p.Steps.length QC), (.slice QL p0.tools.length QN), (.slice QR p0.image.length QQ), (.bool p0.clear), (iv p0.tool), (iv p0.place.X), (iv p0.place.Y), (.bool p0.placed), (iv p0.off), (iv x103)] 77), (1, bx QM #[(iv p1.X), (iv p1.Y)] 43)]) _
   refine Tr.sr (Tr.mv rfl rfl (Tr.mv rfl rfl (Tr.va rfl (fun _ _ h1 h2 => zR (cs := [(iv p1.X), (iv p1.Y)]) KF JB (h1.ev rfl) (zL.take (rdb h2 (vs := [(iv p1.X), (iv p1.Y)]) (k := 1) rfl 0) 2) rfl) ?_)))
   refine Tr.va rfl (fun _ _ h1 h2 => zb (h1.ev rfl)) ?_
   refine Tr.va rfl (fun _ _ h1 h2 => zB zGs (h1.ev rfl)) ?_
   refine Tr.store 0 (cs := [(iv p1.X), (iv p1.Y)]) [(iv p0.p.Unit), (.slice QA p0.p.Tools.length QB), (.slice QD p0.p.Steps.length QC), (.slice QL p0.tools.length QN), (.slice QR p0.image.length QQ), (.bool p0.clear), (iv p0.tool), (iv p1.X), (iv p1.Y), (.bool p0.placed), (iv p0.off), (iv x103)] (wn rfl) rfl rfl rfl rfl JB rfl rfl rfl ?_
   refine Tr.va rfl (fun _ _ h1 h2 => zb (h1.ev rfl)) ?_
   refine Tr.va rfl (fun _ _ h1 h2 => zB zKK (h1.ev rfl)) ?_
   refine Tr.store 0 (cs := [(.bool true)]) [(iv p0.p.Unit), (.slice QA p0.p.Tools.length QB), (.slice QD p0.p.Steps.length QC), (.slice QL p0.tools.length QN), (.slice QR p0.image.length QQ), (.bool p0.clear), (iv p0.tool), (iv p1.X), (iv p1.Y), (.bool true), (iv p0.off), (iv x103)] (wn rfl) rfl rfl rfl rfl sz_4 rfl rfl rfl ?_
   refine Tr.nil (Tr.zA (Tr.sr (Tr.asg rfl rfl (Tr.nil (Tr.zA (Tr.ret ?_))))))
   obtain rfl := Option.some.inj H
   exact Tr.out (m := [(iv 0)]) [] (zP rfl zQ) (fun W hW => ⟨(), rfl, trivial, HF.zHZ leB (hW.pick (ks := [0]) (by decide) (zM rfl zY)) ⟨zJb _ _ _, trivial⟩⟩)

theorem zGa (N : Nat) {w : Bs} (p0 : zAA) (QA : Option Addr) (QB : Nat) (QE : Sl w.R w.W zK QA QB p0.p.Tools) (QD : Option Addr) (QC : Nat) (QU : Sl w.R w.W zG QD QC p0.p.Steps) (QL : Option Addr) (QN : Nat) (Jz : Sl w.R w.W Qe QL QN p0.tools) (QR : Option Addr) (QQ : Nat) (bp0 : Nat) (p1 : zI) (r : (Int × Int × Int × Bool × Int × (List zV))) (H : Vp N p0 p1 = some r) (hE : HF w w.W (LEn [bx bp0 #[(iv p0.p.Unit), (.slice QA p0.p.Tools.length QB), (.slice QD p0.p.Steps.length QC), (.slice QL p0.tools.length QN), (.slice QR p0.image.length QQ), (.bool p0.clear), (iv p0.tool), (iv p0.place.X), (iv p0.place.Y), (.bool p0.placed), (iv p0.off), (iv p0.on)] 77, ow QR QQ 107 zJ p0.image])) : Calls Tryz.prog 106 [(.pointer (some ⟨bp0, 0, none⟩)), (.agg #[(iv p1.X), (iv p1.Y)])].toArray w.W fun e W' => ∃ (w' : Bs) (u : (Option Addr × Nat)), w.Le w' ∧ e = .returned (iv r.1) ∧ (SlF u.1 r.2.2.2.2.2.length u.2) ∧ HF w' W' (LEn [bx bp0 #[(iv p0.p.Unit), (.slice QA p0.p.Tools.length QB), (.slice QD p0.p.Steps.length QC), (.slice QL p0.tools.length QN), (.slice u.1 r.2.2.2.2.2.length u.2), (.bool p0.clear), (iv p0.tool), (iv r.2.1), (iv r.2.2.1), (.bool r.2.2.2.1), (iv p0.off), (iv r.2.2.2.2.1)] 77, ow u.1 u.2 107 zJ r.2.2.2.2.2]) := by
 unfold Vp at H
 have WQ := (hE.sl (k := 1) rfl).form
 have leB := Bs.Le.refl w
 refine Tr.enter (n := 65) Tryz.func106 rfl rfl rfl hE ?_
 refine Tr.sr (Tr.box 2 (cs := [(iv p1.X), (iv p1.Y)]) (wn rfl) rfl rfl rfl fun QM => ?_)
 refine Tr.asg rfl rfl (Tr.nil (Tr.zA (Tr.seq (Tr.sr (Tr.mv rfl rfl (Tr.va rfl (fun _ _ h1 h2 => zb (h1.ev rfl)) ?_))))))
 refine Tr.va rfl (fun _ _ h1 h2 => zB zKL (h1.ev rfl)) ?_
 refine Tr.va rfl (fun _ _ h1 h2 => zC QO (h1.ev rfl) (rdb h2 (vs := [(iv p0.p.Unit), (.slice QA p0.p.Tools.length QB), (.slice QD p0.p.Steps.length QC), (.slice QL p0.tools.length QN), (.slice QR p0.image.length QQ), (.bool p0.clear), (iv p0.tool), (iv p0.place.X), (iv p0.place.Y), (.bool p0.placed), (iv p0.off), (iv p0.on)]) (k := 0) rfl 6) rfl) ?_
 refine Tr.va rfl (fun _ _ h1 h2 => zz (h1.ev rfl) (h1.ev rfl)) ?_
 refine Tr.mv rfl rfl (Tr.VR 6 [(0, (.pointer (some ⟨bp0, 0, none⟩))), (3, (.pointer (some ⟨QM, 0, none⟩))), (18, (.bool ((decide (p0.tool < 0)) || (!p0.placed))))] [(0, bx bp0 #[(iv p0.p.Unit), (.slice QA p0.p.Tools.length QB), (.slice QD p0.p.Steps.length QC), (.slice QL p0.tools.length QN), (.slice QR p0.image.length QQ), (.bool p0.clear), (iv p0.tool), (iv p0.place.X), (iv p0.place.Y), (.bool p0.placed), (iv p0.off), (iv p0.on)] 77), (1, ow QR QQ 107 zJ p0.image), (2, bx QM #[(iv p1.X), (iv p1.Y)] 43)] ?_ ?_)
 ·cases hg112 : (decide (p0.tool < 0))
  ·refine Tr.val (wg rfl rfl rfl) rfl (fun _ _ h1 h2 => run_move (h1.ev rfl)) ?_
   refine Tr.val (wg rfl rfl rfl) rfl (fun _ _ h1 h2 => zb (h1.ev rfl)) ?_
   refine Tr.val (wg rfl rfl rfl) rfl (fun _ _ h1 h2 => zB zKK (h1.ev rfl)) ?_
   refine Tr.val (wg rfl rfl rfl) rfl (fun _ _ h1 h2 => zC ag_4 (h1.ev rfl) (rdb h2 (vs := [(iv p0.p.Unit), (.slice QA p0.p.Tools.length QB), (.slice QD p0.p.Steps.length QC), (.slice QL p0.tools.length QN), (.slice QR p0.image.length QQ), (.bool p0.clear), (iv p0.tool), (iv p0.place.X), (iv p0.place.Y), (.bool p0.placed), (iv p0.off), (iv p0.on)]) (k := 0) rfl 9) rfl) ?_
   refine Tr.val (wg rfl rfl rfl) rfl (fun _ _ h1 h2 => JO (h1.ev rfl)) ?_
   refine Tr.va rfl (fun _ _ h1 h2 => zf (h1.ev rfl) (h1.ev rfl)) ?_
   exact Tr.nil (Tr.Qo (.cons rfl (.cons rfl (.cons rfl .nil))) (.cons rfl (.cons rfl (.cons rfl .nil))))
  ·refine Tr.pass rfl rfl rfl rfl rfl (by decide) ?_
   refine Tr.pass rfl rfl rfl rfl rfl (by decide) ?_
   refine Tr.pass rfl rfl rfl rfl rfl (by decide) ?_
   refine Tr.pass rfl rfl rfl rfl rfl (by decide) ?_
   refine Tr.pass rfl rfl rfl rfl rfl (by decide) ?_
   refine Tr.va rfl (fun _ _ h1 h2 => ze (h1.ev rfl) (h1.ev rfl)) ?_
   exact Tr.nil (Tr.Qo (.cons rfl (.cons rfl (.cons rfl .nil))) (.cons rfl (.cons rfl (.cons rfl .nil))))
 ·show Tr _ _ (LF [(0, (.pointer (some ⟨bp0, 0, none⟩))), (3, (.pointer (some ⟨QM, 0, none⟩))), (18, (.bool ((decide (p0.tool < 0)) || (!p0.placed))))]) (LE [(0, bx bp0 #[(iv p0.p.Unit), (.slice QA p0.p.Tools.length QB), (.slice QD p0.p.Steps.length QC), (.slice QL p0.tools.length QN), (.slice QR p0.image.length QQ), (.bool p0.clear), (iv p0.tool), (iv p0.place.X), (iv p0.place.Y), (.bool p0.placed), (iv p0.off), (iv p0.on)] 77), (1, ow QR QQ 107 zJ p0.image), (2, bx QM #[(iv p1.X), (iv p1.Y)] 43)]) _
  refine Tr.nil (Tr.zA (Tr.cond rfl H (fun H => ?_) (fun H => ?_)))
  ·refine Tr.sr (Tr.asg rfl rfl (Tr.nil (Tr.zA (Tr.ret (Tr.zU ?_)))))
   obtain rfl := Option.some.inj H
   exact Tr.out (m := [(iv 11)]) [] (zP rfl zQ) (fun W hW => ⟨w, (QR, QQ), leB, rfl, WQ, hW.pick (ks := [0, 1]) (by decide) (zM rfl (zM rfl zY))⟩)
  ·refine Tr.skip (Tr.zA (Tr.seq (Tr.seq (Tr.draw (by kernel_rfl) (by kernel_rfl) ?_))))
   refine Tq.va rfl (fun _ _ h1 h2 => zB VL (h1.ev rfl)) ?_
   refine Tq.va rfl (fun _ _ h1 h2 => zC QO (h1.ev rfl) (rdb h2 (vs := [(iv p1.X), (iv p1.Y)]) (k := 2) rfl 0) rfl) ?_
   refine Tq.mv rfl rfl (Tq.va rfl (fun _ _ h1 h2 => zb (h1.ev rfl)) ?_)
   refine Tq.va rfl (fun _ _ h1 h2 => zB zGs (h1.ev rfl)) ?_
   refine Tq.va rfl (fun _ _ h1 h2 => zB VL (h1.ev rfl)) ?_
   refine Tq.va rfl (fun _ _ h1 h2 => zC QO (h1.ev rfl) (rdb h2 (vs := [(iv p0.p.Unit), (.slice QA p0.p.Tools.length QB), (.slice QD p0.p.Steps.length QC), (.slice QL p0.tools.length QN), (.slice QR p0.image.length QQ), (.bool p0.clear), (iv p0.tool), (iv p0.place.X), (iv p0.place.Y), (.bool p0.placed), (iv p0.off), (iv p0.on)]) (k := 0) rfl 7) rfl) ?_
   refine Tq.va rfl (fun _ _ h1 h2 => Jv (h1.ev rfl) (h1.ev rfl)) ?_
   refine Tq.mv rfl rfl (Tq.mid 9 [(0, (.pointer (some ⟨bp0, 0, none⟩))), (3, (.pointer (some ⟨QM, 0, none⟩))), (36, (.bool ((p1.X != p0.place.X) && (p1.Y != p0.place.Y))))] ?_ ?_)
   ·cases hg112 : (p1.X != p0.place.X)
    ·refine Tq.pass rfl rfl rfl rfl rfl (by decide) ?_
     refine Tq.pass rfl rfl rfl rfl rfl (by decide) ?_
     refine Tq.pass rfl rfl rfl rfl rfl (by decide) ?_
     refine Tq.pass rfl rfl rfl rfl rfl (by decide) ?_
     refine Tq.pass rfl rfl rfl rfl rfl (by decide) ?_
     refine Tq.pass rfl rfl rfl rfl rfl (by decide) ?_
     refine Tq.pass rfl rfl rfl rfl rfl (by decide) ?_
     refine Tq.pass rfl rfl rfl rfl rfl (by decide) ?_
     refine Tq.va rfl (fun _ _ h1 h2 => zf (h1.ev rfl) (h1.ev rfl)) ?_
     exact Tq.fin (.cons rfl (.cons rfl (.cons rfl .nil)))
    ·refine Tq.val (wg rfl rfl rfl) rfl (fun _ _ h1 h2 => zB Kt (h1.ev rfl)) ?_
     refine Tq.val (wg rfl rfl rfl) rfl (fun _ _ h1 h2 => zC QO (h1.ev rfl) (rdb h2 (vs := [(iv p1.X), (iv p1.Y)]) (k := 2) rfl 1) rfl) ?_
     refine Tq.val (wg rfl rfl rfl) rfl (fun _ _ h1 h2 => run_move (h1.ev rfl)) ?_
     refine Tq.val (wg rfl rfl rfl) rfl (fun _ _ h1 h2 => zb (h1.ev rfl)) ?_
     refine Tq.val (wg rfl rfl rfl) rfl (fun _ _ h1 h2 => zB zGs (h1.ev rfl)) ?_
     refine Tq.val (wg rfl rfl rfl) rfl (fun _ _ h1 h2 => zB Kt (h1.ev rfl)) ?_
     refine Tq.val (wg rfl rfl rfl) rfl (fun _ _ h1 h2 => zC QO (h1.ev rfl) (rdb h2 (vs := [(iv p0.p.Unit), (.slice QA p0.p.Tools.length QB), (.slice QD p0.p.Steps.length QC), (.slice QL p0.tools.length QN), (.slice QR p0.image.length QQ), (.bool p0.clear), (iv p0.tool), (iv p0.place.X), (iv p0.place.Y), (.bool p0.placed), (iv p0.off), (iv p0.on)]) (k := 0) rfl 8) rfl) ?_
     refine Tq.val (wg rfl rfl rfl) rfl (fun _ _ h1 h2 => Jv (h1.ev rfl) (h1.ev rfl)) ?_
     refine Tq.va rfl (fun _ _ h1 h2 => ze (h1.ev rfl) (h1.ev rfl)) ?_
     exact Tq.fin (.cons rfl (.cons rfl (.cons rfl .nil)))
   ·refine Tq.nil (Tr.zA (Tr.cond rfl H (fun H => ?_) (fun H => ?_)))
    ·refine Tr.sr (Tr.asg rfl rfl (Tr.nil (Tr.zA (Tr.ret (Tr.zU ?_)))))
     obtain rfl := Option.some.inj H
     exact Tr.out (m := [(iv 3)]) [] (zP rfl zQ) (fun W hW => ⟨w, (QR, QQ), leB, rfl, WQ, hW.pick (ks := [0, 1]) (by decide) (zM rfl (zM rfl zY))⟩)
    ·refine Tr.skip (Tr.zA (Tr.sr (Tr.mv rfl rfl (Tr.va rfl (fun _ _ h1 h2 => zb (h1.ev rfl)) ?_))))
     refine Tr.va rfl (fun _ _ h1 h2 => zB zGs (h1.ev rfl)) ?_
     refine Tr.va rfl (fun _ _ h1 h2 => zR (cs := [(iv p0.place.X), (iv p0.place.Y)]) KF JB (h1.ev rfl) (zL.take (rdb h2 (vs := [(iv p0.p.Unit), (.slice QA p0.p.Tools.length QB), (.slice QD p0.p.Steps.length QC), (.slice QL p0.tools.length QN), (.slice QR p0.image.length QQ), (.bool p0.clear), (iv p0.tool), (iv p0.place.X), (iv p0.place.Y), (.bool p0.placed), (iv p0.off), (iv p0.on)]) (k := 0) rfl 7) 2) rfl) ?_
     refine Tr.alloc 3 (wn rfl) rfl zHe fun Qt => ?_
     refine Tr.store 3 (cs := [(iv p0.place.X), (iv p0.place.Y)]) [(iv p0.place.X), (iv p0.place.Y)] (wn rfl) rfl rfl rfl rfl JB rfl rfl rfl ?_
     refine Tr.nil (Tr.zA (Tr.seq (Tr.seq (Tr.zC6 5 (by kernel_rfl) (by kernel_rfl) ?_))))
     refine Tq.mv rfl rfl (Tq.va rfl (fun _ _ h1 h2 => zR (cs := [(iv p1.X), (iv p1.Y)]) KF JB (h1.ev rfl) (zL.take (rdb h2 (vs := [(iv p1.X), (iv p1.Y)]) (k := 2) rfl 0) 2) rfl) ?_)
     refine Tq.mv rfl rfl (Tq.va rfl (fun _ _ h1 h2 => zb (h1.ev rfl)) ?_)
     refine Tq.va rfl (fun _ _ h1 h2 => zB fo_77_8 (h1.ev rfl)) ?_
     refine Tq.nil ?_
     obtain ⟨y102, hy102, H⟩ := bnd H
     refine Tr.VP [0] [bx bp0 #[(iv p0.p.Unit), (.slice QA p0.p.Tools.length QB), (.slice QD p0.p.Steps.length QC), (.slice QL p0.tools.length QN), (.slice QR p0.image.length QQ), (.bool p0.clear), (iv p0.tool), (iv p0.place.X), (iv p0.place.Y), (.bool p0.placed), (iv p0.off), (iv p0.on)] 77] (U := Unit) (fun u => (iv y102.1)) (fun u => True) (fun u => [bx bp0 #[(iv p0.p.Unit), (.slice QA p0.p.Tools.length QB), (.slice QD p0.p.Steps.length QC), (.slice QL p0.tools.length QN), (.slice QR p0.image.length QQ), (.bool p0.clear), (iv p0.tool), (iv y102.2.1), (iv y102.2.2.1), (.bool y102.2.2.2.1), (iv p0.off), (iv y102.2.2.2.2)] 77]) rfl (zM rfl zY) (fun _ => rfl) (wn rfl) rfl Tryz.call104 (zF rfl (zF rfl (zF rfl zO))) (fun W hW hp hE => zDy p0 QA QB (QE.ext (hW.QS hp)) QD QC (QU.ext (hW.QS hp)) QL QN (Jz.ext (hW.QS hp)) QR QQ (hW.slS (k := 1) rfl hp rfl) bp0 p1 y102 hy102 hE) ?_
     intro u hu
     show Tr _ _ (uf _ 46 (iv y102.1)) (up _ 0 (bx bp0 #[(iv p0.p.Unit), (.slice QA p0.p.Tools.length QB), (.slice QD p0.p.Steps.length QC), (.slice QL p0.tools.length QN), (.slice QR p0.image.length QQ), (.bool p0.clear), (iv p0.tool), (iv y102.2.1), (iv y102.2.2.1), (.bool y102.2.2.2.1), (iv p0.off), (iv y102.2.2.2.2)] 77)) _
     refine Tr.asg rfl rfl (Tr.nil (Tr.zA (Tr.sr (Tr.mv rfl rfl (Tr.va rfl (fun _ _ h1 h2 => Jv (h1.ev rfl) (h1.ev rfl)) ?_)))))
     refine Tr.nil (Tr.zA (Tr.cond rfl H (fun H => ?_) (fun H => ?_)))
     ·refine Tr.sr (Tr.mv rfl rfl (Tr.asg rfl rfl (Tr.nil (Tr.zA (Tr.ret (Tr.zU ?_))))))
      obtain rfl := Option.some.inj H
      exact Tr.out (m := [(iv y102.1)]) [] (zP rfl zQ) (fun W hW => ⟨w, (QR, QQ), leB, rfl, WQ, hW.pick (ks := [0, 1]) (by decide) (zM rfl (zM rfl zY))⟩)
     ·refine Tr.skip (Tr.zA (Tr.seq (Tr.zHL 14 [] [] (by kernel_rfl) (by kernel_rfl) fun sz104 hlosz104 hEsz104 => ?_)))
      refine Dr.quiet 0 [(50, (.pointer (some ⟨bp0, 0, none⟩)))] (by kernel_rfl) rfl rfl (by kernel_rfl) ?_ rfl rfl ?_
      ·exact Tq.mv rfl rfl (Tq.fin (.cons rfl .nil))
      refine Dr.quiet 1 [(51, (.pointer (some ⟨bp0, 0, none⟩)))] (by kernel_rfl) rfl rfl (by kernel_rfl) ?_ rfl rfl ?_
      ·exact Tq.mv rfl rfl (Tq.fin (.cons rfl .nil))
      refine Dr.quiet 2 [(52, (.pointer (some ⟨bp0, 0, none⟩)))] (by kernel_rfl) rfl rfl (by kernel_rfl) ?_ rfl rfl ?_
      ·refine Tq.va rfl (fun _ _ h1 h2 => zb (h1.ev rfl)) ?_
       exact Tq.fin (.cons rfl .nil)
      refine Dr.quiet 3 [(53, (.pointer (some ⟨bp0, 3, none⟩)))] (by kernel_rfl) rfl rfl (by kernel_rfl) ?_ rfl rfl ?_
      ·refine Tq.va rfl (fun _ _ h1 h2 => zB fo_77_1 (h1.ev rfl)) ?_
       exact Tq.fin (.cons rfl .nil)
      refine Dr.quiet 4 [(54, (.slice QL p0.tools.length QN))] (by kernel_rfl) rfl rfl (by kernel_rfl) ?_ rfl rfl ?_
      ·refine Tq.va rfl (fun _ _ h1 h2 => zC ag_75 (h1.ev rfl) (rdb h2 (vs := [(iv p0.p.Unit), (.slice QA p0.p.Tools.length QB), (.slice QD p0.p.Steps.length QC), (.slice QL p0.tools.length QN), (.slice QR p0.image.length QQ), (.bool p0.clear), (iv p0.tool), (iv y102.2.1), (iv y102.2.2.1), (.bool y102.2.2.2.1), (iv p0.off), (iv y102.2.2.2.2)]) (k := 0) rfl 3) rfl) ?_
       exact Tq.fin (.cons rfl .nil)
      refine Dr.quiet 5 [(55, (.pointer (some ⟨bp0, 0, none⟩)))] (by kernel_rfl) rfl rfl (by kernel_rfl) ?_ rfl rfl ?_
      ·exact Tq.mv rfl rfl (Tq.fin (.cons rfl .nil))
      refine Dr.quiet 6 [(56, (.pointer (some ⟨bp0, 0, none⟩)))] (by kernel_rfl) rfl rfl (by kernel_rfl) ?_ rfl rfl ?_
      ·refine Tq.va rfl (fun _ _ h1 h2 => zb (h1.ev rfl)) ?_
       exact Tq.fin (.cons rfl .nil)
      refine Dr.quiet 7 [(57, (.pointer (some ⟨bp0, 6, none⟩)))] (by kernel_rfl) rfl rfl (by kernel_rfl) ?_ rfl rfl ?_
      ·refine Tq.va rfl (fun _ _ h1 h2 => zB zKL (h1.ev rfl)) ?_
       exact Tq.fin (.cons rfl .nil)
      refine Dr.quiet 8 [(58, (iv p0.tool))] (by kernel_rfl) rfl rfl (by kernel_rfl) ?_ rfl rfl ?_
      ·refine Tq.va rfl (fun _ _ h1 h2 => zC QO (h1.ev rfl) (rdb h2 (vs := [(iv p0.p.Unit), (.slice QA p0.p.Tools.length QB), (.slice QD p0.p.Steps.length QC), (.slice QL p0.tools.length QN), (.slice QR p0.image.length QQ), (.bool p0.clear), (iv p0.tool), (iv y102.2.1), (iv y102.2.2.1), (.bool y102.2.2.2.1), (iv p0.off), (iv y102.2.2.2.2)]) (k := 0) rfl 6) rfl) ?_
       exact Tq.fin (.cons rfl .nil)
      obtain ⟨x105, hx105, H⟩ := bnd H
      obtain ⟨hx1050, hx1051, hx1052⟩ := zh hx105
      obtain ⟨u106, hRu106, hoku106, hcu106⟩ := (Jz).el hx1052
      obtain ⟨Au106_0, cu106_0⟩ := u106
      have zIZ := hoku106
      refine Dr.quiet 9 [(59, (.pointer (some ⟨adB QL, adO QL + (p0.tool).toNat * 1, none⟩)))] (by kernel_rfl) rfl rfl (by kernel_rfl) ?_ rfl rfl ?_
      ·replace zIZ : Sl w.R w.W zJ Au106_0 cu106_0 x105 := zIZ
       refine Tq.va rfl (fun _ _ h1 h2 => zH el_75 (h1.ev rfl) Jz.form (h1.ev rfl) hx1050 hx1051) ?_
       exact Tq.fin (.cons rfl .nil)
      refine Dr.quiet 10 [(60, (.slice Au106_0 x105.length cu106_0))] (by kernel_rfl) rfl rfl (by kernel_rfl) ?_ rfl rfl ?_
      ·refine Tq.va rfl (fun _ _ h1 h2 => zC ag_66 (h1.ev rfl) (rdR hRu106 hcu106 h2) rfl) ?_
       exact Tq.fin (.cons rfl .nil)
      refine Dr.quiet 11 [(61, (.agg #[(iv p0.place.X), (iv p0.place.Y)]))] (by kernel_rfl) rfl rfl (by kernel_rfl) ?_ rfl rfl ?_
      ·refine Tq.va rfl (fun _ _ h1 h2 => zR (cs := [(iv p0.place.X), (iv p0.place.Y)]) KF JB (h1.ev rfl) (zL.take (rdb h2 (vs := [(iv p0.place.X), (iv p0.place.Y)]) (k := 3) rfl 0) 2) rfl) ?_
       exact Tq.fin (.cons rfl .nil)
      refine Dr.quiet 12 [(62, (.agg #[(iv p1.X), (iv p1.Y)]))] (by kernel_rfl) rfl rfl (by kernel_rfl) ?_ rfl rfl ?_
      ·refine Tq.va rfl (fun _ _ h1 h2 => zR (cs := [(iv p1.X), (iv p1.Y)]) KF JB (h1.ev rfl) (zL.take (rdb h2 (vs := [(iv p1.X), (iv p1.Y)]) (k := 2) rfl 0) 2) rfl) ?_
       exact Tq.fin (.cons rfl .nil)
      obtain ⟨JJ, hy107, H⟩ := bnd H
      refine Dr.one 13 (by kernel_rfl) ?_
      refine St.VQ 13 [4] [emp] (U := (Option Addr × Nat)) (fun u => (.slice u.1 JJ.length u.2)) (fun O W u => SlF u.1 JJ.length u.2) (fun u => [ow u.1 u.2 107 zJ JJ]) rfl (zM rfl zY) (fun _ => rfl) (insS_no rfl) rfl (wn rfl) rfl Tryz.call126 (zF rfl (zF rfl (zF rfl zO))) (fun W hW hp hE => zHO N x105 Au106_0 cu106_0 (zIZ.ext (hW.QS hp)) p0.place p1 JJ hy107 hE) ?_
      intro w u zGJ hu hsy107
      obtain ⟨WA, Vw⟩ := u
      have gy107_0 := hu
      replace QE := QE.leR zGJ
      replace QU := QU.leR zGJ
      replace Jz := Jz.leR zGJ
      replace hRu106 := zGJ.r _ hRu106
      replace leB := leB.trans zGJ
      have hgy107_0 : SlF WA JJ.length Vw := gy107_0
      show Dr _ _ _ _ _ _ _ _ _ (uf _ 63 (.slice WA JJ.length Vw)) (up _ 4 (ow WA Vw 107 zJ JJ))
      refine Dr.tail (by kernel_rfl) ?_
      refine Tr.freeze 4 rfl fun w le110 hz109 => ?_
      replace QE := QE.leR le110
      replace QU := QU.leR le110
      replace Jz := Jz.leR le110
      replace hRu106 := le110.r _ hRu106
      replace leB := leB.trans le110
      obtain ⟨VF, hy111, H⟩ := bnd H
      refine Tr.VQ [0, 1] [bx bp0 #[(iv p0.p.Unit), (.slice QA p0.p.Tools.length QB), (.slice QD p0.p.Steps.length QC), (.slice QL p0.tools.length QN), (.slice QR p0.image.length QQ), (.bool p0.clear), (iv p0.tool), (iv y102.2.1), (iv y102.2.2.1), (.bool y102.2.2.2.1), (iv p0.off), (iv y102.2.2.2.2)] 77, ow QR QQ 107 zJ p0.image] (U := (Option Addr × Nat)) (fun u => (iv VF.1)) (fun O W u => SlF u.1 VF.2.length u.2) (fun u => [bx bp0 #[(iv p0.p.Unit), (.slice QA p0.p.Tools.length QB), (.slice QD p0.p.Steps.length QC), (.slice QL p0.tools.length QN), (.slice u.1 VF.2.length u.2), (.bool p0.clear), (iv p0.tool), (iv y102.2.1), (iv y102.2.2.1), (.bool y102.2.2.2.1), (iv p0.off), (iv y102.2.2.2.2)] 77, ow u.1 u.2 107 zJ VF.2]) rfl (zM rfl (zM rfl zY)) (fun _ => rfl) (wn rfl) rfl Tryz.call125 (zF rfl (zF rfl zO)) (fun W hW hp hE => zAr N (zAA.mk p0.p p0.tools p0.image p0.clear p0.tool (zI.mk y102.2.1 y102.2.2.1) y102.2.2.2.1 p0.off y102.2.2.2.2) QA QB (QE.ext (hW.QS hp)) QD QC (QU.ext (hW.QS hp)) QL QN (Jz.ext (hW.QS hp)) QR QQ bp0 JJ WA Vw (hz109.zAl (hW.QS hp)) VF hy111 hE) ?_
      intro w u le112 hu
      obtain ⟨zBI, zBA⟩ := u
      have gy111_0 := hu
      replace hRu106 := le112.r _ hRu106
      replace hz109 := hz109.le le112
      replace leB := leB.trans le112
      have hgy111_0 : SlF zBI VF.2.length zBA := gy111_0 --@phi
      show Tr _ _ (uf _ 64 (iv VF.1)) (up (up _ 1 (ow zBI zBA 107 zJ VF.2)) 0 (bx bp0 #[(iv p0.p.Unit), (.slice QA p0.p.Tools.length QB), (.slice QD p0.p.Steps.length QC), (.slice QL p0.tools.length QN), (.slice zBI VF.2.length zBA), (.bool p0.clear), (iv p0.tool), (iv y102.2.1), (iv y102.2.2.1), (.bool y102.2.2.2.1), (iv p0.off), (iv y102.2.2.2.2)] 77)) _
      refine Tr.asg rfl rfl (Tr.nil (Tr.zA (Tr.ret ?_)))
      obtain rfl := Option.some.inj H
      exact Tr.out (m := [(iv VF.1)]) [] (zP rfl zQ) (fun W hW => ⟨w, (zBI, zBA), leB, rfl, hgy111_0, hW.pick (ks := [0, 1]) (by decide) (zM rfl (zM rfl zY))⟩)

theorem zI4 {w : Bs} (p0 : zT) (p1 : zT) (r : Int) (H : Wd p0 p1 = some r) (hE : HF w w.W E0) : Calls Tryz.prog 157 [(.agg #[(iv p0.X0), (iv p0.Y0), (iv p0.X1), (iv p0.Y1)]), (.agg #[(iv p1.X0), (iv p1.Y0), (iv p1.X1), (iv p1.Y1)])].toArray w.W fun e W' => e = .returned (iv r) ∧ HF w W' E0 := by
 unfold Wd at H
 have leB := Bs.Le.refl w
 refine Tr.enter (n := 10) Tryz.func157 rfl rfl rfl hE ?_
 refine Tr.sr (Tr.box 1 (cs := [(iv p0.X0), (iv p0.Y0), (iv p0.X1), (iv p0.Y1)]) (wn rfl) rfl rfl rfl fun QM => ?_)
 refine Tr.box 2 (cs := [(iv p1.X0), (iv p1.Y0), (iv p1.X1), (iv p1.Y1)]) (wn rfl) rfl rfl rfl fun Qt => ?_
 refine Tr.asg rfl rfl (Tr.nil (Tr.zA (Tr.sr (Tr.va rfl (fun _ _ h1 h2 => zB Wz (h1.ev rfl)) ?_))))
 refine Tr.va rfl (fun _ _ h1 h2 => zC QO (h1.ev rfl) (rdb h2 (vs := [(iv p0.X0), (iv p0.Y0), (iv p0.X1), (iv p0.Y1)]) (k := 1) rfl 0) rfl) ?_
 refine Tr.va rfl (fun _ _ h1 h2 => zB Wz (h1.ev rfl)) ?_
 refine Tr.va rfl (fun _ _ h1 h2 => zC QO (h1.ev rfl) (rdb h2 (vs := [(iv p1.X0), (iv p1.Y0), (iv p1.X1), (iv p1.Y1)]) (k := 2) rfl 0) rfl) ?_
 refine Tr.va rfl (fun _ _ h1 h2 => Wm (h1.ev rfl) (h1.ev rfl)) ?_
 refine Tr.asg rfl rfl (Tr.nil (Tr.zA (Tr.ret ?_)))
 obtain rfl := Option.some.inj H
 exact Tr.out (m := [(iv (w64 (p0.X0 - p1.X0)))]) [] (zP rfl zQ) (fun W hW => ⟨rfl, hW.low leB⟩)

theorem zKd (N : Nat) {w : Bs} (p0 : (List (List zI))) (QA : Option Addr) (QB : Nat) (QE : Sl w.R w.W fl_LTPoint QA QB p0) (r : (List zV)) (H : zBx N p0 = some r) (hE : HF w w.W (LEn [emp])) : Calls Tryz.prog 127 [(.slice QA p0.length QB)].toArray w.W fun e W' => ∃ (w' : Bs) (u : (Option Addr × Nat)), w.Le w' ∧ e = .returned (.slice u.1 r.length u.2) ∧ (SlF u.1 r.length u.2) ∧ HF w' W' (LEn [ow u.1 u.2 107 zJ r]) := by
 unfold zBx at H
 have leB := Bs.Le.refl w
 refine Tr.enter (n := 138) Tryz.func127 rfl rfl rfl hE ?_
 refine Tr.sr (Tr.asg rfl rfl (Tr.JS 1 107 zJ ?_))
 show Tr _ _ (uf _ 2 (.slice none (([] : List zV)).length 0)) _ _
 refine Tr.nil (Tr.zA (Tr.sr (Tr.asg rfl rfl (Tr.JS 2 3 zn ?_))))
 show Tr _ _ (uf _ 3 (.slice none (([] : List Int)).length 0)) _ _
 refine Tr.nil (Tr.zA (Tr.sr (Tr.asg rfl rfl (Tr.JS 3 36 zN ?_))))
 show Tr _ _ (uf _ 4 (.slice none (([] : List zT)).length 0)) _ _
 refine Tr.nil (Tr.zA (Tr.seq (Tr.sr (Tr.mv rfl rfl (Tr.va rfl (fun _ _ h1 h2 => zq un_205 (h1.ev rfl)) ?_)))))
 refine Tr.mv rfl rfl (Tr.nil (Tr.zA (Tr.block (Tr.loop (σ := (List (List zI)) × Nat × (List Int) × (List zT) × (Option Addr) × Nat × (Option Addr) × Nat) (fun m w s => m = s.1.length + 1 ∧ s.1 = List.drop s.2.1 p0 ∧ s.2.1 ≤ p0.length ∧ JZ N s.1 s.2.1 s.2.2.1 s.2.2.2.1 = some r ∧ SlF s.2.2.2.2.1 s.2.2.1.length s.2.2.2.2.2.1 ∧ SlF s.2.2.2.2.2.2.1 s.2.2.2.1.length s.2.2.2.2.2.2.2) (fun s => [(3, (.slice s.2.2.2.2.1 s.2.2.1.length s.2.2.2.2.2.1)), (4, (.slice s.2.2.2.2.2.2.1 s.2.2.2.1.length s.2.2.2.2.2.2.2)), (16, (.slice QA p0.length QB)), (17, (iv (p0.length : Int))), (18, (iv (s.2.1 : Int)))]) (fun s => [(2, ow s.2.2.2.2.1 s.2.2.2.2.2.1 3 zn s.2.2.1), (3, ow s.2.2.2.2.2.2.1 s.2.2.2.2.2.2.2 36 zN s.2.2.2.1)]) (p0.length + 1) (p0, 0, ([] : List Int), ([] : List zT), none, 0, none, 0) ⟨rfl, rfl, Nat.zero_le _, H, VD, VD⟩ (.cons rfl (.cons rfl (.cons rfl (.cons rfl (.cons rfl .nil))))) (.cons rfl (.cons rfl .nil)) (fun _ _ h => absurd h.1 (by simp)) ?_))))
 intro w VK m s hs
 obtain ⟨Qh, iL3, l187, zF1, zFw, zFm, WY, WU⟩ := s
 obtain ⟨zGr, WR, hiL3, H, hl187, hl188⟩ := hs
 replace WR : Qh = List.drop iL3 p0 := WR
 replace H : JZ N Qh iL3 l187 zF1 = some r := H
 replace zGr : m + 1 = Qh.length + 1 := zGr
 replace QE := QE.leR VK
 replace leB := leB.trans VK
 replace hl187 : SlF zFw l187.length zFm := hl187
 replace hl188 : SlF WY zF1.length WU := hl188
 obtain rfl : m = Qh.length := by omega
 clear zGr
 show Tr _ _ (LF [(3, (.slice zFw l187.length zFm)), (4, (.slice WY zF1.length WU)), (16, (.slice QA p0.length QB)), (17, (iv (p0.length : Int))), (18, (iv (iL3 : Int)))]) (LE [(2, ow zFw zFm 3 zn l187), (3, ow WY WU 36 zN zF1)]) _
 cases Qh with
 | nil =>
  rw [JZ.eq_1] at H
  refine Tr.sr (Tr.va rfl (fun _ _ h1 h2 => zz (h1.ev rfl) (h1.ev rfl)) ?_)
  refine Tr.nil (Tr.zA (Tr.seq (Tr.WJ rfl (Qy WR) ?_)))
  refine Tr.exit (Tr.zX (Tr.zX (Tr.zAC (Tr.zA (Tr.sr (Tr.mv rfl rfl ?_))))))
  obtain ⟨zKq, hy189, H⟩ := bnd H
  refine Tr.VP [2] [ow zFw zFm 3 zn l187] (U := Unit) (fun u => (.tuple #[])) (fun u => zKq.length = l187.length) (fun u => [ow zFw zFm 3 zn zKq]) rfl (zM rfl zY) (fun _ => rfl) (wn rfl) rfl Tryz.call83 (zF rfl zO) (fun W hW hp hE => zDv l187 zFw zFm zKq hy189 hE) ?_
  intro u hu
  have gky189_0 := hu
  have hgky189_0 : zKq.length = l187.length := gky189_0 --@phi
  have hfky189_0 : SlF zFw zKq.length zFm := by rw [hgky189_0]; exact hl187
  show Tr _ _ (uf _ 66 (.tuple #[])) (up _ 2 (ow zFw zFm 3 zn zKq)) _
  refine Tr.sel (lf := [(3, (.slice zFw zKq.length zFm)), (4, (.slice WY zF1.length WU)), (16, (.slice QA p0.length QB)), (17, (iv (p0.length : Int))), (18, (iv (iL3 : Int))), (19, (.bool (decide ((iL3 : Int) < (p0.length : Int))))), (65, (.slice zFw zKq.length zFm)), (66, (.tuple #[]))]) (le := [(2, ow zFw zFm 3 zn zKq), (3, ow WY WU 36 zN zF1)]) (.cons (VH rfl (by rw [hgky189_0])) (.cons rfl (.cons rfl (.cons rfl (.cons rfl (.cons rfl (.cons (VH rfl (by rw [hgky189_0])) (.cons rfl .nil)))))))) (.cons rfl (.cons rfl .nil)) ?_
  refine Tr.nil (Tr.zA (Tr.sr (Tr.mv rfl rfl ?_)))
  obtain ⟨zAx, hy191, H⟩ := bnd H
  refine Tr.VP [2] [ow zFw zFm 3 zn zKq] (U := (Option Addr × Nat)) (fun u => (.slice u.1 zAx.length u.2)) (fun u => SlF u.1 zAx.length u.2) (fun u => [ow u.1 u.2 3 zn zAx]) rfl (zM rfl zY) (fun _ => rfl) (wn rfl) rfl Tryz.call84 (zF rfl zO) (fun W hW hp hE => zCm zKq zFw zFm zAx hy191 hE) ?_
  intro u hu
  obtain ⟨zAg, zAe⟩ := u
  have gy191_0 := hu
  have zKF : SlF zAg zAx.length zAe := gy191_0 --@phi
  show Tr _ _ (uf _ 68 (.slice zAg zAx.length zAe)) (up _ 2 (ow zAg zAe 3 zn zAx)) _
  refine Tr.asg rfl rfl (Tr.nil (Tr.zA (Tr.sr (Tr.mv rfl rfl ?_))))
  obtain ⟨zAh, hy193, H⟩ := bnd H
  refine Tr.VP [3] [ow WY WU 36 zN zF1] (U := Unit) (fun u => (.tuple #[])) (fun u => zAh.length = zF1.length) (fun u => [ow WY WU 36 zN zAh]) rfl (zM rfl zY) (fun _ => rfl) (wn rfl) rfl Tryz.call81 (zF rfl (zF rfl zO)) (fun W hW hp hE => Wi zF1 WY WU (fun z0 z1 => Wd z0 z1) 157 [] Tryz.call157 (fun w' he z0 z1 y hy => zI4 z0 z1 y hy (HF.start _)) zAh hy193 hE) ?_
  intro u hu
  have gky193_0 := hu
  have hgky193_0 : zAh.length = zF1.length := gky193_0 --@phi
  have zId : SlF WY zAh.length WU := by rw [hgky193_0]; exact hl188
  show Tr _ _ (uf _ 70 (.tuple #[])) (up _ 3 (ow WY WU 36 zN zAh)) _
  refine Tr.sel (lf := [(3, (.slice zAg zAx.length zAe)), (4, (.slice WY zAh.length WU)), (16, (.slice QA p0.length QB)), (17, (iv (p0.length : Int))), (18, (iv (iL3 : Int))), (19, (.bool (decide ((iL3 : Int) < (p0.length : Int))))), (66, (.tuple #[])), (68, (.slice zAg zAx.length zAe)), (69, (.slice WY zAh.length WU)), (70, (.tuple #[]))]) (le := [(2, ow zAg zAe 3 zn zAx), (3, ow WY WU 36 zN zAh)]) (.cons rfl (.cons (VH rfl (by rw [hgky193_0])) (.cons rfl (.cons rfl (.cons rfl (.cons rfl (.cons rfl (.cons rfl (.cons (VH rfl (by rw [hgky193_0])) (.cons rfl .nil)))))))))) (.cons rfl (.cons rfl .nil)) ?_
  refine Tr.nil (Tr.zA (Tr.sr (Tr.asg rfl rfl (Tr.JS 28 107 zJ ?_))))
  show Tr _ _ (uf _ 10 (.slice none (([] : List zV)).length 0)) _ _
  refine Tr.nil (Tr.zA (Tr.seq (Tr.sr (Tr.asg rfl rfl (Tr.nil (Tr.zA (Tr.block (Tr.loop (σ := (List zV) × Int × (Option Addr) × Nat) (fun m w s => JY zAx zAh m s.1 s.2.1 = some r ∧ SlF s.2.2.1 s.1.length s.2.2.2) (fun s => [(3, (.slice zAg zAx.length zAe)), (4, (.slice WY zAh.length WU)), (10, (.slice s.2.2.1 s.1.length s.2.2.2)), (11, (iv s.2.1))]) (fun s => [(2, ow zAg zAe 3 zn zAx), (3, ow WY WU 36 zN zAh), (28, ow s.2.2.1 s.2.2.2 107 zJ s.1)]) N (([] : List zV), 0, none, 0) ⟨H, VD⟩ (.cons rfl (.cons rfl (.cons rfl (.cons rfl .nil)))) (.cons rfl (.cons rfl (.cons rfl .nil))) (fun _ _ h => zAi (h.1)) ?_))))))))
  intro w leL6 mL6 s hs
  obtain ⟨zE7, zFx, zGd, zGT⟩ := s
  obtain ⟨H, hl297⟩ := hs
  replace H : JY zAx zAh (mL6 + 1) zE7 zFx = some r := H
  replace leB := leB.trans leL6
  replace hl297 : SlF zGd zE7.length zGT := hl297
  rw [JY.eq_2] at H
  show Tr _ _ (LF [(3, (.slice zAg zAx.length zAe)), (4, (.slice WY zAh.length WU)), (10, (.slice zGd zE7.length zGT)), (11, (iv zFx))]) (LE [(2, ow zAg zAe 3 zn zAx), (3, ow WY WU 36 zN zAh), (28, ow zGd zGT 107 zJ zE7)]) _
  refine Tr.seq (Tr.sr (Tr.mv rfl rfl (Tr.va rfl (fun _ _ h1 h2 => zx (h1.ev rfl) (h1.ev rfl)) ?_)))
  refine Tr.mv rfl rfl (Tr.va rfl (fun _ _ h1 h2 => zq zCA (h1.ev rfl)) ?_)
  refine Tr.va rfl (fun _ _ h1 h2 => zz (h1.ev rfl) (h1.ev rfl)) ?_
  refine Tr.nil (Tr.zA (Tr.cond rfl H (fun H => ?_) (fun H => ?_)))
  ·refine Tr.skip (Tr.zA (Tr.seq (Tr.block (Tr.sr (Tr.asg rfl rfl (Tr.JS 43 3 zn ?_))))))
   show Tr _ _ (uf _ 12 (.slice none (([] : List Int)).length 0)) _ _
   refine Tr.nil (Tr.zA (Tr.seq (Tr.sr (Tr.mv rfl rfl (Tr.va rfl (fun _ _ h1 h2 => zq zA0 (h1.ev rfl)) ?_)))))
   refine Tr.mv rfl rfl (Tr.nil (Tr.zA (Tr.block (Tr.loop (σ := (List zT) × Nat × (List Int) × (Option Addr) × Nat) (fun m w s => m = s.1.length + 1 ∧ s.1 = List.drop s.2.1 zAh ∧ s.2.1 ≤ zAh.length ∧ JX zAx zE7 zFx (JY zAx zAh mL6) s.1 s.2.1 s.2.2.1 = some r ∧ SlF s.2.2.2.1 s.2.2.1.length s.2.2.2.2) (fun s => [(3, (.slice zAg zAx.length zAe)), (4, (.slice WY zAh.length WU)), (10, (.slice zGd zE7.length zGT)), (11, (iv zFx)), (12, (.slice s.2.2.2.1 s.2.2.1.length s.2.2.2.2)), (78, (.slice WY zAh.length WU)), (79, (iv (zAh.length : Int))), (80, (iv (s.2.1 : Int)))]) (fun s => [(2, ow zAg zAe 3 zn zAx), (3, ow WY WU 36 zN zAh), (28, ow zGd zGT 107 zJ zE7), (43, ow s.2.2.2.1 s.2.2.2.2 3 zn s.2.2.1)]) (zAh.length + 1) (zAh, 0, ([] : List Int), none, 0) ⟨rfl, rfl, Nat.zero_le _, H, VD⟩ (.cons rfl (.cons rfl (.cons rfl (.cons rfl (.cons rfl (.cons rfl (.cons rfl (.cons rfl .nil)))))))) (.cons rfl (.cons rfl (.cons rfl (.cons rfl .nil)))) (fun _ _ h => absurd h.1 (by simp)) ?_))))
   intro w zJS m s hs
   obtain ⟨zDP, iL7, zE6, zJI, zJD⟩ := s
   obtain ⟨hmL7, zJZ, hiL7, H, hl329⟩ := hs
   replace zJZ : zDP = List.drop iL7 zAh := zJZ
   replace H : JX zAx zE7 zFx (JY zAx zAh mL6) zDP iL7 zE6 = some r := H
   replace hmL7 : m + 1 = zDP.length + 1 := hmL7
   replace leL6 := leL6.trans zJS
   replace hl329 : SlF zJI zE6.length zJD := hl329
   obtain rfl : m = zDP.length := by omega
   clear hmL7
   show Tr _ _ (LF [(3, (.slice zAg zAx.length zAe)), (4, (.slice WY zAh.length WU)), (10, (.slice zGd zE7.length zGT)), (11, (iv zFx)), (12, (.slice zJI zE6.length zJD)), (78, (.slice WY zAh.length WU)), (79, (iv (zAh.length : Int))), (80, (iv (iL7 : Int)))]) (LE [(2, ow zAg zAe 3 zn zAx), (3, ow WY WU 36 zN zAh), (28, ow zGd zGT 107 zJ zE7), (43, ow zJI zJD 3 zn zE6)]) _
   cases zDP with
   | nil =>
    rw [JX.eq_1] at H
    refine Tr.sr (Tr.va rfl (fun _ _ h1 h2 => zz (h1.ev rfl) (h1.ev rfl)) ?_)
    refine Tr.nil (Tr.zA (Tr.seq (Tr.WJ rfl (Qy zJZ) ?_)))
    refine Tr.exit (Tr.zX (Tr.zX (Tr.zAC (Tr.zA (Tr.zC6 12 (by kernel_rfl) (by kernel_rfl) ?_)))))
    refine Tq.mv rfl rfl (Tq.mv rfl rfl (Tq.mv rfl rfl ?_))
    obtain ⟨x330, hx330, H⟩ := bnd H
    obtain ⟨hx3300, hx3301, hx3302⟩ := zh hx330
    refine Tq.va rfl (fun _ _ h1 h2 => zH zAR (h1.ev rfl) zKF (h1.ev rfl) hx3300 hx3301) ?_
    refine Tq.va rfl (fun _ _ h1 h2 => zC QO (h1.ev rfl) (rdo VZ (k := 2) h2 rfl hx3302) rfl) ?_
    refine Tq.mv rfl rfl (Tq.mv rfl rfl (Tq.va rfl (fun _ _ h1 h2 => zx (h1.ev rfl) (h1.ev rfl)) ?_))
    obtain ⟨x331, hx331, H⟩ := bnd H
    obtain ⟨hx3310, hx3311, hx3312⟩ := zh hx331
    refine Tq.va rfl (fun _ _ h1 h2 => zH zAR (h1.ev rfl) zKF (h1.ev rfl) hx3310 hx3311) ?_
    refine Tq.va rfl (fun _ _ h1 h2 => zC QO (h1.ev rfl) (rdo VZ (k := 2) h2 rfl hx3312) rfl) ?_
    refine Tq.mv rfl rfl (Tq.build (vs := [(0, (iv x330)), (1, (iv x331)), (2, (.slice zJI zE6.length zJD))]) (cs := [(iv x330), (iv x331), (.slice zJI zE6.length zJD)]) (wn rfl) rfl (zi rfl (zi rfl (zi rfl Qb))) (by kernel_rfl) ?_)
    refine Tq.nil (Tr.freeze 43 rfl fun w le333 hz332 => ?_)
    replace leL6 := leL6.trans le333
    obtain ⟨y334, hy334, H⟩ := bnd H
    refine Tr.VQ [28] [ow zGd zGT 107 zJ zE7] (U := (Option Addr × Nat)) (fun u => (.slice u.1 y334.length u.2)) (fun O W u => SlF u.1 y334.length u.2) (fun u => [ow u.1 u.2 107 zJ y334]) rfl (zM rfl zY) (fun _ => rfl) (wn rfl) rfl Tryz.call87 (zF rfl (zF rfl zO)) (fun W hW hp hE => zBw zE7 zGd zGT (zV.mk x330 x331 zE6) zJI zJD (hz332.zAl (hW.QS hp)) y334 hy334 hE) ?_
    intro w u le335 hu
    obtain ⟨Ay334_0, cy334_0⟩ := u
    have gy334_0 := hu
    replace hz332 := hz332.le le335
    replace leL6 := leL6.trans le335
    have hgy334_0 : SlF Ay334_0 y334.length cy334_0 := gy334_0 --@phi
    show Tr _ _ (uf _ 136 (.slice Ay334_0 y334.length cy334_0)) (up _ 28 (ow Ay334_0 cy334_0 107 zJ y334)) _
    refine Tr.asg rfl rfl (Tr.nil (Tr.zW (Tr.zA ?_)))
    refine Tr.region (Tr.mv rfl rfl (Tr.va rfl (fun _ _ h1 h2 => zx (h1.ev rfl) (h1.ev rfl)) ?_))
    exact Tr.asg rfl rfl (Tr.nil (Tr.zZ leL6 (y334, (w64 (zFx + 1)), Ay334_0, cy334_0) ⟨H, hgy334_0⟩ (.cons rfl (.cons rfl (.cons rfl (.cons rfl .nil)))) (.cons rfl (.cons rfl (.cons rfl .nil)))))
   | cons xL7 zDP =>
    rw [JX.eq_2] at H
    refine Tr.sr (Tr.va rfl (fun _ _ h1 h2 => zz (h1.ev rfl) (h1.ev rfl)) ?_)
    refine Tr.nil (Tr.zA (Tr.seq (Tr.WI rfl (Jg zJZ) ?_)))
    refine Tr.skip (Tr.zA (Tr.seq (Tr.block (Tr.sr (Tr.va rfl (fun _ _ h1 h2 => zH zCR (h1.ev rfl) zId (h1.ev rfl) (Int.natCast_nonneg _) (zo zJZ)) ?_)))))
    refine Tr.va rfl (fun _ _ h1 h2 => zR (cs := [(iv xL7.X0), (iv xL7.Y0), (iv xL7.X1), (iv xL7.Y1)]) zCD Kv (h1.ev rfl) (zL.take (rdo VM (k := 3) h2 rfl (Js zJZ)) 4) rfl) ?_
    refine Tr.alloc 48 (wn rfl) rfl zF7 fun b336 => ?_
    refine Tr.store 48 (cs := [(iv xL7.X0), (iv xL7.Y0), (iv xL7.X1), (iv xL7.Y1)]) [(iv xL7.X0), (iv xL7.Y0), (iv xL7.X1), (iv xL7.Y1)] (wn rfl) rfl rfl rfl rfl Kv rfl rfl rfl ?_
    refine Tr.nil (Tr.zA (Tr.seq (Tr.seq (Tr.draw (by kernel_rfl) (by kernel_rfl) ?_))))
    refine Tq.va rfl (fun _ _ h1 h2 => zB zCa (h1.ev rfl)) ?_
    refine Tq.va rfl (fun _ _ h1 h2 => zC QO (h1.ev rfl) (rdb h2 (vs := [(iv xL7.X0), (iv xL7.Y0), (iv xL7.X1), (iv xL7.Y1)]) (k := 48) rfl 1) rfl) ?_
    refine Tq.mv rfl rfl (Tq.mv rfl rfl ?_)
    obtain ⟨x337, hx337, H⟩ := bnd H
    obtain ⟨hx3370, hx3371, hx3372⟩ := zh hx337
    refine Tq.va rfl (fun _ _ h1 h2 => zH zAR (h1.ev rfl) zKF (h1.ev rfl) hx3370 hx3371) ?_
    refine Tq.va rfl (fun _ _ h1 h2 => zC QO (h1.ev rfl) (rdo VZ (k := 2) h2 rfl hx3372) rfl) ?_
    refine Tq.va rfl (fun _ _ h1 h2 => VI (h1.ev rfl) (h1.ev rfl)) ?_
    refine Tq.mv rfl rfl ?_
    obtain ⟨g339, hg339, H⟩ := bnd H
    refine Tq.mid 8 [(3, (.slice zAg zAx.length zAe)), (4, (.slice WY zAh.length WU)), (10, (.slice zGd zE7.length zGT)), (11, (iv zFx)), (12, (.slice zJI zE6.length zJD)), (14, (.pointer (some ⟨b336, 0, none⟩))), (78, (.slice WY zAh.length WU)), (79, (iv (zAh.length : Int))), (80, (iv (iL7 : Int))), (99, (.bool g339))] ?_ ?_
    ·cases hg346 : (decide (x337 < xL7.Y0))
     ·rw [hg346] at hg339
      rw [if_neg (by decide)] at hg339
      have H := hg339
      refine Tq.val (wg rfl rfl rfl) rfl (fun _ _ h1 h2 => zB zDX (h1.ev rfl)) ?_
      refine Tq.val (wg rfl rfl rfl) rfl (fun _ _ h1 h2 => zC QO (h1.ev rfl) (rdb h2 (vs := [(iv xL7.X0), (iv xL7.Y0), (iv xL7.X1), (iv xL7.Y1)]) (k := 48) rfl 3) rfl) ?_
      refine Tq.val (wg rfl rfl rfl) rfl (fun _ _ h1 h2 => run_move (h1.ev rfl)) ?_
      refine Tq.val (wg rfl rfl rfl) rfl (fun _ _ h1 h2 => run_move (h1.ev rfl)) ?_
      obtain ⟨x340, hx340, H⟩ := bnd H
      obtain ⟨hx3400, hx3401, hx3402⟩ := zh hx340
      refine Tq.val (wg rfl rfl rfl) rfl (fun _ _ h1 h2 => zH zAR (h1.ev rfl) zKF (h1.ev rfl) hx3400 hx3401) ?_
      refine Tq.val (wg rfl rfl rfl) rfl (fun _ _ h1 h2 => zC QO (h1.ev rfl) (rdo VZ (k := 2) h2 rfl hx3402) rfl) ?_
      refine Tq.val (wg rfl rfl rfl) rfl (fun _ _ h1 h2 => zA8 (h1.ev rfl) (h1.ev rfl)) ?_
      refine Tq.va rfl (fun _ _ h1 h2 => zf (h1.ev rfl) (h1.ev rfl)) ?_
      obtain rfl := Option.some.inj H
      exact Tq.fin (.cons rfl (.cons rfl (.cons rfl (.cons rfl (.cons rfl (.cons rfl (.cons rfl (.cons rfl (.cons rfl (.cons rfl .nil))))))))))
     ·rw [hg346] at hg339
      rw [if_pos rfl] at hg339
      have H := hg339
      obtain rfl := Option.some.inj H
      refine Tq.pass rfl rfl rfl rfl rfl (by decide) ?_
      refine Tq.pass rfl rfl rfl rfl rfl (by decide) ?_
      refine Tq.pass rfl rfl rfl rfl rfl (by decide) ?_
      refine Tq.pass rfl rfl rfl rfl rfl (by decide) ?_
      refine Tq.pass rfl rfl rfl rfl rfl (by decide) ?_
      refine Tq.pass rfl rfl rfl rfl rfl (by decide) ?_
      refine Tq.pass rfl rfl rfl rfl rfl (by decide) ?_
      refine Tq.va rfl (fun _ _ h1 h2 => ze (h1.ev rfl) (h1.ev rfl)) ?_
      exact Tq.fin (.cons rfl (.cons rfl (.cons rfl (.cons rfl (.cons rfl (.cons rfl (.cons rfl (.cons rfl (.cons rfl (.cons rfl .nil))))))))))
    ·refine Tq.nil (Tr.zA (Tr.cond rfl H (fun H => ?_) (fun H => ?_)))
     ·refine Tr.exit (Tr.zX (Tr.zAC (Tr.zA (Tr.region (Tr.va rfl (fun _ _ h1 h2 => zx (h1.ev rfl) (h1.ev rfl)) ?_)))))
      exact Tr.mv rfl rfl (Tr.nil (Tr.zZ zJS (zDP, (iL7 + 1), zE6, zJI, zJD) ⟨rfl, Qg zJZ, zo zJZ, H, hl329⟩ (.cons rfl (.cons rfl (.cons rfl (.cons rfl (.cons rfl (.cons rfl (.cons rfl (.cons (congrArg (fun z => some (Value.int .i64 z)) (Qf zJZ zId)) .nil)))))))) (.cons rfl (.cons rfl (.cons rfl (.cons rfl .nil))))))
     ·refine Tr.skip (Tr.zA (Tr.sr (Tr.mv rfl rfl (Tr.va rfl (fun _ _ h1 h2 => zq zCA (h1.ev rfl)) ?_))))
      refine Tr.asg rfl rfl (Tr.nil (Tr.zA (Tr.seq (Tr.draw (by kernel_rfl) (by kernel_rfl) ?_))))
      refine Tq.mv rfl rfl (Tq.va rfl (fun _ _ h1 h2 => VI (h1.ev rfl) (h1.ev rfl)) ?_)
      refine Tq.mv rfl rfl ?_
      obtain ⟨g342, hg342, H⟩ := bnd H
      refine Tq.mid 9 [(3, (.slice zAg zAx.length zAe)), (4, (.slice WY zAh.length WU)), (10, (.slice zGd zE7.length zGT)), (11, (iv zFx)), (12, (.slice zJI zE6.length zJD)), (14, (.pointer (some ⟨b336, 0, none⟩))), (15, (iv (zE6.length : Int))), (78, (.slice WY zAh.length WU)), (79, (iv (zAh.length : Int))), (80, (iv (iL7 : Int))), (113, (.bool g342))] ?_ ?_
      ·cases hg346 : (decide (0 < (zE6.length : Int)))
       ·rw [hg346] at hg342
        rw [if_neg (by decide)] at hg342
        have H := hg342
        obtain rfl := Option.some.inj H
        refine Tq.pass rfl rfl rfl rfl rfl (by decide) ?_
        refine Tq.pass rfl rfl rfl rfl rfl (by decide) ?_
        refine Tq.pass rfl rfl rfl rfl rfl (by decide) ?_
        refine Tq.pass rfl rfl rfl rfl rfl (by decide) ?_
        refine Tq.pass rfl rfl rfl rfl rfl (by decide) ?_
        refine Tq.pass rfl rfl rfl rfl rfl (by decide) ?_
        refine Tq.pass rfl rfl rfl rfl rfl (by decide) ?_
        refine Tq.pass rfl rfl rfl rfl rfl (by decide) ?_
        refine Tq.va rfl (fun _ _ h1 h2 => zf (h1.ev rfl) (h1.ev rfl)) ?_
        exact Tq.fin (.cons rfl (.cons rfl (.cons rfl (.cons rfl (.cons rfl (.cons rfl (.cons rfl (.cons rfl (.cons rfl (.cons rfl (.cons rfl .nil)))))))))))
       ·rw [hg346] at hg342
        rw [if_pos rfl] at hg342
        have H := hg342
        refine Tq.val (wg rfl rfl rfl) rfl (fun _ _ h1 h2 => run_move (h1.ev rfl)) ?_
        refine Tq.val (wg rfl rfl rfl) rfl (fun _ _ h1 h2 => run_move (h1.ev rfl)) ?_
        refine Tq.val (wg rfl rfl rfl) rfl (fun _ _ h1 h2 => Wm (h1.ev rfl) (h1.ev rfl)) ?_
        obtain ⟨x343, hx343, H⟩ := bnd H
        obtain ⟨hx3430, hx3431, hx3432⟩ := zh hx343
        refine Tq.val (wg rfl rfl rfl) rfl (fun _ _ h1 h2 => zH zAR (h1.ev rfl) hl329 (h1.ev rfl) hx3430 hx3431) ?_
        refine Tq.val (wg rfl rfl rfl) rfl (fun _ _ h1 h2 => zC QO (h1.ev rfl) (rdo VZ (k := 43) h2 rfl hx3432) rfl) ?_
        refine Tq.val (wg rfl rfl rfl) rfl (fun _ _ h1 h2 => zB Wz (h1.ev rfl)) ?_
        refine Tq.val (wg rfl rfl rfl) rfl (fun _ _ h1 h2 => zC QO (h1.ev rfl) (rdb h2 (vs := [(iv xL7.X0), (iv xL7.Y0), (iv xL7.X1), (iv xL7.Y1)]) (k := 48) rfl 0) rfl) ?_
        refine Tq.val (wg rfl rfl rfl) rfl (fun _ _ h1 h2 => Qk (h1.ev rfl) (h1.ev rfl)) ?_
        refine Tq.va rfl (fun _ _ h1 h2 => ze (h1.ev rfl) (h1.ev rfl)) ?_
        obtain rfl := Option.some.inj H
        exact Tq.fin (.cons rfl (.cons rfl (.cons rfl (.cons rfl (.cons rfl (.cons rfl (.cons rfl (.cons rfl (.cons rfl (.cons rfl (.cons rfl .nil)))))))))))
      ·refine Tq.nil (Tr.zA (Tr.cond rfl H (fun H => ?_) (fun H => ?_)))
       ·refine Tr.region (Tr.mv rfl rfl (Tr.mv rfl rfl (Tr.va rfl (fun _ _ h1 h2 => Wm (h1.ev rfl) (h1.ev rfl)) ?_)))
        obtain ⟨l344, hl344, H⟩ := bnd H
        refine Tr.va rfl (fun _ _ h1 h2 => run_pre zAR (h1.ev rfl) hl329 (h1.ev rfl) hl344) ?_
        refine Tr.asg rfl rfl (Tr.nil (Tr.zW (Tr.zA ?_)))
        refine Tr.region (Tr.va rfl (fun _ _ h1 h2 => zx (h1.ev rfl) (h1.ev rfl)) ?_)
        refine Tr.mv rfl rfl (Tr.nil (Tr.shrinkP 43 hl344 rfl ?_))
        exact Tr.zZ zJS (zDP, (iL7 + 1), l344, zJI, zJD) ⟨rfl, Qg zJZ, zo zJZ, H, (pre_form hl329 hl344)⟩ (.cons rfl (.cons rfl (.cons rfl (.cons rfl (.cons rfl (.cons rfl (.cons rfl (.cons (congrArg (fun z => some (Value.int .i64 z)) (Qf zJZ zId)) .nil)))))))) (.cons rfl (.cons rfl (.cons rfl (.cons rfl .nil))))
       ·refine Tr.region (Tr.mv rfl rfl (Tr.va rfl (fun _ _ h1 h2 => zB Wz (h1.ev rfl)) ?_))
        refine Tr.va rfl (fun _ _ h1 h2 => zC QO (h1.ev rfl) (rdb h2 (vs := [(iv xL7.X0), (iv xL7.Y0), (iv xL7.X1), (iv xL7.Y1)]) (k := 48) rfl 0) rfl) ?_
        refine Tr.buildSlice 49 (e := 3) (vs := [(0, (iv xL7.X0))]) (cs := [(iv xL7.X0)]) (wn rfl) rfl (zi rfl Qb) (by kernel_rfl) fun b345 => ?_
        obtain ⟨l346, hl346, H⟩ := bnd H
        refine Tr.append 43 (t := zn) (l := zE6) (l2 := [xL7.X0]) (wn rfl) rfl rfl rfl rfl (fun W hW => ⟨[[(iv xL7.X0)]], (.cons ⟨(), trivial, rfl⟩ .nil), rdb hW (vs := [(iv xL7.X0)]) (k := 49) rfl 0⟩) zCA zIz zl_3 (by decide) by_3 rfl hl346 fun Al346 cl346 hAl346 => ?_
        refine Tr.asg rfl rfl (Tr.nil (Tr.zW (Tr.zA ?_)))
        refine Tr.region (Tr.va rfl (fun _ _ h1 h2 => zx (h1.ev rfl) (h1.ev rfl)) ?_)
        exact Tr.mv rfl rfl (Tr.nil (Tr.zZ zJS (zDP, (iL7 + 1), l346, Al346, cl346) ⟨rfl, Qg zJZ, zo zJZ, H, hAl346⟩ (.cons rfl (.cons rfl (.cons rfl (.cons rfl (.cons rfl (.cons rfl (.cons rfl (.cons (congrArg (fun z => some (Value.int .i64 z)) (Qf zJZ zId)) .nil)))))))) (.cons rfl (.cons rfl (.cons rfl (.cons rfl .nil))))))
  ·refine Tr.exit (Tr.zX (Tr.zX (Tr.zAC (Tr.zA (Tr.sr (Tr.mv rfl rfl (Tr.asg rfl rfl (Tr.nil (Tr.zA (Tr.ret ?_))))))))))
   obtain rfl := Option.some.inj H
   exact Tr.out (m := [(.slice zGd zE7.length zGT)]) [] (zP rfl zQ) (fun W hW => ⟨w, (zGd, zGT), leB, rfl, hl297, hW.pick (ks := [28]) (by decide) (zM rfl zY)⟩)
 | cons xL3 Qh =>
  rw [JZ.eq_2] at H
  refine Tr.sr (Tr.va rfl (fun _ _ h1 h2 => zz (h1.ev rfl) (h1.ev rfl)) ?_)
  refine Tr.nil (Tr.zA (Tr.seq (Tr.WI rfl (Jg WR) ?_)))
  refine Tr.skip (Tr.zA (Tr.seq (Tr.block (Tr.sr ?_))))
  obtain ⟨u347, hRu347, hoku347, hcu347⟩ := (QE).el (Js WR)
  obtain ⟨zKk, zKT⟩ := u347
  have zBQ := hoku347
  replace zBQ : Sl w.R w.W zy zKk zKT xL3 := zBQ
  refine Tr.va rfl (fun _ _ h1 h2 => zH el_205 (h1.ev rfl) QE.form (h1.ev rfl) (Int.natCast_nonneg _) (zo WR)) ?_
  refine Tr.va rfl (fun _ _ h1 h2 => zC zGU (h1.ev rfl) (rdR hRu347 hcu347 h2) rfl) ?_
  refine Tr.asg rfl rfl (Tr.nil (Tr.zA (Tr.sr (Tr.mv rfl rfl (Tr.va rfl (fun _ _ h1 h2 => zq zDn (h1.ev rfl)) ?_)))))
  refine Tr.mv rfl rfl (Tr.nil (Tr.zA (Tr.block (Tr.loop (σ := (List zI) × Nat × (List Int) × (List zT) × (Option Addr) × Nat × (Option Addr) × Nat) (fun m w s => m = s.1.length + 1 ∧ s.1 = List.drop s.2.1 xL3 ∧ s.2.1 ≤ xL3.length ∧ Jo (JZ N Qh (iL3 + 1)) xL3 s.1 s.2.1 s.2.2.1 s.2.2.2.1 = some r ∧ SlF s.2.2.2.2.1 s.2.2.1.length s.2.2.2.2.2.1 ∧ SlF s.2.2.2.2.2.2.1 s.2.2.2.1.length s.2.2.2.2.2.2.2) (fun s => [(3, (.slice s.2.2.2.2.1 s.2.2.1.length s.2.2.2.2.2.1)), (4, (.slice s.2.2.2.2.2.2.1 s.2.2.2.1.length s.2.2.2.2.2.2.2)), (6, (.slice zKk xL3.length zKT)), (16, (.slice QA p0.length QB)), (17, (iv (p0.length : Int))), (18, (iv (iL3 : Int))), (22, (.slice zKk xL3.length zKT)), (23, (iv (xL3.length : Int))), (24, (iv (s.2.1 : Int)))]) (fun s => [(2, ow s.2.2.2.2.1 s.2.2.2.2.2.1 3 zn s.2.2.1), (3, ow s.2.2.2.2.2.2.1 s.2.2.2.2.2.2.2 36 zN s.2.2.2.1)]) (xL3.length + 1) (xL3, 0, l187, zF1, zFw, zFm, WY, WU) ⟨rfl, rfl, Nat.zero_le _, H, hl187, hl188⟩ (.cons rfl (.cons rfl (.cons rfl (.cons rfl (.cons rfl (.cons rfl (.cons rfl (.cons rfl (.cons rfl .nil))))))))) (.cons rfl (.cons rfl .nil)) (fun _ _ h => absurd h.1 (by simp)) ?_))))
  intro w leL8 m s hs
  obtain ⟨zE0, iL8, l375, l376, Al375, cl375, Al376, cl376⟩ := s
  obtain ⟨hmL8, hdL8, hiL8, H, hl375, hl376⟩ := hs
  replace hdL8 : zE0 = List.drop iL8 xL3 := hdL8
  replace H : Jo (JZ N Qh (iL3 + 1)) xL3 zE0 iL8 l375 l376 = some r := H
  replace hmL8 : m + 1 = zE0.length + 1 := hmL8
  replace zBQ := zBQ.leR leL8
  replace QE := QE.leR leL8
  replace VK := VK.trans leL8
  replace hl375 : SlF Al375 l375.length cl375 := hl375
  replace hl376 : SlF Al376 l376.length cl376 := hl376
  obtain rfl : m = zE0.length := by omega
  clear hmL8
  show Tr _ _ (LF [(3, (.slice Al375 l375.length cl375)), (4, (.slice Al376 l376.length cl376)), (6, (.slice zKk xL3.length zKT)), (16, (.slice QA p0.length QB)), (17, (iv (p0.length : Int))), (18, (iv (iL3 : Int))), (22, (.slice zKk xL3.length zKT)), (23, (iv (xL3.length : Int))), (24, (iv (iL8 : Int)))]) (LE [(2, ow Al375 cl375 3 zn l375), (3, ow Al376 cl376 36 zN l376)]) _
  cases zE0 with
  | nil =>
   rw [Jo.eq_1] at H
   refine Tr.sr (Tr.va rfl (fun _ _ h1 h2 => zz (h1.ev rfl) (h1.ev rfl)) ?_)
   refine Tr.nil (Tr.zA (Tr.seq (Tr.WJ rfl (Qy hdL8) ?_)))
   refine Tr.exit (Tr.zX (Tr.zX (Tr.zAC (Tr.zW (Tr.zA ?_)))))
   refine Tr.region (Tr.va rfl (fun _ _ h1 h2 => zx (h1.ev rfl) (h1.ev rfl)) ?_)
   exact Tr.mv rfl rfl (Tr.nil (Tr.zZ VK (Qh, (iL3 + 1), l375, l376, Al375, cl375, Al376, cl376) ⟨rfl, Qg WR, zo WR, H, hl375, hl376⟩ (.cons rfl (.cons rfl (.cons rfl (.cons rfl (.cons (congrArg (fun z => some (Value.int .i64 z)) (Qf WR QE.form)) .nil))))) (.cons rfl (.cons rfl .nil))))
  | cons xL8 zE0 =>
   rw [Jo.eq_2] at H
   refine Tr.sr (Tr.va rfl (fun _ _ h1 h2 => zz (h1.ev rfl) (h1.ev rfl)) ?_)
   refine Tr.nil (Tr.zA (Tr.seq (Tr.WI rfl (Jg hdL8) ?_)))
   refine Tr.skip (Tr.zA (Tr.seq (Tr.block (Tr.sr (Tr.mv rfl rfl (Tr.va rfl (fun _ _ h1 h2 => zH zHz (h1.ev rfl) zBQ.form (h1.ev rfl) (Int.natCast_nonneg _) (zo hdL8)) ?_))))))
   refine Tr.va rfl (fun _ _ h1 h2 => zR (cs := [(iv xL8.X), (iv xL8.Y)]) KF JB (h1.ev rfl) (zL.take (rdF zAm zBQ (Js hdL8) h2) 2) rfl) ?_
   refine Tr.alloc 58 (wn rfl) rfl zHe fun b377 => ?_
   refine Tr.asg rfl rfl (Tr.store 58 (cs := [(iv xL8.X), (iv xL8.Y)]) [(iv xL8.X), (iv xL8.Y)] (wn rfl) rfl rfl rfl rfl JB rfl rfl rfl ?_)
   refine Tr.nil (Tr.zA (Tr.sr (Tr.mv rfl rfl (Tr.mv rfl rfl (Tr.va rfl (fun _ _ h1 h2 => zx (h1.ev rfl) (h1.ev rfl)) ?_)))))
   refine Tr.mv rfl rfl (Tr.va rfl (fun _ _ h1 h2 => zq zDn (h1.ev rfl)) ?_)
   obtain ⟨q378, hq378, H⟩ := bnd H
   refine Tr.va rfl (fun _ _ h1 h2 => run_md (h1.ev rfl) (h1.ev rfl) hq378) ?_
   obtain ⟨zCp, hx379, H⟩ := bnd H
   obtain ⟨hx3790, hx3791, hx3792⟩ := zh hx379
   refine Tr.va rfl (fun _ _ h1 h2 => zH zHz (h1.ev rfl) zBQ.form (h1.ev rfl) hx3790 hx3791) ?_
   refine Tr.va rfl (fun _ _ h1 h2 => zR (cs := [(iv zCp.X), (iv zCp.Y)]) KF JB (h1.ev rfl) (zL.take (rdF zAm zBQ hx3792 h2) 2) rfl) ?_
   refine Tr.alloc 59 (wn rfl) rfl zHe fun b380 => ?_
   refine Tr.store 59 (cs := [(iv zCp.X), (iv zCp.Y)]) [(iv zCp.X), (iv zCp.Y)] (wn rfl) rfl rfl rfl rfl JB rfl rfl rfl ?_
   refine Tr.nil (Tr.zA (Tr.sr (Tr.mv rfl rfl (Tr.va rfl (fun _ _ h1 h2 => zB Kt (h1.ev rfl)) ?_))))
   refine Tr.va rfl (fun _ _ h1 h2 => zC QO (h1.ev rfl) (rdb h2 (vs := [(iv xL8.X), (iv xL8.Y)]) (k := 58) rfl 1) rfl) ?_
   refine Tr.buildSlice 60 (e := 3) (vs := [(0, (iv xL8.Y))]) (cs := [(iv xL8.Y)]) (wn rfl) rfl (zi rfl Qb) (by kernel_rfl) fun b381 => ?_
   obtain ⟨l382, hl382, H⟩ := bnd H
   refine Tr.append 2 (t := zn) (l := l375) (l2 := [xL8.Y]) (wn rfl) rfl rfl rfl rfl (fun W hW => ⟨[[(iv xL8.Y)]], (.cons ⟨(), trivial, rfl⟩ .nil), rdb hW (vs := [(iv xL8.Y)]) (k := 60) rfl 0⟩) zCA zIz zl_3 (by decide) by_3 rfl hl382 fun Al382 cl382 hAl382 => ?_
   refine Tr.asg rfl rfl (Tr.nil (Tr.zA (Tr.sr (Tr.va rfl (fun _ _ h1 h2 => zB VL (h1.ev rfl)) ?_))))
   refine Tr.va rfl (fun _ _ h1 h2 => zC QO (h1.ev rfl) (rdb h2 (vs := [(iv xL8.X), (iv xL8.Y)]) (k := 58) rfl 0) rfl) ?_
   refine Tr.va rfl (fun _ _ h1 h2 => zB VL (h1.ev rfl)) ?_
   refine Tr.va rfl (fun _ _ h1 h2 => zC QO (h1.ev rfl) (rdb h2 (vs := [(iv zCp.X), (iv zCp.Y)]) (k := 59) rfl 0) rfl) ?_
   refine Tr.va rfl (fun _ _ h1 h2 => Qk (h1.ev rfl) (h1.ev rfl)) ?_
   refine Tr.nil (Tr.zA (Tr.cond rfl H (fun H => ?_) (fun H => ?_)))
   ·refine Tr.region (Tr.mv rfl rfl (Tr.va rfl (fun _ _ h1 h2 => zB VL (h1.ev rfl)) ?_))
    refine Tr.va rfl (fun _ _ h1 h2 => zC QO (h1.ev rfl) (rdb h2 (vs := [(iv xL8.X), (iv xL8.Y)]) (k := 58) rfl 0) rfl) ?_
    refine Tr.va rfl (fun _ _ h1 h2 => zB Kt (h1.ev rfl)) ?_
    refine Tr.va rfl (fun _ _ h1 h2 => zC QO (h1.ev rfl) (rdb h2 (vs := [(iv xL8.X), (iv xL8.Y)]) (k := 58) rfl 1) rfl) ?_
    refine Tr.va rfl (fun _ _ h1 h2 => zB Kt (h1.ev rfl)) ?_
    refine Tr.va rfl (fun _ _ h1 h2 => zC QO (h1.ev rfl) (rdb h2 (vs := [(iv zCp.X), (iv zCp.Y)]) (k := 59) rfl 1) rfl) ?_
    refine Tr.va rfl (fun _ _ h1 h2 => zFY (h1.ev rfl) (h1.ev rfl) _) ?_
    refine Tr.va rfl (fun _ _ h1 h2 => zB Kt (h1.ev rfl)) ?_
    refine Tr.va rfl (fun _ _ h1 h2 => zC QO (h1.ev rfl) (rdb h2 (vs := [(iv xL8.X), (iv xL8.Y)]) (k := 58) rfl 1) rfl) ?_
    refine Tr.va rfl (fun _ _ h1 h2 => zB Kt (h1.ev rfl)) ?_
    refine Tr.va rfl (fun _ _ h1 h2 => zC QO (h1.ev rfl) (rdb h2 (vs := [(iv zCp.X), (iv zCp.Y)]) (k := 59) rfl 1) rfl) ?_
    refine Tr.va rfl (fun _ _ h1 h2 => zFZ (h1.ev rfl) (h1.ev rfl) _) ?_
    refine Tr.build (vs := [(0, (iv xL8.X)), (1, (iv (min xL8.Y zCp.Y))), (3, (iv (max xL8.Y zCp.Y)))]) (cs := [(iv xL8.X), (iv (min xL8.Y zCp.Y)), (iv 0), (iv (max xL8.Y zCp.Y))]) (wn rfl) rfl (zi rfl (zi rfl (zi rfl Qb))) (by kernel_rfl) ?_
    refine Tr.buildSlice 61 (e := 36) (vs := [(0, (.agg #[(iv xL8.X), (iv (min xL8.Y zCp.Y)), (iv 0), (iv (max xL8.Y zCp.Y))]))]) (cs := [(iv xL8.X), (iv (min xL8.Y zCp.Y)), (iv 0), (iv (max xL8.Y zCp.Y))]) (wn rfl) rfl (zi rfl Qb) (by kernel_rfl) fun b383 => ?_
    obtain ⟨l384, hl384, H⟩ := bnd H
    refine Tr.append 3 (t := zN) (l := l376) (l2 := [(zT.mk xL8.X (min xL8.Y zCp.Y) 0 (max xL8.Y zCp.Y))]) (wn rfl) rfl rfl rfl rfl (fun W hW => ⟨[[(iv xL8.X), (iv (min xL8.Y zCp.Y)), (iv 0), (iv (max xL8.Y zCp.Y))]], (.cons ⟨(), trivial, rfl⟩ .nil), rdb hW (vs := [(iv xL8.X), (iv (min xL8.Y zCp.Y)), (iv 0), (iv (max xL8.Y zCp.Y))]) (k := 61) rfl 0⟩) zA0 Kv zl_36 (by decide) by_36 rfl hl384 fun Al384 cl384 hAl384 => ?_
    refine Tr.asg rfl rfl (Tr.nil (Tr.zW (Tr.zA ?_)))
    refine Tr.region (Tr.va rfl (fun _ _ h1 h2 => zx (h1.ev rfl) (h1.ev rfl)) ?_)
    exact Tr.mv rfl rfl (Tr.nil (Tr.zZ leL8 (zE0, (iL8 + 1), l382, l384, Al382, cl382, Al384, cl384) ⟨rfl, Qg hdL8, zo hdL8, H, hAl382, hAl384⟩ (.cons rfl (.cons rfl (.cons rfl (.cons rfl (.cons rfl (.cons rfl (.cons rfl (.cons rfl (.cons (congrArg (fun z => some (Value.int .i64 z)) (Qf hdL8 zBQ.form)) .nil))))))))) (.cons rfl (.cons rfl .nil))))
   ·refine Tr.skip (Tr.zW (Tr.zA ?_))
    refine Tr.region (Tr.va rfl (fun _ _ h1 h2 => zx (h1.ev rfl) (h1.ev rfl)) ?_)
    exact Tr.mv rfl rfl (Tr.nil (Tr.zZ leL8 (zE0, (iL8 + 1), l382, l376, Al382, cl382, Al376, cl376) ⟨rfl, Qg hdL8, zo hdL8, H, hAl382, hl376⟩ (.cons rfl (.cons rfl (.cons rfl (.cons rfl (.cons rfl (.cons rfl (.cons rfl (.cons rfl (.cons (congrArg (fun z => some (Value.int .i64 z)) (Qf hdL8 zBQ.form)) .nil))))))))) (.cons rfl (.cons rfl .nil))))

theorem zFV {w : Bs} (p0 : zI) (r : Bool) (H : Jb p0 = some r) (hE : HF w w.W E0) : Calls Tryz.prog 128 [(.agg #[(iv p0.X), (iv p0.Y)])].toArray w.W fun e W' => e = .returned (.bool r) ∧ HF w W' E0 := by
 unfold Jb at H
 have leB := Bs.Le.refl w
 refine Tr.enter (n := 6) Tryz.func128 rfl rfl rfl hE ?_
 refine Tr.sr (Tr.box 1 (cs := [(iv p0.X), (iv p0.Y)]) (wn rfl) rfl rfl rfl fun QM => ?_)
 refine Tr.asg rfl rfl (Tr.nil (Tr.zA (Tr.sr (Tr.va rfl (fun _ _ h1 h2 => zR (cs := [(iv p0.X), (iv p0.Y)]) KF JB (h1.ev rfl) (zL.take (rdb h2 (vs := [(iv p0.X), (iv p0.Y)]) (k := 1) rfl 0) 2) rfl) ?_))))
 obtain ⟨y101, hy101, H⟩ := bnd H
 refine Tr.Qp (r := (.bool y101)) (wn rfl) rfl Tryz.call123 (zF rfl zO) (fun W hW => zCh p0 y101 hy101 (HF.start _)) ?_
 refine Tr.va rfl (fun _ _ h1 h2 => JO (h1.ev rfl)) ?_
 refine Tr.asg rfl rfl (Tr.nil (Tr.zA (Tr.ret ?_)))
 obtain rfl := Option.some.inj H
 exact Tr.out (m := [(.bool (!y101))]) [] (zP rfl zQ) (fun W hW => ⟨rfl, hW.low leB⟩)

theorem zGb (N : Nat) {w : Bs} (p0 : zAA) (QA : Option Addr) (QB : Nat) (QE : Sl w.R w.W zK QA QB p0.p.Tools) (QD : Option Addr) (QC : Nat) (QU : Sl w.R w.W zG QD QC p0.p.Steps) (QL : Option Addr) (QN : Nat) (Jz : Sl w.R w.W Qe QL QN p0.tools) (QR : Option Addr) (QQ : Nat) (bp0 : Nat) (p1 : (List zI)) (QG : Option Addr) (QH : Nat) (QV : Sl w.R w.W zy QG QH p1) (p2 : zI) (r : (Int × (List zV))) (H : Vq N p0 p1 p2 = some r) (hE : HF w w.W (LEn [bx bp0 #[(iv p0.p.Unit), (.slice QA p0.p.Tools.length QB), (.slice QD p0.p.Steps.length QC), (.slice QL p0.tools.length QN), (.slice QR p0.image.length QQ), (.bool p0.clear), (iv p0.tool), (iv p0.place.X), (iv p0.place.Y), (.bool p0.placed), (iv p0.off), (iv p0.on)] 77, ow QR QQ 107 zJ p0.image])) : Calls Tryz.prog 107 [(.pointer (some ⟨bp0, 0, none⟩)), (.slice QG p1.length QH), (.agg #[(iv p2.X), (iv p2.Y)])].toArray w.W fun e W' => ∃ (w' : Bs) (u : (Option Addr × Nat)), w.Le w' ∧ e = .returned (iv r.1) ∧ (SlF u.1 r.2.length u.2) ∧ HF w' W' (LEn [bx bp0 #[(iv p0.p.Unit), (.slice QA p0.p.Tools.length QB), (.slice QD p0.p.Steps.length QC), (.slice QL p0.tools.length QN), (.slice u.1 r.2.length u.2), (.bool p0.clear), (iv p0.tool), (iv p0.place.X), (iv p0.place.Y), (.bool p0.placed), (iv p0.off), (iv p0.on)] 77, ow u.1 u.2 107 zJ r.2]) := by
 unfold Vq at H
 have WQ := (hE.sl (k := 1) rfl).form
 have leB := Bs.Le.refl w
 refine Tr.enter (n := 36) Tryz.func107 rfl rfl rfl hE ?_
 refine Tr.sr (Tr.box 2 (cs := [(iv p2.X), (iv p2.Y)]) (wn rfl) rfl rfl rfl fun QM => ?_)
 refine Tr.asg rfl rfl (Tr.nil (Tr.zA (Tr.sr (Tr.asg rfl rfl (Tr.JS 3 43 zy ?_)))))
 show Tr _ _ (uf _ 7 (.slice none (([] : List zI)).length 0)) _ _
 refine Tr.nil (Tr.zA (Tr.seq (Tr.sr (Tr.mv rfl rfl (Tr.va rfl (fun _ _ h1 h2 => zq zDn (h1.ev rfl)) ?_)))))
 refine Tr.mv rfl rfl (Tr.nil (Tr.zA (Tr.block (Tr.loop (σ := (List zI) × Nat × (List zI) × (Option Addr) × Nat) (fun m w s => m = s.1.length + 1 ∧ s.1 = List.drop s.2.1 p1 ∧ s.2.1 ≤ p1.length ∧ Qm N p0 p2 s.1 s.2.1 s.2.2.1 = some r ∧ SlF s.2.2.2.1 s.2.2.1.length s.2.2.2.2) (fun s => [(0, (.pointer (some ⟨bp0, 0, none⟩))), (5, (.pointer (some ⟨QM, 0, none⟩))), (7, (.slice s.2.2.2.1 s.2.2.1.length s.2.2.2.2)), (11, (.slice QG p1.length QH)), (12, (iv (p1.length : Int))), (13, (iv (s.2.1 : Int)))]) (fun s => [(0, bx bp0 #[(iv p0.p.Unit), (.slice QA p0.p.Tools.length QB), (.slice QD p0.p.Steps.length QC), (.slice QL p0.tools.length QN), (.slice QR p0.image.length QQ), (.bool p0.clear), (iv p0.tool), (iv p0.place.X), (iv p0.place.Y), (.bool p0.placed), (iv p0.off), (iv p0.on)] 77), (1, ow QR QQ 107 zJ p0.image), (2, bx QM #[(iv p2.X), (iv p2.Y)] 43), (3, ow s.2.2.2.1 s.2.2.2.2 43 zy s.2.2.1)]) (p1.length + 1) (p1, 0, ([] : List zI), none, 0) ⟨rfl, rfl, Nat.zero_le _, H, VD⟩ (.cons rfl (.cons rfl (.cons rfl (.cons rfl (.cons rfl (.cons rfl .nil)))))) (.cons rfl (.cons rfl (.cons rfl (.cons rfl .nil)))) (fun _ _ h => absurd h.1 (by simp)) ?_))))
 intro w QW m s hs
 obtain ⟨QF, iL1, zJX, Al117, cl117⟩ := s
 obtain ⟨KJ, QP, hiL1, H, hl117⟩ := hs
 replace QP : QF = List.drop iL1 p1 := QP
 replace H : Qm N p0 p2 QF iL1 zJX = some r := H
 replace KJ : m + 1 = QF.length + 1 := KJ
 replace QE := QE.leR QW
 replace QU := QU.leR QW
 replace Jz := Jz.leR QW
 replace QV := QV.leR QW
 replace leB := leB.trans QW
 obtain rfl : m = QF.length := by omega
 clear KJ
 show Tr _ _ (LF [(0, (.pointer (some ⟨bp0, 0, none⟩))), (5, (.pointer (some ⟨QM, 0, none⟩))), (7, (.slice Al117 zJX.length cl117)), (11, (.slice QG p1.length QH)), (12, (iv (p1.length : Int))), (13, (iv (iL1 : Int)))]) (LE [(0, bx bp0 #[(iv p0.p.Unit), (.slice QA p0.p.Tools.length QB), (.slice QD p0.p.Steps.length QC), (.slice QL p0.tools.length QN), (.slice QR p0.image.length QQ), (.bool p0.clear), (iv p0.tool), (iv p0.place.X), (iv p0.place.Y), (.bool p0.placed), (iv p0.off), (iv p0.on)] 77), (1, ow QR QQ 107 zJ p0.image), (2, bx QM #[(iv p2.X), (iv p2.Y)] 43), (3, ow Al117 cl117 43 zy zJX)]) _
 cases QF with
 | nil =>
  rw [Qm.eq_1] at H
  refine Tr.sr (Tr.va rfl (fun _ _ h1 h2 => zz (h1.ev rfl) (h1.ev rfl)) ?_)
  refine Tr.nil (Tr.zA (Tr.seq (Tr.WJ rfl (Qy QP) ?_)))
  refine Tr.exit (Tr.zX (Tr.zX (Tr.zAC (Tr.zA (Tr.sr (Tr.mv rfl rfl (Tr.freeze 3 rfl fun w le119 zHJ => ?_)))))))
  replace QE := QE.leR le119
  replace QU := QU.leR le119
  replace Jz := Jz.leR le119
  replace leB := leB.trans le119
  refine Tr.buildSlice 8 (e := 44) (vs := [(0, (.slice Al117 zJX.length cl117))]) (cs := [(.slice Al117 zJX.length cl117)]) (wn rfl) rfl (zi rfl Qb) (by kernel_rfl) fun b120 => ?_
  refine Tr.own 8 fl_LTPoint [zJX] (css := [[(.slice Al117 zJX.length cl117)]]) rfl (.cons ⟨(Al117, cl117), zHJ, rfl⟩ .nil) rfl (by decide) (zCx rfl) ?_
  obtain ⟨zHg, hy121, H⟩ := bnd H
  refine Tr.VQ [9] [emp] (U := (Option Addr × Nat)) (fun u => (.slice u.1 zHg.length u.2)) (fun O W u => SlF u.1 zHg.length u.2) (fun u => [ow u.1 u.2 107 zJ zHg]) rfl (zM rfl zY) (fun _ => rfl) (wn rfl) rfl Tryz.call127 (zF rfl zO) (fun W hW hp hE => zKd N [zJX] (some ⟨b120, 0, none⟩) 1 (hW.slS (k := 8) rfl hp rfl) zHg hy121 hE) ?_
  intro w u le122 hu
  obtain ⟨zKj, zKR⟩ := u
  have gy121_0 := hu
  replace QE := QE.leR le122
  replace QU := QU.leR le122
  replace Jz := Jz.leR le122
  replace zHJ := zHJ.le le122
  replace leB := leB.trans le122
  have hgy121_0 : SlF zKj zHg.length zKR := gy121_0 --@phi
  show Tr _ _ (uf _ 27 (.slice zKj zHg.length zKR)) (up _ 9 (ow zKj zKR 107 zJ zHg)) _
  refine Tr.asg rfl rfl (Tr.nil (Tr.zA (Tr.seq (Tr.sr (Tr.mv rfl rfl ?_)))))
  obtain ⟨y123, hy123, H⟩ := bnd H
  refine Tr.Qp (r := (iv y123)) (wn rfl) rfl Tryz.call89 (zF rfl zO) (fun W hW => zDw zHg zKj zKR (hW.zEA (k := 9) rfl) y123 hy123 (HF.start _)) ?_
  refine Tr.va rfl (fun _ _ h1 h2 => VI (h1.ev rfl) (h1.ev rfl)) ?_
  refine Tr.nil (Tr.zA (Tr.cond rfl H (fun H => ?_) (fun H => ?_)))
  ·refine Tr.sr (Tr.asg rfl rfl (Tr.nil (Tr.zA (Tr.ret (Tr.zU ?_)))))
   obtain rfl := Option.some.inj H
   exact Tr.out (m := [(iv 2)]) [] (zP rfl zQ) (fun W hW => ⟨w, (QR, QQ), leB, rfl, WQ, hW.pick (ks := [0, 1]) (by decide) (zM rfl (zM rfl zY))⟩)
  ·refine Tr.skip (Tr.zA (Tr.seq (Tr.sr (Tr.mv rfl rfl ?_))))
   obtain ⟨y124, hy124, H⟩ := bnd H
   refine Tr.Qp (r := (.bool y124)) (wn rfl) rfl Tryz.call98 (zF rfl (zF rfl zO)) (fun W hW => zAq zJX Al117 cl117 (zHJ.rl.ext hW.QZ) (fun z0 => Jb z0) 128 [] Tryz.call128 (fun w' he z0 y hy => zFV z0 y hy (HF.start _)) y124 hy124 (HF.start _)) ?_
   refine Tr.nil (Tr.zA (Tr.cond rfl H (fun H => ?_) (fun H => ?_)))
   ·refine Tr.sr (Tr.asg rfl rfl (Tr.nil (Tr.zA (Tr.ret (Tr.zU ?_)))))
    obtain rfl := Option.some.inj H
    exact Tr.out (m := [(iv 1)]) [] (zP rfl zQ) (fun W hW => ⟨w, (QR, QQ), leB, rfl, WQ, hW.pick (ks := [0, 1]) (by decide) (zM rfl (zM rfl zY))⟩)
   ·refine Tr.skip (Tr.zA (Tr.sr (Tr.mv rfl rfl (Tr.mv rfl rfl (Tr.freeze 9 rfl fun w le126 hz125 => ?_)))))
    replace QE := QE.leR le126
    replace QU := QU.leR le126
    replace Jz := Jz.leR le126
    replace zHJ := zHJ.le le126
    replace leB := leB.trans le126
    obtain ⟨zHV, hy127, H⟩ := bnd H
    refine Tr.VQ [0, 1] [bx bp0 #[(iv p0.p.Unit), (.slice QA p0.p.Tools.length QB), (.slice QD p0.p.Steps.length QC), (.slice QL p0.tools.length QN), (.slice QR p0.image.length QQ), (.bool p0.clear), (iv p0.tool), (iv p0.place.X), (iv p0.place.Y), (.bool p0.placed), (iv p0.off), (iv p0.on)] 77, ow QR QQ 107 zJ p0.image] (U := (Option Addr × Nat)) (fun u => (iv zHV.1)) (fun O W u => SlF u.1 zHV.2.length u.2) (fun u => [bx bp0 #[(iv p0.p.Unit), (.slice QA p0.p.Tools.length QB), (.slice QD p0.p.Steps.length QC), (.slice QL p0.tools.length QN), (.slice u.1 zHV.2.length u.2), (.bool p0.clear), (iv p0.tool), (iv p0.place.X), (iv p0.place.Y), (.bool p0.placed), (iv p0.off), (iv p0.on)] 77, ow u.1 u.2 107 zJ zHV.2]) rfl (zM rfl (zM rfl zY)) (fun _ => rfl) (wn rfl) rfl Tryz.call125 (zF rfl (zF rfl zO)) (fun W hW hp hE => zAr N p0 QA QB (QE.ext (hW.QS hp)) QD QC (QU.ext (hW.QS hp)) QL QN (Jz.ext (hW.QS hp)) QR QQ bp0 zHg zKj zKR (hz125.zAl (hW.QS hp)) zHV hy127 hE) ?_
    intro w u le128 hu
    obtain ⟨Ay127_0, cy127_0⟩ := u
    have gy127_0 := hu
    replace zHJ := zHJ.le le128
    replace hz125 := hz125.le le128
    replace leB := leB.trans le128
    have hgy127_0 : SlF Ay127_0 zHV.2.length cy127_0 := gy127_0 --@phi
    show Tr _ _ (uf _ 35 (iv zHV.1)) (up (up _ 1 (ow Ay127_0 cy127_0 107 zJ zHV.2)) 0 (bx bp0 #[(iv p0.p.Unit), (.slice QA p0.p.Tools.length QB), (.slice QD p0.p.Steps.length QC), (.slice QL p0.tools.length QN), (.slice Ay127_0 zHV.2.length cy127_0), (.bool p0.clear), (iv p0.tool), (iv p0.place.X), (iv p0.place.Y), (.bool p0.placed), (iv p0.off), (iv p0.on)] 77)) _
    refine Tr.asg rfl rfl (Tr.nil (Tr.zA (Tr.ret ?_)))
    obtain rfl := Option.some.inj H
    exact Tr.out (m := [(iv zHV.1)]) [] (zP rfl zQ) (fun W hW => ⟨w, (Ay127_0, cy127_0), leB, rfl, hgy127_0, hW.pick (ks := [0, 1]) (by decide) (zM rfl (zM rfl zY))⟩)
 | cons xL1 QF =>
  rw [Qm.eq_2] at H
  refine Tr.sr (Tr.va rfl (fun _ _ h1 h2 => zz (h1.ev rfl) (h1.ev rfl)) ?_)
  refine Tr.nil (Tr.zA (Tr.seq (Tr.WI rfl (Jg QP) ?_)))
  refine Tr.skip (Tr.zA (Tr.seq (Tr.block (Tr.sr (Tr.va rfl (fun _ _ h1 h2 => zH zHz (h1.ev rfl) QV.form (h1.ev rfl) (Int.natCast_nonneg _) (zo QP)) ?_)))))
  refine Tr.va rfl (fun _ _ h1 h2 => zR (cs := [(iv xL1.X), (iv xL1.Y)]) KF JB (h1.ev rfl) (zL.take (rdF zAm QV (Js QP) h2) 2) rfl) ?_
  refine Tr.alloc 10 (wn rfl) rfl zHe fun b129 => ?_
  refine Tr.store 10 (cs := [(iv xL1.X), (iv xL1.Y)]) [(iv xL1.X), (iv xL1.Y)] (wn rfl) rfl rfl rfl rfl JB rfl rfl rfl ?_
  refine Tr.nil (Tr.zA (Tr.region (Tr.mv rfl rfl (Tr.mv rfl rfl (Tr.va rfl (fun _ _ h1 h2 => zR (cs := [(iv xL1.X), (iv xL1.Y)]) KF JB (h1.ev rfl) (zL.take (rdb h2 (vs := [(iv xL1.X), (iv xL1.Y)]) (k := 10) rfl 0) 2) rfl) ?_)))))
  refine Tr.va rfl (fun _ _ h1 h2 => zR (cs := [(iv p2.X), (iv p2.Y)]) KF JB (h1.ev rfl) (zL.take (rdb h2 (vs := [(iv p2.X), (iv p2.Y)]) (k := 2) rfl 0) 2) rfl) ?_
  obtain ⟨zJn, hy130, H⟩ := bnd H
  refine Tr.Qp (r := (.agg #[(iv zJn.X), (iv zJn.Y)])) (wn rfl) rfl Tryz.call103 (zF rfl (zF rfl (zF rfl zO))) (fun W hW => zCW p0 QA QB (QE.ext hW.QZ) QD QC (QU.ext hW.QZ) QL QN (Jz.ext hW.QZ) QR QQ (hW.zEA (k := 1) rfl) bp0 (hW.capR (k := 0) rfl) (hW.capC (k := 0) rfl) xL1 p2 zJn hy130 (HF.start _)) ?_
  refine Tr.buildSlice 11 (e := 43) (vs := [(0, (.agg #[(iv zJn.X), (iv zJn.Y)]))]) (cs := [(iv zJn.X), (iv zJn.Y)]) (wn rfl) rfl (zi rfl Qb) (by kernel_rfl) fun b131 => ?_
  obtain ⟨l132, hl132, H⟩ := bnd H
  refine Tr.append 3 (t := zy) (l := zJX) (l2 := [zJn]) (wn rfl) rfl rfl rfl rfl (fun W hW => ⟨[[(iv zJn.X), (iv zJn.Y)]], (.cons ⟨(), trivial, rfl⟩ .nil), rdb hW (vs := [(iv zJn.X), (iv zJn.Y)]) (k := 11) rfl 0⟩) zDn JB zl_43 (by decide) by_43 rfl hl132 fun Al132 cl132 hAl132 => ?_
  refine Tr.asg rfl rfl (Tr.nil (Tr.zW (Tr.zA ?_)))
  refine Tr.region (Tr.va rfl (fun _ _ h1 h2 => zx (h1.ev rfl) (h1.ev rfl)) ?_)
  exact Tr.mv rfl rfl (Tr.nil (Tr.zZ QW (QF, (iL1 + 1), l132, Al132, cl132) ⟨rfl, Qg QP, zo QP, H, hAl132⟩ (.cons rfl (.cons rfl (.cons rfl (.cons rfl (.cons rfl (.cons (congrArg (fun z => some (Value.int .i64 z)) (Qf QP QV.form)) .nil)))))) (.cons rfl (.cons rfl (.cons rfl (.cons rfl .nil))))))

end Go.Proofs.YtoageaoknnnfbaaGreatDoor
