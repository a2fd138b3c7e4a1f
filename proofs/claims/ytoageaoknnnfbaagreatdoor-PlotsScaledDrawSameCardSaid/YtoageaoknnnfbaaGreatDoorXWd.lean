/- The walks: each function computes its plain function. -/
import Derived.Test.YtoageaoknnnfbaaGreatDoorXWc
namespace Go.Proofs.YtoageaoknnnfbaaGreatDoor
open Go.RowKit
set_option maxRecDepth 100000
set_option maxHeartbeats 1000000
theorem F_shape_line_ok (N : Nat) {w : Bs} (p0 : (List Int)) (Ap0_0 : Option Addr) (cp0_0 : Nat) (hp0_0 : Sl w.R w.W zn Ap0_0 cp0_0 p0) (p1 : (List Int)) (Ap1_0 : Option Addr) (cp1_0 : Nat) (hp1_0 : Sl w.R w.W zn Ap1_0 cp1_0 p1) (p2 : Bool → Bool → Option Bool) (fid2 : Nat) (cap2 : List Value) (hg2 : ∀ args W, (callFunc fid2 args).run Tryz.prog W = .ok (.enter fid2 args) W) (hf2 : ∀ (w' : Bs), w.Ext w' → ∀ (z0 : Bool) (z1 : Bool), ∀ y, p2 z0 z1 = some y → Calls Tryz.prog fid2 (([(.bool z0), (.bool z1)] : List Value) ++ cap2).toArray w'.W fun e W'' => e = .returned (.bool y) ∧ HF w' W'' E0) (r : (List Int)) (H : F_shape_line N p0 p1 p2 = some r) (hE : HF w w.W (LEn [emp])) : Calls Tryz.prog 91 [(.slice Ap0_0 (p0).length cp0_0), (.slice Ap1_0 (p1).length cp1_0), (.func (.func fid2) #[] cap2.toArray)].toArray w.W fun e W' => ∃ u : (Option Addr × Nat), e = .returned (.slice u.1 (r).length u.2) ∧ (SlF u.1 (r).length u.2) ∧ HF w W' (LEn [ow u.1 u.2 3 zn r]) := by
 unfold F_shape_line at H
 have leB := Bs.Le.refl w
 refine Tr.enter (n := 85) Tryz.func91 rfl rfl rfl hE ?_
 refine Tr.sr ?_
 refine Tr.asg rfl rfl ?_
 refine Tr.nilOwn 1 3 zn ?_
 show Tr _ _ (uf _ 6 (.slice none (([] : List Int)).length 0)) _ _
 refine Tr.nil (Tr.zA ?_)
 refine Tr.sr ?_
 refine Tr.asg rfl rfl ?_
 refine Tr.nilOwn 2 3 zn ?_
 show Tr _ _ (uf _ 7 (.slice none (([] : List Int)).length 0)) _ _
 refine Tr.nil (Tr.zA ?_)
 refine Tr.sr ?_
 refine Tr.asg rfl rfl ?_
 refine Tr.asg rfl rfl ?_
 refine Tr.asg rfl rfl ?_
 refine Tr.nil (Tr.zA ?_)
 refine Tr.seq ?_
 refine Tr.block ?_
 refine Tr.loop (σ := (List Int) × (List Int) × (List Int) × Bool × Bool × Bool × (Option Addr) × Nat × (Option Addr) × Nat × (Option Addr) × Nat) (fun m w s => zAI p2 m s.1 s.2.1 s.2.2.1 s.2.2.2.1 s.2.2.2.2.1 s.2.2.2.2.2.1 = some r ∧ Sl w.R w.W zn s.2.2.2.2.2.2.1 s.2.2.2.2.2.2.2.1 s.1 ∧ Sl w.R w.W zn s.2.2.2.2.2.2.2.2.1 s.2.2.2.2.2.2.2.2.2.1 s.2.1 ∧ SlF s.2.2.2.2.2.2.2.2.2.2.1 (s.2.2.1).length s.2.2.2.2.2.2.2.2.2.2.2) (fun s => [(0, (.slice s.2.2.2.2.2.2.1 (s.1).length s.2.2.2.2.2.2.2.1)), (1, (.slice s.2.2.2.2.2.2.2.2.1 (s.2.1).length s.2.2.2.2.2.2.2.2.2.1)), (2, (.func (.func fid2) #[] cap2.toArray)), (7, (.slice s.2.2.2.2.2.2.2.2.2.2.1 (s.2.2.1).length s.2.2.2.2.2.2.2.2.2.2.2)), (8, (.bool s.2.2.2.1)), (9, (.bool s.2.2.2.2.1)), (10, (.bool s.2.2.2.2.2.1))]) (fun s => [(2, ow s.2.2.2.2.2.2.2.2.2.2.1 s.2.2.2.2.2.2.2.2.2.2.2 3 zn s.2.2.1)]) N (p0, p1, ([] : List Int), false, false, false, Ap0_0, cp0_0, Ap1_0, cp1_0, none, 0) ⟨H, hp0_0, hp1_0, slf_nil⟩ (.cons rfl (.cons rfl (.cons rfl (.cons rfl (.cons rfl (.cons rfl (.cons rfl .nil))))))) (.cons rfl .nil) (fun _ _ h => noSome (h.1)) ?_
 intro w leL7 mL7 s hs
 obtain ⟨l230, l231, l232, x233, x234, x235, Al230, cl230, Al231, cl231, Al232, cl232⟩ := s
 obtain ⟨H, hl230, hl231, hl232⟩ := hs
 replace H : zAI p2 (mL7 + 1) l230 l231 l232 x233 x234 x235 = some r := H
 replace hf2 := fun w' he => hf2 w' (leL7.ext.trans he)
 replace leB := leB.trans leL7
 replace hl230 : Sl w.R w.W zn Al230 cl230 l230 := hl230
 replace hl231 : Sl w.R w.W zn Al231 cl231 l231 := hl231
 replace hl232 : SlF Al232 (l232).length cl232 := hl232
 rw [zAI.eq_2] at H
 show Tr _ _ (LF [(0, (.slice Al230 (l230).length cl230)), (1, (.slice Al231 (l231).length cl231)), (2, (.func (.func fid2) #[] cap2.toArray)), (7, (.slice Al232 (l232).length cl232)), (8, (.bool x233)), (9, (.bool x234)), (10, (.bool x235))]) (LE [(2, ow Al232 cl232 3 zn l232)]) _
 refine Tr.seq ?_
 refine Tr.sr ?_
 refine Tr.mv rfl rfl ?_
 refine Tr.va rfl (fun _ _ h1 h2 => zq un_38 (h1.ev rfl)) ?_
 refine Tr.va rfl (fun _ _ h1 h2 => run_gtr (h1.ev rfl) (h1.ev rfl)) ?_
 refine Tr.mv rfl rfl ?_
 refine Tr.mid0 4 [(0, (.slice Al230 (l230).length cl230)), (1, (.slice Al231 (l231).length cl231)), (2, (.func (.func fid2) #[] cap2.toArray)), (7, (.slice Al232 (l232).length cl232)), (8, (.bool x233)), (9, (.bool x234)), (10, (.bool x235)), (20, (.bool ((decide (0 < (l230.length : Int))) || (decide (0 < (l231.length : Int))))))] [(2, ow Al232 cl232 3 zn l232)] ?_ ?_
 ·cases hg291 : (decide (0 < (l230.length : Int)))
  ·refine Tr.val (wg rfl rfl rfl) rfl (fun _ _ h1 h2 => run_move (h1.ev rfl)) ?_
   refine Tr.val (wg rfl rfl rfl) rfl (fun _ _ h1 h2 => zq un_38 (h1.ev rfl)) ?_
   refine Tr.val (wg rfl rfl rfl) rfl (fun _ _ h1 h2 => run_gtr (h1.ev rfl) (h1.ev rfl)) ?_
   refine Tr.va rfl (fun _ _ h1 h2 => zf (h1.ev rfl) (h1.ev rfl)) ?_
   exact Tr.nil (Tr.fin0 (.cons rfl (.cons rfl (.cons rfl (.cons rfl (.cons rfl (.cons rfl (.cons rfl (.cons rfl .nil)))))))) (.cons rfl .nil))
  ·refine Tr.pass rfl rfl rfl rfl rfl (by decide) ?_
   refine Tr.pass rfl rfl rfl rfl rfl (by decide) ?_
   refine Tr.pass rfl rfl rfl rfl rfl (by decide) ?_
   refine Tr.va rfl (fun _ _ h1 h2 => ze (h1.ev rfl) (h1.ev rfl)) ?_
   exact Tr.nil (Tr.fin0 (.cons rfl (.cons rfl (.cons rfl (.cons rfl (.cons rfl (.cons rfl (.cons rfl (.cons rfl .nil)))))))) (.cons rfl .nil))
 ·show Tr _ _ (LF [(0, (.slice Al230 (l230).length cl230)), (1, (.slice Al231 (l231).length cl231)), (2, (.func (.func fid2) #[] cap2.toArray)), (7, (.slice Al232 (l232).length cl232)), (8, (.bool x233)), (9, (.bool x234)), (10, (.bool x235)), (20, (.bool ((decide (0 < (l230.length : Int))) || (decide (0 < (l231.length : Int))))))]) (LE [(2, ow Al232 cl232 3 zn l232)]) _
  refine Tr.nil (Tr.zA ?_)
  refine Tr.cond rfl H (fun H => ?_) (fun H => ?_)
  ·refine Tr.skip (Tr.zA ?_)
   refine Tr.block ?_
   refine Tr.sr ?_
   refine Tr.asg rfl rfl ?_
   refine Tr.nil (Tr.zA ?_)
   have leJ250 := Bs.Le.refl w
   refine Tr.cutJ (σ := Int) (fun w s => F_shape_line_J10 p2 l230 l231 l232 x233 x234 x235 (zAI p2 mL7) s = some r) (fun s => [(0, (.slice Al230 (l230).length cl230)), (1, (.slice Al231 (l231).length cl231)), (2, (.func (.func fid2) #[] cap2.toArray)), (7, (.slice Al232 (l232).length cl232)), (8, (.bool x233)), (9, (.bool x234)), (10, (.bool x235)), (11, (iv s))]) (fun s => [(2, ow Al232 cl232 3 zn l232)]) ?_ ?_
   ·refine Tr.seq ?_
    refine Tr.draw (by kernel_rfl) (by kernel_rfl) ?_
    refine Tq.mv rfl rfl ?_
    refine Tq.va rfl (fun _ _ h1 h2 => zq un_38 (h1.ev rfl)) ?_
    refine Tq.va rfl (fun _ _ h1 h2 => run_eql (h1.ev rfl) (h1.ev rfl)) ?_
    refine Tq.mv rfl rfl ?_
    obtain ⟨g284, hg284, H⟩ := bnd H
    refine Tq.mid 13 [(0, (.slice Al230 (l230).length cl230)), (1, (.slice Al231 (l231).length cl231)), (2, (.func (.func fid2) #[] cap2.toArray)), (7, (.slice Al232 (l232).length cl232)), (8, (.bool x233)), (9, (.bool x234)), (10, (.bool x235)), (37, (.bool g284))] ?_ ?_
    ·cases hg291 : ((l231.length : Int) == 0)
     ·rw [hg291] at hg284
      rw [if_neg (by decide)] at hg284
      have H := hg284
      refine Tq.val (wg rfl rfl rfl) rfl (fun _ _ h1 h2 => run_move (h1.ev rfl)) ?_
      refine Tq.val (wg rfl rfl rfl) rfl (fun _ _ h1 h2 => zq un_38 (h1.ev rfl)) ?_
      refine Tq.val (wg rfl rfl rfl) rfl (fun _ _ h1 h2 => run_gtr (h1.ev rfl) (h1.ev rfl)) ?_
      refine Tq.val (wg rfl rfl rfl) rfl (fun _ _ h1 h2 => run_move (h1.ev rfl)) ?_
      obtain ⟨g287, hg287, H⟩ := bnd H
      refine Tq.mid 8 [(0, (.slice Al230 (l230).length cl230)), (1, (.slice Al231 (l231).length cl231)), (2, (.func (.func fid2) #[] cap2.toArray)), (7, (.slice Al232 (l232).length cl232)), (8, (.bool x233)), (9, (.bool x234)), (10, (.bool x235)), (24, (.bool false)), (36, (.bool g287))] ?_ ?_
      ·cases hg289 : (decide (0 < (l230.length : Int)))
       ·rw [hg289] at hg287
        rw [if_neg (by decide)] at hg287
        have H := hg287
        obtain rfl := Option.some.inj H
        refine Tq.pass rfl rfl rfl rfl rfl (by decide) ?_
        refine Tq.pass rfl rfl rfl rfl rfl (by decide) ?_
        refine Tq.pass rfl rfl rfl rfl rfl (by decide) ?_
        refine Tq.pass rfl rfl rfl rfl rfl (by decide) ?_
        refine Tq.pass rfl rfl rfl rfl rfl (by decide) ?_
        refine Tq.pass rfl rfl rfl rfl rfl (by decide) ?_
        refine Tq.pass rfl rfl rfl rfl rfl (by decide) ?_
        refine Tq.val (wg rfl rfl rfl) rfl (fun _ _ h1 h2 => zf (h1.ev rfl) (h1.ev rfl)) ?_
        exact Tq.fin (.cons rfl (.cons rfl (.cons rfl (.cons rfl (.cons rfl (.cons rfl (.cons rfl (.cons rfl (.cons rfl .nil)))))))))
       ·rw [hg289] at hg287
        rw [if_pos rfl] at hg287
        have H := hg287
        refine Tq.val (wg rfl rfl rfl) rfl (fun _ _ h1 h2 => run_move (h1.ev rfl)) ?_
        obtain ⟨x288, hx288, H⟩ := bnd H
        obtain ⟨hx2880, hx2881, hx2882⟩ := zh hx288
        refine Tq.val (wg rfl rfl rfl) rfl (fun _ _ h1 h2 => zH el_38 (h1.ev rfl) hl230.form (h1.ev rfl) hx2880 hx2881) ?_
        refine Tq.val (wg rfl rfl rfl) rfl (fun _ _ h1 h2 => zC ag_3 (h1.ev rfl) (rdF ef_i64 hl230 hx2882 h2) rfl) ?_
        refine Tq.val (wg rfl rfl rfl) rfl (fun _ _ h1 h2 => run_move (h1.ev rfl)) ?_
        obtain ⟨x289, hx289, H⟩ := bnd H
        obtain ⟨hx2890, hx2891, hx2892⟩ := zh hx289
        refine Tq.val (wg rfl rfl rfl) rfl (fun _ _ h1 h2 => zH el_38 (h1.ev rfl) hl231.form (h1.ev rfl) hx2890 hx2891) ?_
        refine Tq.val (wg rfl rfl rfl) rfl (fun _ _ h1 h2 => zC ag_3 (h1.ev rfl) (rdF ef_i64 hl231 hx2892 h2) rfl) ?_
        refine Tq.val (wg rfl rfl rfl) rfl (fun _ _ h1 h2 => run_leq (h1.ev rfl) (h1.ev rfl)) ?_
        refine Tq.val (wg rfl rfl rfl) rfl (fun _ _ h1 h2 => ze (h1.ev rfl) (h1.ev rfl)) ?_
        obtain rfl := Option.some.inj H
        exact Tq.fin (.cons rfl (.cons rfl (.cons rfl (.cons rfl (.cons rfl (.cons rfl (.cons rfl (.cons rfl (.cons rfl .nil)))))))))
      ·refine Tq.va rfl (fun _ _ h1 h2 => zf (h1.ev rfl) (h1.ev rfl)) ?_
       obtain rfl := Option.some.inj H
       exact Tq.fin (.cons rfl (.cons rfl (.cons rfl (.cons rfl (.cons rfl (.cons rfl (.cons rfl (.cons rfl .nil))))))))
     ·rw [hg291] at hg284
      rw [if_pos rfl] at hg284
      have H := hg284
      obtain rfl := Option.some.inj H
      refine Tq.pass rfl rfl rfl rfl rfl (by decide) ?_
      refine Tq.pass rfl rfl rfl rfl rfl (by decide) ?_
      refine Tq.pass rfl rfl rfl rfl rfl (by decide) ?_
      refine Tq.pass rfl rfl rfl rfl rfl (by decide) ?_
      refine Tq.passU rfl rfl rfl rfl (by decide) ?_
      refine Tq.passU rfl rfl rfl rfl (by decide) ?_
      refine Tq.passU rfl rfl rfl rfl (by decide) ?_
      refine Tq.passU rfl rfl rfl rfl (by decide) ?_
      refine Tq.passU rfl rfl rfl rfl (by decide) ?_
      refine Tq.passU rfl rfl rfl rfl (by decide) ?_
      refine Tq.passU rfl rfl rfl rfl (by decide) ?_
      refine Tq.pass rfl rfl rfl rfl rfl (by decide) ?_
      refine Tq.va rfl (fun _ _ h1 h2 => ze (h1.ev rfl) (h1.ev rfl)) ?_
      exact Tq.fin (.cons rfl (.cons rfl (.cons rfl (.cons rfl (.cons rfl (.cons rfl (.cons rfl (.cons rfl .nil))))))))
    ·refine Tq.nil (Tr.zA ?_)
     refine Tr.cond rfl H (fun H => ?_) (fun H => ?_)
     ·refine Tr.region ?_
      refine Tr.mv rfl rfl ?_
      obtain ⟨x290, hx290, H⟩ := bnd H
      obtain ⟨hx2900, hx2901, hx2902⟩ := zh hx290
      refine Tr.va rfl (fun _ _ h1 h2 => zH el_38 (h1.ev rfl) hl230.form (h1.ev rfl) hx2900 hx2901) ?_
      refine Tr.va rfl (fun _ _ h1 h2 => zC ag_3 (h1.ev rfl) (rdF ef_i64 hl230 hx2902 h2) rfl) ?_
      refine Tr.asg rfl rfl ?_
      refine Tr.nil ?_
      exact Tr.zZ leJ250 x290 H (.cons rfl (.cons rfl (.cons rfl (.cons rfl (.cons rfl (.cons rfl (.cons rfl (.cons rfl .nil)))))))) (.cons rfl .nil)
     ·refine Tr.region ?_
      refine Tr.mv rfl rfl ?_
      obtain ⟨x291, hx291, H⟩ := bnd H
      obtain ⟨hx2910, hx2911, hx2912⟩ := zh hx291
      refine Tr.va rfl (fun _ _ h1 h2 => zH el_38 (h1.ev rfl) hl231.form (h1.ev rfl) hx2910 hx2911) ?_
      refine Tr.va rfl (fun _ _ h1 h2 => zC ag_3 (h1.ev rfl) (rdF ef_i64 hl231 hx2912 h2) rfl) ?_
      refine Tr.asg rfl rfl ?_
      refine Tr.nil ?_
      exact Tr.zZ leJ250 x291 H (.cons rfl (.cons rfl (.cons rfl (.cons rfl (.cons rfl (.cons rfl (.cons rfl (.cons rfl .nil)))))))) (.cons rfl .nil)
   ·intro w x249 hlJ251 hs
    have H := hs
    replace H : F_shape_line_J10 p2 l230 l231 l232 x233 x234 x235 (zAI p2 mL7) x249 = some r := H
    replace hl230 := hl230.leR hlJ251
    replace hl231 := hl231.leR hlJ251
    replace hf2 := fun w' he => hf2 w' (hlJ251.ext.trans he)
    replace leB := leB.trans hlJ251
    replace leL7 := leL7.trans hlJ251
    unfold F_shape_line_J10 at H
    show Tr _ _ (LF [(0, (.slice Al230 (l230).length cl230)), (1, (.slice Al231 (l231).length cl231)), (2, (.func (.func fid2) #[] cap2.toArray)), (7, (.slice Al232 (l232).length cl232)), (8, (.bool x233)), (9, (.bool x234)), (10, (.bool x235)), (11, (iv x249))]) (LE [(2, ow Al232 cl232 3 zn l232)]) _
    have leJ258 := Bs.Le.refl w
    refine Tr.cutJ (σ := (List Int) × Bool × (Option Addr) × Nat) (fun w s => F_shape_line_J9 p2 l231 l232 x234 x235 (zAI p2 mL7) x249 s.1 s.2.1 = some r ∧ Sl w.R w.W zn s.2.2.1 s.2.2.2 s.1) (fun s => [(0, (.slice s.2.2.1 (s.1).length s.2.2.2)), (1, (.slice Al231 (l231).length cl231)), (2, (.func (.func fid2) #[] cap2.toArray)), (7, (.slice Al232 (l232).length cl232)), (8, (.bool s.2.1)), (9, (.bool x234)), (10, (.bool x235)), (11, (iv x249))]) (fun s => [(2, ow Al232 cl232 3 zn l232)]) ?_ ?_
    ·refine Tr.sr ?_
     refine Tr.mv rfl rfl ?_
     refine Tr.va rfl (fun _ _ h1 h2 => zq un_38 (h1.ev rfl)) ?_
     refine Tr.va rfl (fun _ _ h1 h2 => run_gtr (h1.ev rfl) (h1.ev rfl)) ?_
     refine Tr.mv rfl rfl ?_
     obtain ⟨g276, hg276, H⟩ := bnd H
     refine Tr.mid0 6 [(0, (.slice Al230 (l230).length cl230)), (1, (.slice Al231 (l231).length cl231)), (2, (.func (.func fid2) #[] cap2.toArray)), (7, (.slice Al232 (l232).length cl232)), (8, (.bool x233)), (9, (.bool x234)), (10, (.bool x235)), (11, (iv x249)), (53, (.bool g276))] [(2, ow Al232 cl232 3 zn l232)] ?_ ?_
     ·cases hg278 : (decide (0 < (l230.length : Int)))
      ·rw [hg278] at hg276
       rw [if_neg (by decide)] at hg276
       have H := hg276
       obtain rfl := Option.some.inj H
       refine Tr.pass rfl rfl rfl rfl rfl (by decide) ?_
       refine Tr.pass rfl rfl rfl rfl rfl (by decide) ?_
       refine Tr.pass rfl rfl rfl rfl rfl (by decide) ?_
       refine Tr.pass rfl rfl rfl rfl rfl (by decide) ?_
       refine Tr.pass rfl rfl rfl rfl rfl (by decide) ?_
       refine Tr.va rfl (fun _ _ h1 h2 => zf (h1.ev rfl) (h1.ev rfl)) ?_
       exact Tr.nil (Tr.fin0 (.cons rfl (.cons rfl (.cons rfl (.cons rfl (.cons rfl (.cons rfl (.cons rfl (.cons rfl (.cons rfl .nil))))))))) (.cons rfl .nil))
      ·rw [hg278] at hg276
       rw [if_pos rfl] at hg276
       have H := hg276
       refine Tr.val (wg rfl rfl rfl) rfl (fun _ _ h1 h2 => run_move (h1.ev rfl)) ?_
       obtain ⟨x277, hx277, H⟩ := bnd H
       obtain ⟨hx2770, hx2771, hx2772⟩ := zh hx277
       refine Tr.val (wg rfl rfl rfl) rfl (fun _ _ h1 h2 => zH el_38 (h1.ev rfl) hl230.form (h1.ev rfl) hx2770 hx2771) ?_
       refine Tr.val (wg rfl rfl rfl) rfl (fun _ _ h1 h2 => zC ag_3 (h1.ev rfl) (rdF ef_i64 hl230 hx2772 h2) rfl) ?_
       refine Tr.val (wg rfl rfl rfl) rfl (fun _ _ h1 h2 => run_move (h1.ev rfl)) ?_
       refine Tr.val (wg rfl rfl rfl) rfl (fun _ _ h1 h2 => run_eql (h1.ev rfl) (h1.ev rfl)) ?_
       refine Tr.va rfl (fun _ _ h1 h2 => ze (h1.ev rfl) (h1.ev rfl)) ?_
       obtain rfl := Option.some.inj H
       exact Tr.nil (Tr.fin0 (.cons rfl (.cons rfl (.cons rfl (.cons rfl (.cons rfl (.cons rfl (.cons rfl (.cons rfl (.cons rfl .nil))))))))) (.cons rfl .nil))
     ·show Tr _ _ (LF [(0, (.slice Al230 (l230).length cl230)), (1, (.slice Al231 (l231).length cl231)), (2, (.func (.func fid2) #[] cap2.toArray)), (7, (.slice Al232 (l232).length cl232)), (8, (.bool x233)), (9, (.bool x234)), (10, (.bool x235)), (11, (iv x249)), (53, (.bool g276))]) (LE [(2, ow Al232 cl232 3 zn l232)]) _
      refine Tr.nil (Tr.zA ?_)
      refine Tr.cond rfl H (fun H => ?_) (fun H => ?_)
      ·refine Tr.region ?_
       refine Tr.mv rfl rfl ?_
       obtain ⟨l278, hl278, H⟩ := bnd H
       refine Tr.va rfl (fun _ _ h1 h2 => run_cutL el_38 (h1.ev rfl) hl230.form (h1.ev rfl) hl278) ?_
       refine Tr.mv rfl rfl ?_
       refine Tr.va rfl (fun _ _ h1 h2 => run_not (h1.ev rfl)) ?_
       refine Tr.asg rfl rfl ?_
       refine Tr.asg rfl rfl ?_
       refine Tr.nil ?_
       exact Tr.zZ leJ258 (l278, (!x233), (cutA Al230 (1 : Int).toNat 1 cl230), (cl230 - (1 : Int).toNat)) ⟨H, (Sl.cut hl230 hl278)⟩ (.cons rfl (.cons rfl (.cons rfl (.cons rfl (.cons rfl (.cons rfl (.cons rfl (.cons rfl .nil)))))))) (.cons rfl .nil)
      ·refine Tr.skip ?_
       exact Tr.zZ leJ258 (l230, x233, Al230, cl230) ⟨H, hl230⟩ (.cons rfl (.cons rfl (.cons rfl (.cons rfl (.cons rfl (.cons rfl (.cons rfl (.cons rfl .nil)))))))) (.cons rfl .nil)
    ·intro w s hlJ259 hs
     obtain ⟨l256, x257, Al256, cl256⟩ := s
     obtain ⟨H, hl256⟩ := hs
     replace H : F_shape_line_J9 p2 l231 l232 x234 x235 (zAI p2 mL7) x249 l256 x257 = some r := H
     replace hl231 := hl231.leR hlJ259
     replace hf2 := fun w' he => hf2 w' (hlJ259.ext.trans he)
     replace leB := leB.trans hlJ259
     replace leL7 := leL7.trans hlJ259
     replace hl256 : Sl w.R w.W zn Al256 cl256 l256 := hl256
     unfold F_shape_line_J9 at H
     show Tr _ _ (LF [(0, (.slice Al256 (l256).length cl256)), (1, (.slice Al231 (l231).length cl231)), (2, (.func (.func fid2) #[] cap2.toArray)), (7, (.slice Al232 (l232).length cl232)), (8, (.bool x257)), (9, (.bool x234)), (10, (.bool x235)), (11, (iv x249))]) (LE [(2, ow Al232 cl232 3 zn l232)]) _
     have leJ266 := Bs.Le.refl w
     refine Tr.cutJ (σ := (List Int) × Bool × (Option Addr) × Nat) (fun w s => F_shape_line_J8 p2 l232 x235 (zAI p2 mL7) x249 l256 x257 s.1 s.2.1 = some r ∧ Sl w.R w.W zn s.2.2.1 s.2.2.2 s.1) (fun s => [(0, (.slice Al256 (l256).length cl256)), (1, (.slice s.2.2.1 (s.1).length s.2.2.2)), (2, (.func (.func fid2) #[] cap2.toArray)), (7, (.slice Al232 (l232).length cl232)), (8, (.bool x257)), (9, (.bool s.2.1)), (10, (.bool x235)), (11, (iv x249))]) (fun s => [(2, ow Al232 cl232 3 zn l232)]) ?_ ?_
     ·refine Tr.sr ?_
      refine Tr.mv rfl rfl ?_
      refine Tr.va rfl (fun _ _ h1 h2 => zq un_38 (h1.ev rfl)) ?_
      refine Tr.va rfl (fun _ _ h1 h2 => run_gtr (h1.ev rfl) (h1.ev rfl)) ?_
      refine Tr.mv rfl rfl ?_
      obtain ⟨g272, hg272, H⟩ := bnd H
      refine Tr.mid0 6 [(0, (.slice Al256 (l256).length cl256)), (1, (.slice Al231 (l231).length cl231)), (2, (.func (.func fid2) #[] cap2.toArray)), (7, (.slice Al232 (l232).length cl232)), (8, (.bool x257)), (9, (.bool x234)), (10, (.bool x235)), (11, (iv x249)), (67, (.bool g272))] [(2, ow Al232 cl232 3 zn l232)] ?_ ?_
      ·cases hg274 : (decide (0 < (l231.length : Int)))
       ·rw [hg274] at hg272
        rw [if_neg (by decide)] at hg272
        have H := hg272
        obtain rfl := Option.some.inj H
        refine Tr.pass rfl rfl rfl rfl rfl (by decide) ?_
        refine Tr.pass rfl rfl rfl rfl rfl (by decide) ?_
        refine Tr.pass rfl rfl rfl rfl rfl (by decide) ?_
        refine Tr.pass rfl rfl rfl rfl rfl (by decide) ?_
        refine Tr.pass rfl rfl rfl rfl rfl (by decide) ?_
        refine Tr.va rfl (fun _ _ h1 h2 => zf (h1.ev rfl) (h1.ev rfl)) ?_
        exact Tr.nil (Tr.fin0 (.cons rfl (.cons rfl (.cons rfl (.cons rfl (.cons rfl (.cons rfl (.cons rfl (.cons rfl (.cons rfl .nil))))))))) (.cons rfl .nil))
       ·rw [hg274] at hg272
        rw [if_pos rfl] at hg272
        have H := hg272
        refine Tr.val (wg rfl rfl rfl) rfl (fun _ _ h1 h2 => run_move (h1.ev rfl)) ?_
        obtain ⟨x273, hx273, H⟩ := bnd H
        obtain ⟨hx2730, hx2731, hx2732⟩ := zh hx273
        refine Tr.val (wg rfl rfl rfl) rfl (fun _ _ h1 h2 => zH el_38 (h1.ev rfl) hl231.form (h1.ev rfl) hx2730 hx2731) ?_
        refine Tr.val (wg rfl rfl rfl) rfl (fun _ _ h1 h2 => zC ag_3 (h1.ev rfl) (rdF ef_i64 hl231 hx2732 h2) rfl) ?_
        refine Tr.val (wg rfl rfl rfl) rfl (fun _ _ h1 h2 => run_move (h1.ev rfl)) ?_
        refine Tr.val (wg rfl rfl rfl) rfl (fun _ _ h1 h2 => run_eql (h1.ev rfl) (h1.ev rfl)) ?_
        refine Tr.va rfl (fun _ _ h1 h2 => ze (h1.ev rfl) (h1.ev rfl)) ?_
        obtain rfl := Option.some.inj H
        exact Tr.nil (Tr.fin0 (.cons rfl (.cons rfl (.cons rfl (.cons rfl (.cons rfl (.cons rfl (.cons rfl (.cons rfl (.cons rfl .nil))))))))) (.cons rfl .nil))
      ·show Tr _ _ (LF [(0, (.slice Al256 (l256).length cl256)), (1, (.slice Al231 (l231).length cl231)), (2, (.func (.func fid2) #[] cap2.toArray)), (7, (.slice Al232 (l232).length cl232)), (8, (.bool x257)), (9, (.bool x234)), (10, (.bool x235)), (11, (iv x249)), (67, (.bool g272))]) (LE [(2, ow Al232 cl232 3 zn l232)]) _
       refine Tr.nil (Tr.zA ?_)
       refine Tr.cond rfl H (fun H => ?_) (fun H => ?_)
       ·refine Tr.region ?_
        refine Tr.mv rfl rfl ?_
        obtain ⟨l274, hl274, H⟩ := bnd H
        refine Tr.va rfl (fun _ _ h1 h2 => run_cutL el_38 (h1.ev rfl) hl231.form (h1.ev rfl) hl274) ?_
        refine Tr.mv rfl rfl ?_
        refine Tr.va rfl (fun _ _ h1 h2 => run_not (h1.ev rfl)) ?_
        refine Tr.asg rfl rfl ?_
        refine Tr.asg rfl rfl ?_
        refine Tr.nil ?_
        exact Tr.zZ leJ266 (l274, (!x234), (cutA Al231 (1 : Int).toNat 1 cl231), (cl231 - (1 : Int).toNat)) ⟨H, (Sl.cut hl231 hl274)⟩ (.cons rfl (.cons rfl (.cons rfl (.cons rfl (.cons rfl (.cons rfl (.cons rfl (.cons rfl .nil)))))))) (.cons rfl .nil)
       ·refine Tr.skip ?_
        exact Tr.zZ leJ266 (l231, x234, Al231, cl231) ⟨H, hl231⟩ (.cons rfl (.cons rfl (.cons rfl (.cons rfl (.cons rfl (.cons rfl (.cons rfl (.cons rfl .nil)))))))) (.cons rfl .nil)
     ·intro w s hlJ267 hs
      obtain ⟨l264, x265, Al264, cl264⟩ := s
      obtain ⟨H, hl264⟩ := hs
      replace H : F_shape_line_J8 p2 l232 x235 (zAI p2 mL7) x249 l256 x257 l264 x265 = some r := H
      replace hl256 := hl256.leR hlJ267
      replace hf2 := fun w' he => hf2 w' (hlJ267.ext.trans he)
      replace leB := leB.trans hlJ267
      replace leL7 := leL7.trans hlJ267
      replace hl264 : Sl w.R w.W zn Al264 cl264 l264 := hl264
      unfold F_shape_line_J8 at H
      show Tr _ _ (LF [(0, (.slice Al256 (l256).length cl256)), (1, (.slice Al264 (l264).length cl264)), (2, (.func (.func fid2) #[] cap2.toArray)), (7, (.slice Al232 (l232).length cl232)), (8, (.bool x257)), (9, (.bool x265)), (10, (.bool x235)), (11, (iv x249))]) (LE [(2, ow Al232 cl232 3 zn l232)]) _
      refine Tr.sr ?_
      refine Tr.mv rfl rfl ?_
      refine Tr.mv rfl rfl ?_
      refine Tr.mv rfl rfl ?_
      obtain ⟨y268, hy268, H⟩ := bnd H
      refine Tr.callF (r := (.bool y268)) (wn rfl) rfl rfl hg2 (zF rfl (zF rfl zO)) (fun W hW => hf2 hW.all hW.extAll x257 x265 _ hy268) ?_
      refine Tr.asg rfl rfl ?_
      refine Tr.nil (Tr.zA ?_)
      refine Tr.sr ?_
      refine Tr.mv rfl rfl ?_
      refine Tr.mv rfl rfl ?_
      refine Tr.va rfl (fun _ _ h1 h2 => run_neqB un_4 (h1.ev rfl) (h1.ev rfl)) ?_
      refine Tr.nil (Tr.zA ?_)
      refine Tr.cond rfl H (fun H => ?_) (fun H => ?_)
      ·refine Tr.region ?_
       refine Tr.mv rfl rfl ?_
       refine Tr.mv rfl rfl ?_
       refine Tr.buildSlice 5 (e := 3) (vs := [(0, (iv x249))]) (cs := [(iv x249)]) (wn rfl) rfl (zi rfl evs_nil) (by kernel_rfl) fun b269 => ?_
       obtain ⟨l270, hl270, H⟩ := bnd H
       refine Tr.append 2 (t := zn) (l := l232) (l2 := [x249]) (wn rfl) rfl rfl rfl rfl (fun W hW => ⟨[[(iv x249)]], (.cons ⟨(), trivial, rfl⟩ .nil), rdb hW (vs := [(iv x249)]) (k := 5) rfl 0⟩) un_38 sz_3 zl_3 (by decide) by_3 rfl hl270 fun Al270 cl270 hAl270 => ?_
       refine Tr.mv rfl rfl ?_
       refine Tr.asg rfl rfl ?_
       refine Tr.asg rfl rfl ?_
       refine Tr.nil (Tr.zW ?_)
       exact Tr.zZ leL7 (l256, l264, l270, x257, x265, y268, Al256, cl256, Al264, cl264, Al270, cl270) ⟨H, hl256, hl264, hAl270⟩ (.cons rfl (.cons rfl (.cons rfl (.cons rfl (.cons rfl (.cons rfl (.cons rfl .nil))))))) (.cons rfl .nil)
      ·refine Tr.skip (Tr.zW ?_)
       exact Tr.zZ leL7 (l256, l264, l232, x257, x265, x235, Al256, cl256, Al264, cl264, Al232, cl232) ⟨H, hl256, hl264, hl232⟩ (.cons rfl (.cons rfl (.cons rfl (.cons rfl (.cons rfl (.cons rfl (.cons rfl .nil))))))) (.cons rfl .nil)
  ·refine Tr.exit (Tr.zX (Tr.zX (Tr.zAC (Tr.zA ?_))))
   refine Tr.sr ?_
   refine Tr.mv rfl rfl ?_
   refine Tr.asg rfl rfl ?_
   refine Tr.nil (Tr.zA ?_)
   refine Tr.ret ?_
   obtain rfl := Option.some.inj H
   exact Tr.out (m := [(.slice Al232 (l232).length cl232)]) [] (zP rfl zQ) (fun W hW => ⟨(Al232, cl232), rfl, hl232, HF.lowE leB (hW.pick (ks := [2]) (by decide) (zM rfl zY)) ⟨ow_any _ _ _ _ tr_i64, trivial⟩⟩)

theorem F_shape_Merge_ok (N : Nat) {w : Bs} (p0 : (List zV)) (Ap0_0 : Option Addr) (cp0_0 : Nat) (hp0_0 : Sl w.O w.W zJ Ap0_0 cp0_0 p0) (p1 : (List zV)) (Ap1_0 : Option Addr) (cp1_0 : Nat) (hp1_0 : Sl w.O w.W zJ Ap1_0 cp1_0 p1) (p2 : Bool → Bool → Option Bool) (fid2 : Nat) (cap2 : List Value) (hg2 : ∀ args W, (callFunc fid2 args).run Tryz.prog W = .ok (.enter fid2 args) W) (hf2 : ∀ (w' : Bs), w.Ext w' → ∀ (z0 : Bool) (z1 : Bool), ∀ y, p2 z0 z1 = some y → Calls Tryz.prog fid2 (([(.bool z0), (.bool z1)] : List Value) ++ cap2).toArray w'.W fun e W'' => e = .returned (.bool y) ∧ HF w' W'' E0) (r : (List zV)) (H : F_shape_Merge N p0 p1 p2 = some r) (hE : HF w w.W (LEn [emp])) : Calls Tryz.prog 61 [(.slice Ap0_0 (p0).length cp0_0), (.slice Ap1_0 (p1).length cp1_0), (.func (.func fid2) #[] cap2.toArray)].toArray w.W fun e W' => ∃ (w' : Bs) (u : (Option Addr × Nat)), w.Le w' ∧ e = .returned (.slice u.1 (r).length u.2) ∧ (SlF u.1 (r).length u.2) ∧ HF w' W' (LEn [ow u.1 u.2 107 zJ r]) := by
 unfold F_shape_Merge at H
 have leB := Bs.Le.refl w
 refine Tr.enter (n := 126) Tryz.func61 rfl rfl rfl hE ?_
 refine Tr.sr ?_
 refine Tr.asg rfl rfl ?_
 refine Tr.nilOwn 1 107 zJ ?_
 show Tr _ _ (uf _ 6 (.slice none (([] : List zV)).length 0)) _ _
 refine Tr.nil (Tr.zA ?_)
 refine Tr.sr ?_
 refine Tr.asg rfl rfl ?_
 refine Tr.nilOwn 2 107 zJ ?_
 show Tr _ _ (uf _ 7 (.slice none (([] : List zV)).length 0)) _ _
 refine Tr.nil (Tr.zA ?_)
 refine Tr.seq ?_
 refine Tr.sr ?_
 refine Tr.mv rfl rfl ?_
 refine Tr.va rfl (fun _ _ h1 h2 => zq un_66 (h1.ev rfl)) ?_
 refine Tr.mv rfl rfl ?_
 refine Tr.va rfl (fun _ _ h1 h2 => zq un_66 (h1.ev rfl)) ?_
 refine Tr.va rfl (fun _ _ h1 h2 => zx (h1.ev rfl) (h1.ev rfl)) ?_
 refine Tr.va rfl (fun _ _ h1 h2 => run_eql (h1.ev rfl) (h1.ev rfl)) ?_
 refine Tr.nil (Tr.zA ?_)
 refine Tr.cond rfl H (fun H => ?_) (fun H => ?_)
 ·refine Tr.sr ?_
  refine Tr.asg rfl rfl ?_
  refine Tr.nilOwn 3 107 zJ ?_
  show Tr _ _ (uf _ 6 (.slice none (([] : List zV)).length 0)) _ _
  refine Tr.nil (Tr.zA ?_)
  refine Tr.ret (Tr.zU ?_)
  obtain rfl := Option.some.inj H
  exact Tr.out (m := [(.slice none (([] : List zV)).length 0)]) [] (zP rfl zQ) (fun W hW => ⟨w, (none, 0), leB, rfl, slf_nil, hW.pick (ks := [3]) (by decide) (zM rfl zY)⟩)
 ·refine Tr.skip (Tr.zA ?_)
  refine Tr.sr ?_
  refine Tr.asg rfl rfl ?_
  refine Tr.asg rfl rfl ?_
  refine Tr.nil (Tr.zA ?_)
  refine Tr.seq ?_
  refine Tr.sr ?_
  refine Tr.mv rfl rfl ?_
  refine Tr.mv rfl rfl ?_
  refine Tr.buildSlice 4 (e := 66) (vs := [(0, (.slice Ap0_0 (p0).length cp0_0)), (1, (.slice Ap1_0 (p1).length cp1_0))]) (cs := [(.slice Ap0_0 (p0).length cp0_0), (.slice Ap1_0 (p1).length cp1_0)]) (wn rfl) rfl (zi rfl (zi rfl evs_nil)) (by kernel_rfl) fun b100 => ?_
  refine Tr.va rfl (fun _ _ h1 h2 => zq un_75 (h1.ev rfl)) ?_
  refine Tr.mv rfl rfl ?_
  refine Tr.nil (Tr.zA ?_)
  refine Tr.block ?_
  refine Tr.own 4 fl_LTBand [p0, p1] (css := [[(.slice Ap0_0 (p0).length cp0_0)], [(.slice Ap1_0 (p1).length cp1_0)]]) rfl (.cons ⟨(Ap0_0, cp0_0), hp0_0, rfl⟩ (.cons ⟨(Ap1_0, cp1_0), hp1_0, rfl⟩ .nil)) rfl (by decide) (lit_max rfl) ?_
  refine Tr.ren 4 9 rfl rfl rfl ?_
  refine Tr.loop (σ := Int × Int × (List (List zV)) × Int × (Option Addr) × Nat) (fun m w s => zAF N p0 p1 p2 m s.1 s.2.1 s.2.2.1 s.2.2.2.1 = some r ∧ SlF s.2.2.2.2.1 (s.2.2.1).length s.2.2.2.2.2) (fun s => [(0, (.slice Ap0_0 (p0).length cp0_0)), (1, (.slice Ap1_0 (p1).length cp1_0)), (2, (.func (.func fid2) #[] cap2.toArray)), (7, (.slice none (([] : List zV)).length 0)), (8, (iv s.1)), (9, (iv s.2.1)), (25, (.slice s.2.2.2.2.1 (s.2.2.1).length s.2.2.2.2.2)), (26, (iv 2)), (27, (iv s.2.2.2.1))]) (fun s => [(2, ow none 0 107 zJ ([] : List zV)), (9, ow s.2.2.2.2.1 s.2.2.2.2.2 66 fl_LTBand s.2.2.1)]) N (0, 0, [p0, p1], 0, (some ⟨b100, 0, none⟩), 2) ⟨H, (lit_form b100 rfl)⟩ (.cons rfl (.cons rfl (.cons rfl (.cons rfl (.cons rfl (.cons rfl (.cons rfl (.cons rfl (.cons rfl .nil))))))))) (.cons rfl (.cons rfl .nil)) (fun _ _ h => noSome (h.1)) ?_
  intro w leL3 mL3 s hs
  obtain ⟨x150, x151, l152, x153, Al152, cl152⟩ := s
  obtain ⟨H, hl152⟩ := hs
  replace H : zAF N p0 p1 p2 (mL3 + 1) x150 x151 l152 x153 = some r := H
  replace hp0_0 := hp0_0.le leL3
  replace hp1_0 := hp1_0.le leL3
  replace hf2 := fun w' he => hf2 w' (leL3.ext.trans he)
  replace leB := leB.trans leL3
  replace hl152 : SlF Al152 (l152).length cl152 := hl152
  rw [zAF.eq_2] at H
  show Tr _ _ (LF [(0, (.slice Ap0_0 (p0).length cp0_0)), (1, (.slice Ap1_0 (p1).length cp1_0)), (2, (.func (.func fid2) #[] cap2.toArray)), (7, (.slice none (([] : List zV)).length 0)), (8, (iv x150)), (9, (iv x151)), (25, (.slice Al152 (l152).length cl152)), (26, (iv 2)), (27, (iv x153))]) (LE [(2, ow none 0 107 zJ ([] : List zV)), (9, ow Al152 cl152 66 fl_LTBand l152)]) _
  refine Tr.sr ?_
  refine Tr.va rfl (fun _ _ h1 h2 => zz (h1.ev rfl) (h1.ev rfl)) ?_
  refine Tr.nil (Tr.zA ?_)
  refine Tr.seq ?_
  refine Tr.cond rfl H (fun H => ?_) (fun H => ?_)
  ·refine Tr.skip (Tr.zA ?_)
   refine Tr.seq ?_
   refine Tr.block ?_
   refine Tr.sr ?_
   refine Tr.mv rfl rfl ?_
   obtain ⟨x154, hx154, H⟩ := bnd H
   obtain ⟨hx1540, hx1541, hx1542⟩ := zh hx154
   refine Tr.va rfl (fun _ _ h1 h2 => zH el_75 (h1.ev rfl) hl152 (h1.ev rfl) hx1540 hx1541) ?_
   refine Tr.valE (U := (fl_LTBand).Ad) (fun u => (fl_LTBand).ok w.O w.W u x154) (fun u => (.slice u.1 (x154).length u.2)) (wn rfl) rfl (ldN (κ := 9) (t := fl_LTBand) (V := fun u => (.slice u.1 (x154).length u.2)) rfl hx1542 (fun _ _ u h1 hc => zC ag_66 (h1.ev rfl) hc rfl)) ?_
   intro u155 hoku155
   obtain ⟨Au155_0, cu155_0⟩ := u155
   have hoku155_0 := hoku155
   replace hoku155_0 : Sl w.O w.W zJ Au155_0 cu155_0 x154 := hoku155_0
   show Tr _ _ (uf _ 31 (.slice Au155_0 (x154).length cu155_0)) _ _
   refine Tr.asg rfl rfl ?_
   refine Tr.asg rfl rfl ?_
   refine Tr.nil (Tr.zA ?_)
   refine Tr.sr ?_
   refine Tr.mv rfl rfl ?_
   refine Tr.va rfl (fun _ _ h1 h2 => zq un_66 (h1.ev rfl)) ?_
   refine Tr.va rfl (fun _ _ h1 h2 => run_gtr (h1.ev rfl) (h1.ev rfl)) ?_
   refine Tr.nil (Tr.zA ?_)
   refine Tr.cond rfl H (fun H => ?_) (fun H => ?_)
   ·have leJ162 := Bs.Le.refl w
    refine Tr.cutJ (σ := Int × Int) (fun w s => F_shape_Merge_J4 l152 x153 (zAF N p0 p1 p2 mL3) x154 s.1 s.2 = some r) (fun s => [(0, (.slice Ap0_0 (p0).length cp0_0)), (1, (.slice Ap1_0 (p1).length cp1_0)), (2, (.func (.func fid2) #[] cap2.toArray)), (7, (.slice none (([] : List zV)).length 0)), (8, (iv s.1)), (9, (iv s.2)), (11, (.slice Au155_0 (x154).length cu155_0)), (25, (.slice Al152 (l152).length cl152)), (26, (iv 2)), (27, (iv x153))]) (fun s => [(2, ow none 0 107 zJ ([] : List zV)), (9, ow Al152 cl152 66 fl_LTBand l152)]) ?_ ?_
    ·refine Tr.sr ?_
     refine Tr.mv rfl rfl ?_
     refine Tr.va rfl (fun _ _ h1 h2 => run_eql (h1.ev rfl) (h1.ev rfl)) ?_
     refine Tr.mv rfl rfl ?_
     refine Tr.mid0 4 [(0, (.slice Ap0_0 (p0).length cp0_0)), (1, (.slice Ap1_0 (p1).length cp1_0)), (2, (.func (.func fid2) #[] cap2.toArray)), (7, (.slice none (([] : List zV)).length 0)), (8, (iv x150)), (9, (iv x151)), (11, (.slice Au155_0 (x154).length cu155_0)), (25, (.slice Al152 (l152).length cl152)), (26, (iv 2)), (27, (iv x153)), (41, (.bool ((x153 == 0) || ((p0.length : Int) == 0))))] [(2, ow none 0 107 zJ ([] : List zV)), (9, ow Al152 cl152 66 fl_LTBand l152)] ?_ ?_
     ·cases hg171 : (x153 == 0)
      ·refine Tr.val (wg rfl rfl rfl) rfl (fun _ _ h1 h2 => run_move (h1.ev rfl)) ?_
       refine Tr.val (wg rfl rfl rfl) rfl (fun _ _ h1 h2 => zq un_66 (h1.ev rfl)) ?_
       refine Tr.val (wg rfl rfl rfl) rfl (fun _ _ h1 h2 => run_eql (h1.ev rfl) (h1.ev rfl)) ?_
       refine Tr.va rfl (fun _ _ h1 h2 => zf (h1.ev rfl) (h1.ev rfl)) ?_
       exact Tr.nil (Tr.fin0 (.cons rfl (.cons rfl (.cons rfl (.cons rfl (.cons rfl (.cons rfl (.cons rfl (.cons rfl (.cons rfl (.cons rfl (.cons rfl .nil))))))))))) (.cons rfl (.cons rfl .nil)))
      ·refine Tr.pass rfl rfl rfl rfl rfl (by decide) ?_
       refine Tr.pass rfl rfl rfl rfl rfl (by decide) ?_
       refine Tr.pass rfl rfl rfl rfl rfl (by decide) ?_
       refine Tr.va rfl (fun _ _ h1 h2 => ze (h1.ev rfl) (h1.ev rfl)) ?_
       exact Tr.nil (Tr.fin0 (.cons rfl (.cons rfl (.cons rfl (.cons rfl (.cons rfl (.cons rfl (.cons rfl (.cons rfl (.cons rfl (.cons rfl (.cons rfl .nil))))))))))) (.cons rfl (.cons rfl .nil)))
     ·show Tr _ _ (LF [(0, (.slice Ap0_0 (p0).length cp0_0)), (1, (.slice Ap1_0 (p1).length cp1_0)), (2, (.func (.func fid2) #[] cap2.toArray)), (7, (.slice none (([] : List zV)).length 0)), (8, (iv x150)), (9, (iv x151)), (11, (.slice Au155_0 (x154).length cu155_0)), (25, (.slice Al152 (l152).length cl152)), (26, (iv 2)), (27, (iv x153)), (41, (.bool ((x153 == 0) || ((p0.length : Int) == 0))))]) (LE [(2, ow none 0 107 zJ ([] : List zV)), (9, ow Al152 cl152 66 fl_LTBand l152)]) _
      refine Tr.nil (Tr.zA ?_)
      refine Tr.cond rfl H (fun H => ?_) (fun H => ?_)
      ·refine Tr.draw (by kernel_rfl) (by kernel_rfl) ?_
       refine Tq.mv rfl rfl ?_
       obtain ⟨x168, hx168, H⟩ := bnd H
       obtain ⟨hx1680, hx1681, hx1682⟩ := zh hx168
       obtain ⟨u169, hRu169, hoku169, hcu169⟩ := (hoku155_0).el hx1682
       obtain ⟨Au169_0, cu169_0⟩ := u169
       have hoku169_0 := hoku169
       replace hoku169_0 : Sl w.O w.W zn Au169_0 cu169_0 x168.Xs := hoku169_0
       replace hRu169 : w.R (adB Au155_0) := Or.inl hRu169
       refine Tq.va rfl (fun _ _ h1 h2 => zH el_66 (h1.ev rfl) hoku155_0.form (h1.ev rfl) hx1680 hx1681) ?_
       refine Tq.va rfl (fun _ _ h1 h2 => zB fo_107_0 (h1.ev rfl)) ?_
       refine Tq.va rfl (fun _ _ h1 h2 => zC ag_3 (h1.ev rfl) (zL.drop (rdR hRu169 hcu169 h2) 0) rfl) ?_
       refine Tq.mv rfl rfl ?_
       refine Tq.mv rfl rfl ?_
       refine Tq.va rfl (fun _ _ h1 h2 => zq un_66 (h1.ev rfl)) ?_
       refine Tq.va rfl (fun _ _ h1 h2 => run_sub (h1.ev rfl) (h1.ev rfl)) ?_
       obtain ⟨x170, hx170, H⟩ := bnd H
       obtain ⟨hx1700, hx1701, hx1702⟩ := zh hx170
       obtain ⟨u171, hRu171, hoku171, hcu171⟩ := (hoku155_0).el hx1702
       obtain ⟨Au171_0, cu171_0⟩ := u171
       have hoku171_0 := hoku171
       replace hoku171_0 : Sl w.O w.W zn Au171_0 cu171_0 x170.Xs := hoku171_0
       replace hRu171 : w.R (adB Au155_0) := Or.inl hRu171
       refine Tq.va rfl (fun _ _ h1 h2 => zH el_66 (h1.ev rfl) hoku155_0.form (h1.ev rfl) hx1700 hx1701) ?_
       refine Tq.va rfl (fun _ _ h1 h2 => zB fo_107_1 (h1.ev rfl)) ?_
       refine Tq.va rfl (fun _ _ h1 h2 => zC ag_3 (h1.ev rfl) (zL.drop (rdR hRu171 hcu171 h2) 1) rfl) ?_
       refine Tq.asg rfl rfl ?_
       refine Tq.asg rfl rfl ?_
       refine Tq.nil ?_
       exact Tr.zZ leJ162 (x168.Y0, x170.Y1) H (.cons rfl (.cons rfl (.cons rfl (.cons rfl (.cons rfl (.cons rfl (.cons rfl (.cons rfl (.cons rfl (.cons rfl .nil)))))))))) (.cons rfl (.cons rfl .nil))
      ·refine Tr.skip ?_
       exact Tr.zZ leJ162 (x150, x151) H (.cons rfl (.cons rfl (.cons rfl (.cons rfl (.cons rfl (.cons rfl (.cons rfl (.cons rfl (.cons rfl (.cons rfl .nil)))))))))) (.cons rfl (.cons rfl .nil))
    ·intro w s hlJ163 hs
     obtain ⟨x160, x161⟩ := s
     have H := hs
     replace H : F_shape_Merge_J4 l152 x153 (zAF N p0 p1 p2 mL3) x154 x160 x161 = some r := H
     replace hp0_0 := hp0_0.le hlJ163
     replace hp1_0 := hp1_0.le hlJ163
     replace hf2 := fun w' he => hf2 w' (hlJ163.ext.trans he)
     replace hoku155_0 := hoku155_0.le hlJ163
     replace leB := leB.trans hlJ163
     replace leL3 := leL3.trans hlJ163
     unfold F_shape_Merge_J4 at H
     show Tr _ _ (LF [(0, (.slice Ap0_0 (p0).length cp0_0)), (1, (.slice Ap1_0 (p1).length cp1_0)), (2, (.func (.func fid2) #[] cap2.toArray)), (7, (.slice none (([] : List zV)).length 0)), (8, (iv x160)), (9, (iv x161)), (11, (.slice Au155_0 (x154).length cu155_0)), (25, (.slice Al152 (l152).length cl152)), (26, (iv 2)), (27, (iv x153))]) (LE [(2, ow none 0 107 zJ ([] : List zV)), (9, ow Al152 cl152 66 fl_LTBand l152)]) _
     refine Tr.draw (by kernel_rfl) (by kernel_rfl) ?_
     refine Tq.mv rfl rfl ?_
     refine Tq.mv rfl rfl ?_
     obtain ⟨x164, hx164, H⟩ := bnd H
     obtain ⟨hx1640, hx1641, hx1642⟩ := zh hx164
     obtain ⟨u165, hRu165, hoku165, hcu165⟩ := (hoku155_0).el hx1642
     obtain ⟨Au165_0, cu165_0⟩ := u165
     have hoku165_0 := hoku165
     replace hoku165_0 : Sl w.O w.W zn Au165_0 cu165_0 x164.Xs := hoku165_0
     replace hRu165 : w.R (adB Au155_0) := Or.inl hRu165
     refine Tq.va rfl (fun _ _ h1 h2 => zH el_66 (h1.ev rfl) hoku155_0.form (h1.ev rfl) hx1640 hx1641) ?_
     refine Tq.va rfl (fun _ _ h1 h2 => zB fo_107_0 (h1.ev rfl)) ?_
     refine Tq.va rfl (fun _ _ h1 h2 => zC ag_3 (h1.ev rfl) (zL.drop (rdR hRu165 hcu165 h2) 0) rfl) ?_
     refine Tq.va rfl (fun _ _ h1 h2 => run_min (h1.ev rfl) (h1.ev rfl) _) ?_
     refine Tq.mv rfl rfl ?_
     refine Tq.mv rfl rfl ?_
     refine Tq.mv rfl rfl ?_
     refine Tq.va rfl (fun _ _ h1 h2 => zq un_66 (h1.ev rfl)) ?_
     refine Tq.va rfl (fun _ _ h1 h2 => run_sub (h1.ev rfl) (h1.ev rfl)) ?_
     obtain ⟨x166, hx166, H⟩ := bnd H
     obtain ⟨hx1660, hx1661, hx1662⟩ := zh hx166
     obtain ⟨u167, hRu167, hoku167, hcu167⟩ := (hoku155_0).el hx1662
     obtain ⟨Au167_0, cu167_0⟩ := u167
     have hoku167_0 := hoku167
     replace hoku167_0 : Sl w.O w.W zn Au167_0 cu167_0 x166.Xs := hoku167_0
     replace hRu167 : w.R (adB Au155_0) := Or.inl hRu167
     refine Tq.va rfl (fun _ _ h1 h2 => zH el_66 (h1.ev rfl) hoku155_0.form (h1.ev rfl) hx1660 hx1661) ?_
     refine Tq.va rfl (fun _ _ h1 h2 => zB fo_107_1 (h1.ev rfl)) ?_
     refine Tq.va rfl (fun _ _ h1 h2 => zC ag_3 (h1.ev rfl) (zL.drop (rdR hRu167 hcu167 h2) 1) rfl) ?_
     refine Tq.va rfl (fun _ _ h1 h2 => run_max (h1.ev rfl) (h1.ev rfl) _) ?_
     refine Tq.asg rfl rfl ?_
     refine Tq.asg rfl rfl ?_
     refine Tq.nil (Tr.zW (Tr.zA ?_))
     refine Tr.region ?_
     refine Tr.va rfl (fun _ _ h1 h2 => zx (h1.ev rfl) (h1.ev rfl)) ?_
     refine Tr.mv rfl rfl ?_
     refine Tr.nil ?_
     exact Tr.zZ leL3 ((min x160 x164.Y0), (max x161 x166.Y1), l152, (w64 (x153 + 1)), Al152, cl152) ⟨H, hl152⟩ (.cons rfl (.cons rfl (.cons rfl (.cons rfl (.cons rfl (.cons rfl (.cons rfl (.cons rfl (.cons rfl .nil))))))))) (.cons rfl (.cons rfl .nil))
   ·refine Tr.skip (Tr.zW (Tr.zA ?_))
    refine Tr.region ?_
    refine Tr.va rfl (fun _ _ h1 h2 => zx (h1.ev rfl) (h1.ev rfl)) ?_
    refine Tr.mv rfl rfl ?_
    refine Tr.nil ?_
    exact Tr.zZ leL3 (x150, x151, l152, (w64 (x153 + 1)), Al152, cl152) ⟨H, hl152⟩ (.cons rfl (.cons rfl (.cons rfl (.cons rfl (.cons rfl (.cons rfl (.cons rfl (.cons rfl (.cons rfl .nil))))))))) (.cons rfl (.cons rfl .nil))
  ·refine Tr.exit (Tr.zX (Tr.zX (Tr.zAC (Tr.zA ?_))))
   refine Tr.seq ?_
   refine Tr.block ?_
   refine Tr.loop (σ := (List zV) × (List zV) × (List zV) × Int × (Option Addr) × Nat × (Option Addr) × Nat × (Option Addr) × Nat) (fun m w s => F_shape_Merge_L9 N p2 x151 m s.1 s.2.1 s.2.2.1 s.2.2.2.1 = some r ∧ Sl w.O w.W zJ s.2.2.2.2.1 s.2.2.2.2.2.1 s.1 ∧ Sl w.O w.W zJ s.2.2.2.2.2.2.1 s.2.2.2.2.2.2.2.1 s.2.1 ∧ SlF s.2.2.2.2.2.2.2.2.1 (s.2.2.1).length s.2.2.2.2.2.2.2.2.2) (fun s => [(0, (.slice s.2.2.2.2.1 (s.1).length s.2.2.2.2.2.1)), (1, (.slice s.2.2.2.2.2.2.1 (s.2.1).length s.2.2.2.2.2.2.2.1)), (2, (.func (.func fid2) #[] cap2.toArray)), (7, (.slice s.2.2.2.2.2.2.2.2.1 (s.2.2.1).length s.2.2.2.2.2.2.2.2.2)), (8, (iv s.2.2.2.1)), (9, (iv x151))]) (fun s => [(2, ow s.2.2.2.2.2.2.2.2.1 s.2.2.2.2.2.2.2.2.2 107 zJ s.2.2.1)]) N (p0, p1, ([] : List zV), x150, Ap0_0, cp0_0, Ap1_0, cp1_0, none, 0) ⟨H, hp0_0, hp1_0, slf_nil⟩ (.cons rfl (.cons rfl (.cons rfl (.cons rfl (.cons rfl (.cons rfl .nil)))))) (.cons rfl .nil) (fun _ _ h => noSome (h.1)) ?_
   intro w leL9 mL9 s hs
   obtain ⟨l292, l293, l294, x295, Al292, cl292, Al293, cl293, Al294, cl294⟩ := s
   obtain ⟨H, hl292, hl293, hl294⟩ := hs
   replace H : F_shape_Merge_L9 N p2 x151 (mL9 + 1) l292 l293 l294 x295 = some r := H
   replace hf2 := fun w' he => hf2 w' (leL9.ext.trans he)
   replace leB := leB.trans leL9
   replace leL3 := leL3.trans leL9
   replace hl292 : Sl w.O w.W zJ Al292 cl292 l292 := hl292
   replace hl293 : Sl w.O w.W zJ Al293 cl293 l293 := hl293
   replace hl294 : SlF Al294 (l294).length cl294 := hl294
   rw [F_shape_Merge_L9.eq_2] at H
   show Tr _ _ (LF [(0, (.slice Al292 (l292).length cl292)), (1, (.slice Al293 (l293).length cl293)), (2, (.func (.func fid2) #[] cap2.toArray)), (7, (.slice Al294 (l294).length cl294)), (8, (iv x295)), (9, (iv x151))]) (LE [(2, ow Al294 cl294 107 zJ l294)]) _
   refine Tr.seq ?_
   refine Tr.sr ?_
   refine Tr.mv rfl rfl ?_
   refine Tr.mv rfl rfl ?_
   refine Tr.va rfl (fun _ _ h1 h2 => zz (h1.ev rfl) (h1.ev rfl)) ?_
   refine Tr.nil (Tr.zA ?_)
   refine Tr.cond rfl H (fun H => ?_) (fun H => ?_)
   ·refine Tr.skip (Tr.zA ?_)
    refine Tr.block ?_
    refine Tr.seq ?_
    refine Tr.block ?_
    refine Tr.loop (σ := (List zV) × (Option Addr) × Nat) (fun m w s => F_shape_Merge_L10 N p2 x151 l293 l294 x295 (F_shape_Merge_L9 N p2 x151 mL9) m s.1 = some r ∧ Sl w.O w.W zJ s.2.1 s.2.2 s.1) (fun s => [(0, (.slice s.2.1 (s.1).length s.2.2)), (1, (.slice Al293 (l293).length cl293)), (2, (.func (.func fid2) #[] cap2.toArray)), (7, (.slice Al294 (l294).length cl294)), (8, (iv x295)), (9, (iv x151))]) (fun s => [(2, ow Al294 cl294 107 zJ l294)]) N (l292, Al292, cl292) ⟨H, hl292⟩ (.cons rfl (.cons rfl (.cons rfl (.cons rfl (.cons rfl (.cons rfl .nil)))))) (.cons rfl .nil) (fun _ _ h => noSome (h.1)) ?_
    intro w leL10 mL10 s hs
    obtain ⟨l311, Al311, cl311⟩ := s
    obtain ⟨H, hl311⟩ := hs
    replace H : F_shape_Merge_L10 N p2 x151 l293 l294 x295 (F_shape_Merge_L9 N p2 x151 mL9) (mL10 + 1) l311 = some r := H
    replace hl293 := hl293.le leL10
    replace hf2 := fun w' he => hf2 w' (leL10.ext.trans he)
    replace leB := leB.trans leL10
    replace leL3 := leL3.trans leL10
    replace leL9 := leL9.trans leL10
    replace hl311 : Sl w.O w.W zJ Al311 cl311 l311 := hl311
    rw [F_shape_Merge_L10.eq_2] at H
    show Tr _ _ (LF [(0, (.slice Al311 (l311).length cl311)), (1, (.slice Al293 (l293).length cl293)), (2, (.func (.func fid2) #[] cap2.toArray)), (7, (.slice Al294 (l294).length cl294)), (8, (iv x295)), (9, (iv x151))]) (LE [(2, ow Al294 cl294 107 zJ l294)]) _
    refine Tr.seq ?_
    refine Tr.sr ?_
    refine Tr.mv rfl rfl ?_
    refine Tr.va rfl (fun _ _ h1 h2 => zq un_66 (h1.ev rfl)) ?_
    refine Tr.va rfl (fun _ _ h1 h2 => run_gtr (h1.ev rfl) (h1.ev rfl)) ?_
    refine Tr.mv rfl rfl ?_
    obtain ⟨g314, hg314, H⟩ := bnd H
    refine Tr.mid0 7 [(0, (.slice Al311 (l311).length cl311)), (1, (.slice Al293 (l293).length cl293)), (2, (.func (.func fid2) #[] cap2.toArray)), (7, (.slice Al294 (l294).length cl294)), (8, (iv x295)), (9, (iv x151)), (82, (.bool g314))] [(2, ow Al294 cl294 107 zJ l294)] ?_ ?_
    ·cases hg349 : (decide (0 < (l311.length : Int)))
     ·rw [hg349] at hg314
      rw [if_neg (by decide)] at hg314
      have H := hg314
      obtain rfl := Option.some.inj H
      refine Tr.pass rfl rfl rfl rfl rfl (by decide) ?_
      refine Tr.pass rfl rfl rfl rfl rfl (by decide) ?_
      refine Tr.pass rfl rfl rfl rfl rfl (by decide) ?_
      refine Tr.pass rfl rfl rfl rfl rfl (by decide) ?_
      refine Tr.pass rfl rfl rfl rfl rfl (by decide) ?_
      refine Tr.pass rfl rfl rfl rfl rfl (by decide) ?_
      refine Tr.va rfl (fun _ _ h1 h2 => zf (h1.ev rfl) (h1.ev rfl)) ?_
      exact Tr.nil (Tr.fin0 (.cons rfl (.cons rfl (.cons rfl (.cons rfl (.cons rfl (.cons rfl (.cons rfl .nil))))))) (.cons rfl .nil))
     ·rw [hg349] at hg314
      rw [if_pos rfl] at hg314
      have H := hg314
      refine Tr.val (wg rfl rfl rfl) rfl (fun _ _ h1 h2 => run_move (h1.ev rfl)) ?_
      obtain ⟨x315, hx315, H⟩ := bnd H
      obtain ⟨hx3150, hx3151, hx3152⟩ := zh hx315
      obtain ⟨u316, hRu316, hoku316, hcu316⟩ := (hl311).el hx3152
      obtain ⟨Au316_0, cu316_0⟩ := u316
      have hoku316_0 := hoku316
      replace hoku316_0 : Sl w.O w.W zn Au316_0 cu316_0 x315.Xs := hoku316_0
      replace hRu316 : w.R (adB Al311) := Or.inl hRu316
      refine Tr.val (wg rfl rfl rfl) rfl (fun _ _ h1 h2 => zH el_66 (h1.ev rfl) hl311.form (h1.ev rfl) hx3150 hx3151) ?_
      refine Tr.val (wg rfl rfl rfl) rfl (fun _ _ h1 h2 => zB fo_107_1 (h1.ev rfl)) ?_
      refine Tr.val (wg rfl rfl rfl) rfl (fun _ _ h1 h2 => zC ag_3 (h1.ev rfl) (zL.drop (rdR hRu316 hcu316 h2) 1) rfl) ?_
      refine Tr.val (wg rfl rfl rfl) rfl (fun _ _ h1 h2 => run_move (h1.ev rfl)) ?_
      refine Tr.val (wg rfl rfl rfl) rfl (fun _ _ h1 h2 => run_leq (h1.ev rfl) (h1.ev rfl)) ?_
      refine Tr.va rfl (fun _ _ h1 h2 => ze (h1.ev rfl) (h1.ev rfl)) ?_
      obtain rfl := Option.some.inj H
      exact Tr.nil (Tr.fin0 (.cons rfl (.cons rfl (.cons rfl (.cons rfl (.cons rfl (.cons rfl (.cons rfl .nil))))))) (.cons rfl .nil))
    ·show Tr _ _ (LF [(0, (.slice Al311 (l311).length cl311)), (1, (.slice Al293 (l293).length cl293)), (2, (.func (.func fid2) #[] cap2.toArray)), (7, (.slice Al294 (l294).length cl294)), (8, (iv x295)), (9, (iv x151)), (82, (.bool g314))]) (LE [(2, ow Al294 cl294 107 zJ l294)]) _
     refine Tr.nil (Tr.zA ?_)
     refine Tr.cond rfl H (fun H => ?_) (fun H => ?_)
     ·refine Tr.skip (Tr.zA ?_)
      refine Tr.block ?_
      refine Tr.region ?_
      refine Tr.mv rfl rfl ?_
      obtain ⟨l317, hl317, H⟩ := bnd H
      refine Tr.va rfl (fun _ _ h1 h2 => run_cutL el_66 (h1.ev rfl) hl311.form (h1.ev rfl) hl317) ?_
      refine Tr.asg rfl rfl ?_
      refine Tr.nil (Tr.zW ?_)
      exact Tr.zZ leL10 (l317, (cutA Al311 (1 : Int).toNat 3 cl311), (cl311 - (1 : Int).toNat)) ⟨H, (Sl.cut hl311 hl317)⟩ (.cons rfl (.cons rfl (.cons rfl (.cons rfl (.cons rfl (.cons rfl .nil)))))) (.cons rfl .nil)
     ·refine Tr.exit (Tr.zX (Tr.zX (Tr.zAC (Tr.zA ?_))))
      refine Tr.seq ?_
      refine Tr.block ?_
      refine Tr.loop (σ := (List zV) × (Option Addr) × Nat) (fun m w s => F_shape_Merge_L11 N p2 x151 l294 x295 (F_shape_Merge_L9 N p2 x151 mL9) l311 m s.1 = some r ∧ Sl w.O w.W zJ s.2.1 s.2.2 s.1) (fun s => [(0, (.slice Al311 (l311).length cl311)), (1, (.slice s.2.1 (s.1).length s.2.2)), (2, (.func (.func fid2) #[] cap2.toArray)), (7, (.slice Al294 (l294).length cl294)), (8, (iv x295)), (9, (iv x151))]) (fun s => [(2, ow Al294 cl294 107 zJ l294)]) N (l293, Al293, cl293) ⟨H, hl293⟩ (.cons rfl (.cons rfl (.cons rfl (.cons rfl (.cons rfl (.cons rfl .nil)))))) (.cons rfl .nil) (fun _ _ h => noSome (h.1)) ?_
      intro w leL11 mL11 s hs
      obtain ⟨l333, Al333, cl333⟩ := s
      obtain ⟨H, hl333⟩ := hs
      replace H : F_shape_Merge_L11 N p2 x151 l294 x295 (F_shape_Merge_L9 N p2 x151 mL9) l311 (mL11 + 1) l333 = some r := H
      replace hl311 := hl311.le leL11
      replace hf2 := fun w' he => hf2 w' (leL11.ext.trans he)
      replace leB := leB.trans leL11
      replace leL3 := leL3.trans leL11
      replace leL9 := leL9.trans leL11
      replace leL10 := leL10.trans leL11
      replace hl333 : Sl w.O w.W zJ Al333 cl333 l333 := hl333
      rw [F_shape_Merge_L11.eq_2] at H
      show Tr _ _ (LF [(0, (.slice Al311 (l311).length cl311)), (1, (.slice Al333 (l333).length cl333)), (2, (.func (.func fid2) #[] cap2.toArray)), (7, (.slice Al294 (l294).length cl294)), (8, (iv x295)), (9, (iv x151))]) (LE [(2, ow Al294 cl294 107 zJ l294)]) _
      refine Tr.seq ?_
      refine Tr.sr ?_
      refine Tr.mv rfl rfl ?_
      refine Tr.va rfl (fun _ _ h1 h2 => zq un_66 (h1.ev rfl)) ?_
      refine Tr.va rfl (fun _ _ h1 h2 => run_gtr (h1.ev rfl) (h1.ev rfl)) ?_
      refine Tr.mv rfl rfl ?_
      obtain ⟨g336, hg336, H⟩ := bnd H
      refine Tr.mid0 7 [(0, (.slice Al311 (l311).length cl311)), (1, (.slice Al333 (l333).length cl333)), (2, (.func (.func fid2) #[] cap2.toArray)), (7, (.slice Al294 (l294).length cl294)), (8, (iv x295)), (9, (iv x151)), (95, (.bool g336))] [(2, ow Al294 cl294 107 zJ l294)] ?_ ?_
      ·cases hg349 : (decide (0 < (l333.length : Int)))
       ·rw [hg349] at hg336
        rw [if_neg (by decide)] at hg336
        have H := hg336
        obtain rfl := Option.some.inj H
        refine Tr.pass rfl rfl rfl rfl rfl (by decide) ?_
        refine Tr.pass rfl rfl rfl rfl rfl (by decide) ?_
        refine Tr.pass rfl rfl rfl rfl rfl (by decide) ?_
        refine Tr.pass rfl rfl rfl rfl rfl (by decide) ?_
        refine Tr.pass rfl rfl rfl rfl rfl (by decide) ?_
        refine Tr.pass rfl rfl rfl rfl rfl (by decide) ?_
        refine Tr.va rfl (fun _ _ h1 h2 => zf (h1.ev rfl) (h1.ev rfl)) ?_
        exact Tr.nil (Tr.fin0 (.cons rfl (.cons rfl (.cons rfl (.cons rfl (.cons rfl (.cons rfl (.cons rfl .nil))))))) (.cons rfl .nil))
       ·rw [hg349] at hg336
        rw [if_pos rfl] at hg336
        have H := hg336
        refine Tr.val (wg rfl rfl rfl) rfl (fun _ _ h1 h2 => run_move (h1.ev rfl)) ?_
        obtain ⟨x337, hx337, H⟩ := bnd H
        obtain ⟨hx3370, hx3371, hx3372⟩ := zh hx337
        obtain ⟨u338, hRu338, hoku338, hcu338⟩ := (hl333).el hx3372
        obtain ⟨Au338_0, cu338_0⟩ := u338
        have hoku338_0 := hoku338
        replace hoku338_0 : Sl w.O w.W zn Au338_0 cu338_0 x337.Xs := hoku338_0
        replace hRu338 : w.R (adB Al333) := Or.inl hRu338
        refine Tr.val (wg rfl rfl rfl) rfl (fun _ _ h1 h2 => zH el_66 (h1.ev rfl) hl333.form (h1.ev rfl) hx3370 hx3371) ?_
        refine Tr.val (wg rfl rfl rfl) rfl (fun _ _ h1 h2 => zB fo_107_1 (h1.ev rfl)) ?_
        refine Tr.val (wg rfl rfl rfl) rfl (fun _ _ h1 h2 => zC ag_3 (h1.ev rfl) (zL.drop (rdR hRu338 hcu338 h2) 1) rfl) ?_
        refine Tr.val (wg rfl rfl rfl) rfl (fun _ _ h1 h2 => run_move (h1.ev rfl)) ?_
        refine Tr.val (wg rfl rfl rfl) rfl (fun _ _ h1 h2 => run_leq (h1.ev rfl) (h1.ev rfl)) ?_
        refine Tr.va rfl (fun _ _ h1 h2 => ze (h1.ev rfl) (h1.ev rfl)) ?_
        obtain rfl := Option.some.inj H
        exact Tr.nil (Tr.fin0 (.cons rfl (.cons rfl (.cons rfl (.cons rfl (.cons rfl (.cons rfl (.cons rfl .nil))))))) (.cons rfl .nil))
      ·show Tr _ _ (LF [(0, (.slice Al311 (l311).length cl311)), (1, (.slice Al333 (l333).length cl333)), (2, (.func (.func fid2) #[] cap2.toArray)), (7, (.slice Al294 (l294).length cl294)), (8, (iv x295)), (9, (iv x151)), (95, (.bool g336))]) (LE [(2, ow Al294 cl294 107 zJ l294)]) _
       refine Tr.nil (Tr.zA ?_)
       refine Tr.cond rfl H (fun H => ?_) (fun H => ?_)
       ·refine Tr.skip (Tr.zA ?_)
        refine Tr.block ?_
        refine Tr.region ?_
        refine Tr.mv rfl rfl ?_
        obtain ⟨l339, hl339, H⟩ := bnd H
        refine Tr.va rfl (fun _ _ h1 h2 => run_cutL el_66 (h1.ev rfl) hl333.form (h1.ev rfl) hl339) ?_
        refine Tr.asg rfl rfl ?_
        refine Tr.nil (Tr.zW ?_)
        exact Tr.zZ leL11 (l339, (cutA Al333 (1 : Int).toNat 3 cl333), (cl333 - (1 : Int).toNat)) ⟨H, (Sl.cut hl333 hl339)⟩ (.cons rfl (.cons rfl (.cons rfl (.cons rfl (.cons rfl (.cons rfl .nil)))))) (.cons rfl .nil)
       ·refine Tr.exit (Tr.zX (Tr.zX (Tr.zAC (Tr.zA ?_))))
        refine Tr.sr ?_
        refine Tr.mv rfl rfl ?_
        refine Tr.mv rfl rfl ?_
        refine Tr.mv rfl rfl ?_
        obtain ⟨y340, hy340, H⟩ := bnd H
        refine Tr.callG [] [] (U := (Option Addr × Nat)) (fun u => (.tuple #[(.slice u.1 (y340.1).length u.2), (iv y340.2)])) (fun O W u => Sl O W zn u.1 u.2 y340.1) (fun u => []) rfl zY (fun _ => rfl) (wn rfl) rfl Tryz.call90 (zF rfl (zF rfl (zF rfl zO))) (fun W hW hp hE => F_shape_Set__at_ok l311 Al311 cl311 (hl311.extO (hW.extS hp)) x295 x151 y340 hy340 hE) ?_
        intro w u le341 hu
        obtain ⟨Ay340_0, cy340_0⟩ := u
        have gy340_0 := hu
        replace hl311 := hl311.le le341
        replace hl333 := hl333.le le341
        replace hf2 := fun w' he => hf2 w' (le341.ext.trans he)
        replace leB := leB.trans le341
        replace leL3 := leL3.trans le341
        replace leL9 := leL9.trans le341
        replace leL10 := leL10.trans le341
        replace leL11 := leL11.trans le341
        have hgy340_0 : Sl w.O w.W zn Ay340_0 cy340_0 y340.1 := gy340_0 --@phi
        show Tr _ _ (uf _ 102 (.tuple #[(.slice Ay340_0 (y340.1).length cy340_0), (iv y340.2)])) (_) _
        refine Tr.mv rfl rfl ?_
        refine Tr.va rfl (fun _ _ h1 h2 => run_extract (h1.ev rfl) rfl) ?_
        refine Tr.va rfl (fun _ _ h1 h2 => run_extract (h1.ev rfl) rfl) ?_
        refine Tr.asg rfl rfl ?_
        refine Tr.asg rfl rfl ?_
        refine Tr.nil (Tr.zA ?_)
        refine Tr.sr ?_
        refine Tr.mv rfl rfl ?_
        refine Tr.mv rfl rfl ?_
        refine Tr.mv rfl rfl ?_
        obtain ⟨y342, hy342, H⟩ := bnd H
        refine Tr.callG [] [] (U := (Option Addr × Nat)) (fun u => (.tuple #[(.slice u.1 (y342.1).length u.2), (iv y342.2)])) (fun O W u => Sl O W zn u.1 u.2 y342.1) (fun u => []) rfl zY (fun _ => rfl) (wn rfl) rfl Tryz.call90 (zF rfl (zF rfl (zF rfl zO))) (fun W hW hp hE => F_shape_Set__at_ok l333 Al333 cl333 (hl333.extO (hW.extS hp)) x295 x151 y342 hy342 hE) ?_
        intro w u le343 hu
        obtain ⟨Ay342_0, cy342_0⟩ := u
        have gy342_0 := hu
        replace hl311 := hl311.le le343
        replace hl333 := hl333.le le343
        replace hf2 := fun w' he => hf2 w' (le343.ext.trans he)
        replace hgy340_0 := hgy340_0.le le343
        replace leB := leB.trans le343
        replace leL3 := leL3.trans le343
        replace leL9 := leL9.trans le343
        replace leL10 := leL10.trans le343
        replace leL11 := leL11.trans le343
        have hgy342_0 : Sl w.O w.W zn Ay342_0 cy342_0 y342.1 := gy342_0 --@phi
        show Tr _ _ (uf _ 109 (.tuple #[(.slice Ay342_0 (y342.1).length cy342_0), (iv y342.2)])) (_) _
        refine Tr.mv rfl rfl ?_
        refine Tr.va rfl (fun _ _ h1 h2 => run_extract (h1.ev rfl) rfl) ?_
        refine Tr.va rfl (fun _ _ h1 h2 => run_extract (h1.ev rfl) rfl) ?_
        refine Tr.asg rfl rfl ?_
        refine Tr.asg rfl rfl ?_
        refine Tr.nil (Tr.zA ?_)
        refine Tr.sr ?_
        refine Tr.mv rfl rfl ?_
        refine Tr.mv rfl rfl ?_
        refine Tr.va rfl (fun _ _ h1 h2 => run_min (h1.ev rfl) (h1.ev rfl) _) ?_
        refine Tr.asg rfl rfl ?_
        refine Tr.nil (Tr.zA ?_)
        refine Tr.sr ?_
        refine Tr.mv rfl rfl ?_
        refine Tr.mv rfl rfl ?_
        refine Tr.mv rfl rfl ?_
        refine Tr.mv rfl rfl ?_
        refine Tr.mv rfl rfl ?_
        refine Tr.mv rfl rfl ?_
        obtain ⟨y344, hy344, H⟩ := bnd H
        refine Tr.callM [12] [emp] (U := (Option Addr × Nat)) (fun u => (.slice u.1 (y344).length u.2)) (fun u => SlF u.1 (y344).length u.2) (fun u => [ow u.1 u.2 3 zn y344]) rfl (zM rfl zY) (fun _ => rfl) (wn rfl) rfl Tryz.call91 (zF rfl (zF rfl (zF rfl zO))) (fun W hW hp hE => F_shape_line_ok N y340.1 Ay340_0 cy340_0 (hgy340_0.rl.ext (hW.extS hp)) y342.1 Ay342_0 cy342_0 (hgy342_0.rl.ext (hW.extS hp)) p2 fid2 cap2 hg2 (fun w' he => hf2 w' ((hW.extS hp).trans he)) y344 hy344 hE) ?_
        intro u hu
        obtain ⟨Ay344_0, cy344_0⟩ := u
        have gy344_0 := hu
        have hgy344_0 : SlF Ay344_0 (y344).length cy344_0 := gy344_0 --@phi
        show Tr _ _ (uf _ 121 (.slice Ay344_0 (y344).length cy344_0)) (up _ 12 (ow Ay344_0 cy344_0 3 zn y344)) _
        refine Tr.build (vs := [(0, (iv x295)), (1, (iv (min y340.2 y342.2))), (2, (.slice Ay344_0 (y344).length cy344_0))]) (cs := [(iv x295), (iv (min y340.2 y342.2)), (.slice Ay344_0 (y344).length cy344_0)]) (wn rfl) rfl (zi rfl (zi rfl (zi rfl evs_nil))) (by kernel_rfl) ?_
        refine Tr.freeze 12 rfl fun w le347 hz346 => ?_
        replace hl311 := hl311.le le347
        replace hl333 := hl333.le le347
        replace hf2 := fun w' he => hf2 w' (le347.ext.trans he)
        replace hgy340_0 := hgy340_0.le le347
        replace hgy342_0 := hgy342_0.le le347
        replace leB := leB.trans le347
        replace leL3 := leL3.trans le347
        replace leL9 := leL9.trans le347
        replace leL10 := leL10.trans le347
        replace leL11 := leL11.trans le347
        obtain ⟨y348, hy348, H⟩ := bnd H
        refine Tr.callG [2] [ow Al294 cl294 107 zJ l294] (U := (Option Addr × Nat)) (fun u => (.slice u.1 (y348).length u.2)) (fun O W u => SlF u.1 (y348).length u.2) (fun u => [ow u.1 u.2 107 zJ y348]) rfl (zM rfl zY) (fun _ => rfl) (wn rfl) rfl Tryz.call87 (zF rfl (zF rfl zO)) (fun W hW hp hE => F_shape_Set__push_ok l294 Al294 cl294 (zV.mk x295 (min y340.2 y342.2) y344) Ay344_0 cy344_0 (hz346.extO (hW.extS hp)) y348 hy348 hE) ?_
        intro w u le349 hu
        obtain ⟨Ay348_0, cy348_0⟩ := u
        have gy348_0 := hu
        replace hl311 := hl311.le le349
        replace hl333 := hl333.le le349
        replace hf2 := fun w' he => hf2 w' (le349.ext.trans he)
        replace hgy340_0 := hgy340_0.le le349
        replace hgy342_0 := hgy342_0.le le349
        replace hz346 := hz346.le le349
        replace leB := leB.trans le349
        replace leL3 := leL3.trans le349
        replace leL9 := leL9.trans le349
        replace leL10 := leL10.trans le349
        replace leL11 := leL11.trans le349
        have hgy348_0 : SlF Ay348_0 (y348).length cy348_0 := gy348_0 --@phi
        show Tr _ _ (uf _ 123 (.slice Ay348_0 (y348).length cy348_0)) (up _ 2 (ow Ay348_0 cy348_0 107 zJ y348)) _
        refine Tr.asg rfl rfl ?_
        refine Tr.nil (Tr.zA ?_)
        refine Tr.region ?_
        refine Tr.mv rfl rfl ?_
        refine Tr.asg rfl rfl ?_
        refine Tr.nil (Tr.zW ?_)
        exact Tr.zZ leL9 (l311, l333, y348, (min y340.2 y342.2), Al311, cl311, Al333, cl333, Ay348_0, cy348_0) ⟨H, hl311, hl333, hgy348_0⟩ (.cons rfl (.cons rfl (.cons rfl (.cons rfl (.cons rfl (.cons rfl .nil)))))) (.cons rfl .nil)
   ·refine Tr.exit (Tr.zX (Tr.zX (Tr.zAC (Tr.zA ?_))))
    refine Tr.sr ?_
    refine Tr.mv rfl rfl ?_
    refine Tr.asg rfl rfl ?_
    refine Tr.nil (Tr.zA ?_)
    refine Tr.ret ?_
    obtain rfl := Option.some.inj H
    exact Tr.out (m := [(.slice Al294 (l294).length cl294)]) [] (zP rfl zQ) (fun W hW => ⟨w, (Al294, cl294), leB, rfl, hl294, hW.pick (ks := [2]) (by decide) (zM rfl zY)⟩)

theorem F_shape_Set__Less_1_ok {w : Bs} (p0 : Bool) (p1 : Bool) (r : Bool) (H : F_shape_Set__Less_1 p0 p1 = some r) (hE : HF w w.W E0) : Calls Tryz.prog 171 [(.bool p0), (.bool p1)].toArray w.W fun e W' => e = .returned (.bool r) ∧ HF w W' E0 := by
 unfold F_shape_Set__Less_1 at H
 have leB := Bs.Le.refl w
 refine Tr.enter (n := 10) Tryz.func171 rfl rfl rfl hE ?_
 refine Tr.sr ?_
 refine Tr.asg rfl rfl ?_
 refine Tr.nil (Tr.zA ?_)
 refine Tr.sr ?_
 refine Tr.mv rfl rfl ?_
 refine Tr.mv rfl rfl ?_
 refine Tr.mid0 3 [(9, (.bool (p0 && (!p1))))] [] ?_ ?_
 ·cases hg99 : p0
  ·refine Tr.pass rfl rfl rfl rfl rfl (by decide) ?_
   refine Tr.pass rfl rfl rfl rfl rfl (by decide) ?_
   refine Tr.va rfl (fun _ _ h1 h2 => zf (h1.ev rfl) (h1.ev rfl)) ?_
   exact Tr.nil (Tr.fin0 (.cons rfl .nil) .nil)
  ·refine Tr.val (wg rfl rfl rfl) rfl (fun _ _ h1 h2 => run_move (h1.ev rfl)) ?_
   refine Tr.val (wg rfl rfl rfl) rfl (fun _ _ h1 h2 => run_not (h1.ev rfl)) ?_
   refine Tr.va rfl (fun _ _ h1 h2 => ze (h1.ev rfl) (h1.ev rfl)) ?_
   exact Tr.nil (Tr.fin0 (.cons rfl .nil) .nil)
 ·show Tr _ _ (LF [(9, (.bool (p0 && (!p1))))]) (LE []) _
  refine Tr.asg rfl rfl ?_
  refine Tr.nil (Tr.zA ?_)
  refine Tr.ret ?_
  obtain rfl := Option.some.inj H
  exact Tr.out (m := [(.bool (p0 && (!p1)))]) [] (zP rfl zQ) (fun W hW => ⟨rfl, hW.low leB⟩)

theorem F_shape_Set__Less_ok (N : Nat) {w : Bs} (p0 : (List zV)) (Ap0_0 : Option Addr) (cp0_0 : Nat) (hp0_0 : Sl w.O w.W zJ Ap0_0 cp0_0 p0) (p1 : (List zV)) (Ap1_0 : Option Addr) (cp1_0 : Nat) (hp1_0 : Sl w.O w.W zJ Ap1_0 cp1_0 p1) (r : (List zV)) (H : F_shape_Set__Less N p0 p1 = some r) (hE : HF w w.W (LEn [emp])) : Calls Tryz.prog 155 [(.slice Ap0_0 (p0).length cp0_0), (.slice Ap1_0 (p1).length cp1_0)].toArray w.W fun e W' => ∃ (w' : Bs) (u : (Option Addr × Nat)), w.Le w' ∧ e = .returned (.slice u.1 (r).length u.2) ∧ (SlF u.1 (r).length u.2) ∧ HF w' W' (LEn [ow u.1 u.2 107 zJ r]) := by
 unfold F_shape_Set__Less at H
 have leB := Bs.Le.refl w
 refine Tr.enter (n := 8) Tryz.func155 rfl rfl rfl hE ?_
 refine Tr.sr ?_
 refine Tr.asg rfl rfl ?_
 refine Tr.nilOwn 1 107 zJ ?_
 show Tr _ _ (uf _ 4 (.slice none (([] : List zV)).length 0)) _ _
 refine Tr.nil (Tr.zA ?_)
 refine Tr.sr ?_
 refine Tr.mv rfl rfl ?_
 refine Tr.mv rfl rfl ?_
 obtain ⟨y100, hy100, H⟩ := bnd H
 refine Tr.callG [2] [emp] (U := (Option Addr × Nat)) (fun u => (.slice u.1 (y100).length u.2)) (fun O W u => SlF u.1 (y100).length u.2) (fun u => [ow u.1 u.2 107 zJ y100]) rfl (zM rfl zY) (fun _ => rfl) (wn rfl) rfl Tryz.call61 (zF rfl (zF rfl (zF rfl zO))) (fun W hW hp hE => F_shape_Merge_ok N p0 Ap0_0 cp0_0 (hp0_0.extO (hW.extS hp)) p1 Ap1_0 cp1_0 (hp1_0.extO (hW.extS hp)) (fun z0 z1 => F_shape_Set__Less_1 z0 z1) 171 [] Tryz.call171 (fun w' he z0 z1 y hy => F_shape_Set__Less_1_ok z0 z1 y hy (HF.start _)) y100 hy100 hE) ?_
 intro w u le101 hu
 obtain ⟨Ay100_0, cy100_0⟩ := u
 have gy100_0 := hu
 replace hp0_0 := hp0_0.le le101
 replace hp1_0 := hp1_0.le le101
 replace leB := leB.trans le101
 have hgy100_0 : SlF Ay100_0 (y100).length cy100_0 := gy100_0 --@phi
 show Tr _ _ (uf _ 7 (.slice Ay100_0 (y100).length cy100_0)) (up _ 2 (ow Ay100_0 cy100_0 107 zJ y100)) _
 refine Tr.asg rfl rfl ?_
 refine Tr.nil (Tr.zA ?_)
 refine Tr.ret ?_
 obtain rfl := Option.some.inj H
 exact Tr.out (m := [(.slice Ay100_0 (y100).length cy100_0)]) [] (zP rfl zQ) (fun W hW => ⟨w, (Ay100_0, cy100_0), leB, rfl, hgy100_0, hW.pick (ks := [2]) (by decide) (zM rfl zY)⟩)

theorem F_shape_Set__Or_1_ok {w : Bs} (p0 : Bool) (p1 : Bool) (r : Bool) (H : F_shape_Set__Or_1 p0 p1 = some r) (hE : HF w w.W E0) : Calls Tryz.prog 62 [(.bool p0), (.bool p1)].toArray w.W fun e W' => e = .returned (.bool r) ∧ HF w W' E0 := by
 unfold F_shape_Set__Or_1 at H
 have leB := Bs.Le.refl w
 refine Tr.enter (n := 9) Tryz.func62 rfl rfl rfl hE ?_
 refine Tr.sr ?_
 refine Tr.asg rfl rfl ?_
 refine Tr.nil (Tr.zA ?_)
 refine Tr.sr ?_
 refine Tr.mv rfl rfl ?_
 refine Tr.mv rfl rfl ?_
 refine Tr.mid0 2 [(8, (.bool (p0 || p1)))] [] ?_ ?_
 ·cases hg99 : p0
  ·refine Tr.val (wg rfl rfl rfl) rfl (fun _ _ h1 h2 => run_move (h1.ev rfl)) ?_
   refine Tr.va rfl (fun _ _ h1 h2 => zf (h1.ev rfl) (h1.ev rfl)) ?_
   exact Tr.nil (Tr.fin0 (.cons rfl .nil) .nil)
  ·refine Tr.pass rfl rfl rfl rfl rfl (by decide) ?_
   refine Tr.va rfl (fun _ _ h1 h2 => ze (h1.ev rfl) (h1.ev rfl)) ?_
   exact Tr.nil (Tr.fin0 (.cons rfl .nil) .nil)
 ·show Tr _ _ (LF [(8, (.bool (p0 || p1)))]) (LE []) _
  refine Tr.asg rfl rfl ?_
  refine Tr.nil (Tr.zA ?_)
  refine Tr.ret ?_
  obtain rfl := Option.some.inj H
  exact Tr.out (m := [(.bool (p0 || p1))]) [] (zP rfl zQ) (fun W hW => ⟨rfl, hW.low leB⟩)

theorem F_shape_Set__Or_ok (N : Nat) {w : Bs} (p0 : (List zV)) (Ap0_0 : Option Addr) (cp0_0 : Nat) (hp0_0 : Sl w.O w.W zJ Ap0_0 cp0_0 p0) (p1 : (List zV)) (Ap1_0 : Option Addr) (cp1_0 : Nat) (hp1_0 : Sl w.O w.W zJ Ap1_0 cp1_0 p1) (r : (List zV)) (H : F_shape_Set__Or N p0 p1 = some r) (hE : HF w w.W (LEn [emp])) : Calls Tryz.prog 36 [(.slice Ap0_0 (p0).length cp0_0), (.slice Ap1_0 (p1).length cp1_0)].toArray w.W fun e W' => ∃ (w' : Bs) (u : (Option Addr × Nat)), w.Le w' ∧ e = .returned (.slice u.1 (r).length u.2) ∧ (SlF u.1 (r).length u.2) ∧ HF w' W' (LEn [ow u.1 u.2 107 zJ r]) := by
 unfold F_shape_Set__Or at H
 have leB := Bs.Le.refl w
 refine Tr.enter (n := 8) Tryz.func36 rfl rfl rfl hE ?_
 refine Tr.sr ?_
 refine Tr.asg rfl rfl ?_
 refine Tr.nilOwn 1 107 zJ ?_
 show Tr _ _ (uf _ 4 (.slice none (([] : List zV)).length 0)) _ _
 refine Tr.nil (Tr.zA ?_)
 refine Tr.sr ?_
 refine Tr.mv rfl rfl ?_
 refine Tr.mv rfl rfl ?_
 obtain ⟨y100, hy100, H⟩ := bnd H
 refine Tr.callG [2] [emp] (U := (Option Addr × Nat)) (fun u => (.slice u.1 (y100).length u.2)) (fun O W u => SlF u.1 (y100).length u.2) (fun u => [ow u.1 u.2 107 zJ y100]) rfl (zM rfl zY) (fun _ => rfl) (wn rfl) rfl Tryz.call61 (zF rfl (zF rfl (zF rfl zO))) (fun W hW hp hE => F_shape_Merge_ok N p0 Ap0_0 cp0_0 (hp0_0.extO (hW.extS hp)) p1 Ap1_0 cp1_0 (hp1_0.extO (hW.extS hp)) (fun z0 z1 => F_shape_Set__Or_1 z0 z1) 62 [] Tryz.call62 (fun w' he z0 z1 y hy => F_shape_Set__Or_1_ok z0 z1 y hy (HF.start _)) y100 hy100 hE) ?_
 intro w u le101 hu
 obtain ⟨Ay100_0, cy100_0⟩ := u
 have gy100_0 := hu
 replace hp0_0 := hp0_0.le le101
 replace hp1_0 := hp1_0.le le101
 replace leB := leB.trans le101
 have hgy100_0 : SlF Ay100_0 (y100).length cy100_0 := gy100_0 --@phi
 show Tr _ _ (uf _ 7 (.slice Ay100_0 (y100).length cy100_0)) (up _ 2 (ow Ay100_0 cy100_0 107 zJ y100)) _
 refine Tr.asg rfl rfl ?_
 refine Tr.nil (Tr.zA ?_)
 refine Tr.ret ?_
 obtain rfl := Option.some.inj H
 exact Tr.out (m := [(.slice Ay100_0 (y100).length cy100_0)]) [] (zP rfl zQ) (fun W hW => ⟨w, (Ay100_0, cy100_0), leB, rfl, hgy100_0, hW.pick (ks := [2]) (by decide) (zM rfl zY)⟩)

theorem F_shape_Set__Many_ok {w : Bs} (p0 : (List zV)) (Ap0_0 : Option Addr) (cp0_0 : Nat) (hp0_0 : Sl w.R w.W zJ Ap0_0 cp0_0 p0) (r : Int) (H : F_shape_Set__Many p0 = some r) (hE : HF w w.W E0) : Calls Tryz.prog 89 [(.slice Ap0_0 (p0).length cp0_0)].toArray w.W fun e W' => e = .returned (iv r) ∧ HF w W' E0 := by
 unfold F_shape_Set__Many at H
 have leB := Bs.Le.refl w
 refine Tr.enter (n := 20) Tryz.func89 rfl rfl rfl hE ?_
 refine Tr.sr ?_
 refine Tr.asg rfl rfl ?_
 refine Tr.nil (Tr.zA ?_)
 refine Tr.sr ?_
 refine Tr.asg rfl rfl ?_
 refine Tr.nil (Tr.zA ?_)
 refine Tr.seq ?_
 refine Tr.sr ?_
 refine Tr.mv rfl rfl ?_
 refine Tr.va rfl (fun _ _ h1 h2 => zq un_66 (h1.ev rfl)) ?_
 refine Tr.mv rfl rfl ?_
 refine Tr.nil (Tr.zA ?_)
 refine Tr.block ?_
 refine Tr.loop (σ := (List zV) × Nat × Int) (fun m w s => m = s.1.length + 1 ∧ s.1 = List.drop s.2.1 p0 ∧ s.2.1 ≤ p0.length ∧ F_shape_Set__Many_L1 s.1 s.2.1 s.2.2 = some r) (fun s => [(3, (iv s.2.2)), (6, (.slice Ap0_0 (p0).length cp0_0)), (7, (iv (p0.length : Int))), (8, (iv (s.2.1 : Int)))]) (fun s => []) (p0.length + 1) (p0, 0, 0) ⟨rfl, rfl, Nat.zero_le _, H⟩ (.cons rfl (.cons rfl (.cons rfl (.cons rfl .nil)))) .nil (fun _ _ h => absurd h.1 (by simp)) ?_
 intro w leL1 m s hs
 obtain ⟨restL1, iL1, x112⟩ := s
 obtain ⟨hmL1, hdL1, hiL1, H⟩ := hs
 replace hdL1 : restL1 = List.drop iL1 p0 := hdL1
 replace H : F_shape_Set__Many_L1 restL1 iL1 x112 = some r := H
 replace hmL1 : m + 1 = restL1.length + 1 := hmL1
 replace hp0_0 := hp0_0.leR leL1
 replace leB := leB.trans leL1
 obtain rfl : m = restL1.length := by omega
 clear hmL1
 show Tr _ _ (LF [(3, (iv x112)), (6, (.slice Ap0_0 (p0).length cp0_0)), (7, (iv (p0.length : Int))), (8, (iv (iL1 : Int)))]) (LE []) _
 cases restL1 with
 | nil =>
  rw [F_shape_Set__Many_L1.eq_1] at H
  refine Tr.sr ?_
  refine Tr.va rfl (fun _ _ h1 h2 => zz (h1.ev rfl) (h1.ev rfl)) ?_
  refine Tr.nil (Tr.zA ?_)
  refine Tr.seq ?_
  refine Tr.condF rfl (range_nil hdL1) ?_
  refine Tr.exit (Tr.zX (Tr.zX (Tr.zAC (Tr.zA ?_))))
  refine Tr.sr ?_
  refine Tr.mv rfl rfl ?_
  refine Tr.asg rfl rfl ?_
  refine Tr.nil (Tr.zA ?_)
  refine Tr.ret ?_
  obtain rfl := Option.some.inj H
  exact Tr.out (m := [(iv x112)]) [] (zP rfl zQ) (fun W hW => ⟨rfl, hW.low leB⟩)
 | cons xL1 restL1 =>
  rw [F_shape_Set__Many_L1.eq_2] at H
  refine Tr.sr ?_
  refine Tr.va rfl (fun _ _ h1 h2 => zz (h1.ev rfl) (h1.ev rfl)) ?_
  refine Tr.nil (Tr.zA ?_)
  refine Tr.seq ?_
  refine Tr.condT rfl (range_on hdL1) ?_
  refine Tr.skip (Tr.zA ?_)
  refine Tr.seq ?_
  refine Tr.block ?_
  refine Tr.sr ?_
  obtain ⟨u113, hRu113, hoku113, hcu113⟩ := (hp0_0).el (range_at hdL1)
  obtain ⟨Au113_0, cu113_0⟩ := u113
  have hoku113_0 := hoku113
  replace hoku113_0 : Sl w.R w.W zn Au113_0 cu113_0 xL1.Xs := hoku113_0
  refine Tr.va rfl (fun _ _ h1 h2 => zH el_66 (h1.ev rfl) hp0_0.form (h1.ev rfl) (Int.natCast_nonneg _) (zo hdL1)) ?_
  refine Tr.va rfl (fun _ _ h1 h2 => zR (cs := [(iv xL1.Y0), (iv xL1.Y1), (.slice Au113_0 (xL1.Xs).length cu113_0)]) ag_107 sz_107 (h1.ev rfl) (zL.take (rdR hRu113 hcu113 h2) 3) rfl) ?_
  refine Tr.alloc 3 (wn rfl) rfl ze_107 fun b114 => ?_
  refine Tr.store 3 (cs := [(iv xL1.Y0), (iv xL1.Y1), (.slice Au113_0 (xL1.Xs).length cu113_0)]) [(iv xL1.Y0), (iv xL1.Y1), (.slice Au113_0 (xL1.Xs).length cu113_0)] (wn rfl) rfl rfl rfl rfl sz_107 rfl rfl rfl ?_
  refine Tr.nil (Tr.zA ?_)
  refine Tr.region ?_
  refine Tr.mv rfl rfl ?_
  refine Tr.va rfl (fun _ _ h1 h2 => zB fo_107_2 (h1.ev rfl)) ?_
  refine Tr.va rfl (fun _ _ h1 h2 => zC ag_38 (h1.ev rfl) (rdb h2 (vs := [(iv xL1.Y0), (iv xL1.Y1), (.slice Au113_0 (xL1.Xs).length cu113_0)]) (k := 3) rfl 2) rfl) ?_
  refine Tr.va rfl (fun _ _ h1 h2 => zq un_38 (h1.ev rfl)) ?_
  refine Tr.va rfl (fun _ _ h1 h2 => run_quo (h1.ev rfl) (h1.ev rfl) (by decide)) ?_
  refine Tr.va rfl (fun _ _ h1 h2 => zx (h1.ev rfl) (h1.ev rfl)) ?_
  refine Tr.asg rfl rfl ?_
  refine Tr.nil (Tr.zW (Tr.zA ?_))
  refine Tr.region ?_
  refine Tr.va rfl (fun _ _ h1 h2 => zx (h1.ev rfl) (h1.ev rfl)) ?_
  refine Tr.mv rfl rfl ?_
  refine Tr.nil ?_
  exact Tr.zZ leL1 (restL1, (iL1 + 1), (w64 (x112 + (w64 (Int.tdiv (xL1.Xs.length : Int) 2))))) ⟨rfl, range_tl hdL1, zo hdL1, H⟩ (.cons rfl (.cons rfl (.cons rfl (.cons (congrArg (fun z => some (Value.int .i64 z)) (range_up hdL1 hp0_0.form)) .nil)))) .nil

theorem F_plot_machine__draw_ok (N : Nat) {w : Bs} (p0 : zAA) (Ap0_0 : Option Addr) (cp0_0 : Nat) (hp0_0 : Sl w.R w.W zK Ap0_0 cp0_0 p0.p.Tools) (Ap0_1 : Option Addr) (cp0_1 : Nat) (hp0_1 : Sl w.R w.W zG Ap0_1 cp0_1 p0.p.Steps) (Ap0_2 : Option Addr) (cp0_2 : Nat) (hp0_2 : Sl w.R w.W fl_LTBand Ap0_2 cp0_2 p0.tools) (Ap0_3 : Option Addr) (cp0_3 : Nat) (bp0 : Nat) (p1 : (List zV)) (Ap1_0 : Option Addr) (cp1_0 : Nat) (hp1_0 : Sl w.O w.W zJ Ap1_0 cp1_0 p1) (r : (Int × (List zV))) (H : F_plot_machine__draw N p0 p1 = some r) (hE : HF w w.W (LEn [bx bp0 #[(iv p0.p.Unit), (.slice Ap0_0 (p0.p.Tools).length cp0_0), (.slice Ap0_1 (p0.p.Steps).length cp0_1), (.slice Ap0_2 (p0.tools).length cp0_2), (.slice Ap0_3 (p0.image).length cp0_3), (.bool p0.clear), (iv p0.tool), (iv p0.place.X), (iv p0.place.Y), (.bool p0.placed), (iv p0.off), (iv p0.on)] 77, ow Ap0_3 cp0_3 107 zJ p0.image])) : Calls Tryz.prog 125 [(.pointer (some ⟨bp0, 0, none⟩)), (.slice Ap1_0 (p1).length cp1_0)].toArray w.W fun e W' => ∃ (w' : Bs) (u : (Option Addr × Nat)), w.Le w' ∧ e = .returned (iv r.1) ∧ (SlF u.1 (r.2).length u.2) ∧ HF w' W' (LEn [bx bp0 #[(iv p0.p.Unit), (.slice Ap0_0 (p0.p.Tools).length cp0_0), (.slice Ap0_1 (p0.p.Steps).length cp0_1), (.slice Ap0_2 (p0.tools).length cp0_2), (.slice u.1 (r.2).length u.2), (.bool p0.clear), (iv p0.tool), (iv p0.place.X), (iv p0.place.Y), (.bool p0.placed), (iv p0.off), (iv p0.on)] 77, ow u.1 u.2 107 zJ r.2]) := by
 unfold F_plot_machine__draw at H
 have hfhp0_3 := (hE.sl (k := 1) rfl).form
 have leB := Bs.Le.refl w
 refine Tr.enter (n := 38) Tryz.func125 rfl rfl rfl hE ?_
 refine Tr.sr ?_
 refine Tr.asg rfl rfl ?_
 refine Tr.nil (Tr.zA ?_)
 have leJ110 := Bs.Le.refl w
 refine Tr.cutJ (σ := (List zV) × (Option Addr) × Nat) (fun w s => F_plot_machine__draw_J1 s.1 = some r ∧ SlF s.2.1 (s.1).length s.2.2) (fun s => [(0, (.pointer (some ⟨bp0, 0, none⟩)))]) (fun s => [(0, bx bp0 #[(iv p0.p.Unit), (.slice Ap0_0 (p0.p.Tools).length cp0_0), (.slice Ap0_1 (p0.p.Steps).length cp0_1), (.slice Ap0_2 (p0.tools).length cp0_2), (.slice s.2.1 (s.1).length s.2.2), (.bool p0.clear), (iv p0.tool), (iv p0.place.X), (iv p0.place.Y), (.bool p0.placed), (iv p0.off), (iv p0.on)] 77), (4, ow s.2.1 s.2.2 107 zJ s.1)]) ?_ ?_
 ·refine Tr.block ?_
  refine Tr.sr ?_
  refine Tr.mv rfl rfl ?_
  obtain ⟨y113, hy113, H⟩ := bnd H
  refine Tr.call0 (r := (.bool y113)) (wn rfl) rfl Tryz.call154 (zF rfl zO) (fun W hW => F_shape_Set__Fits_ok p1 Ap1_0 cp1_0 (hp1_0.rl.ext hW.extAll) y113 hy113 (HF.start _)) ?_
  refine Tr.va rfl (fun _ _ h1 h2 => run_not (h1.ev rfl)) ?_
  refine Tr.asg rfl rfl ?_
  refine Tr.nil (Tr.zA ?_)
  refine Tr.cond rfl H (fun H => ?_) (fun H => ?_)
  ·refine Tr.sr ?_
   refine Tr.asg rfl rfl ?_
   refine Tr.nil (Tr.zA ?_)
   refine Tr.ret (Tr.zAB (Tr.zU ?_))
   obtain rfl := Option.some.inj H
   exact Tr.out (m := [(iv 1)]) [] (zP rfl zQ) (fun W hW => ⟨w, (Ap0_3, cp0_3), leB, rfl, hfhp0_3, hW.pick (ks := [0, 1]) (by decide) (zM rfl (zM rfl zY))⟩)
  ·refine Tr.sr ?_
   refine Tr.mv rfl rfl ?_
   refine Tr.va rfl (fun _ _ h1 h2 => zb (h1.ev rfl)) ?_
   refine Tr.va rfl (fun _ _ h1 h2 => zB fo_77_3 (h1.ev rfl)) ?_
   refine Tr.va rfl (fun _ _ h1 h2 => zC ag_4 (h1.ev rfl) (rdb h2 (vs := [(iv p0.p.Unit), (.slice Ap0_0 (p0.p.Tools).length cp0_0), (.slice Ap0_1 (p0.p.Steps).length cp0_1), (.slice Ap0_2 (p0.tools).length cp0_2), (.slice Ap0_3 (p0.image).length cp0_3), (.bool p0.clear), (iv p0.tool), (iv p0.place.X), (iv p0.place.Y), (.bool p0.placed), (iv p0.off), (iv p0.on)]) (k := 0) rfl 5) rfl) ?_
   refine Tr.asg rfl rfl ?_
   refine Tr.nil (Tr.zA ?_)
   refine Tr.cond rfl H (fun H => ?_) (fun H => ?_)
   ·refine Tr.region ?_
    refine Tr.mv rfl rfl ?_
    refine Tr.mv rfl rfl ?_
    refine Tr.va rfl (fun _ _ h1 h2 => zb (h1.ev rfl)) ?_
    refine Tr.va rfl (fun _ _ h1 h2 => zB fo_77_2 (h1.ev rfl)) ?_
    refine Tr.va rfl (fun _ _ h1 h2 => zC ag_66 (h1.ev rfl) (rdb h2 (vs := [(iv p0.p.Unit), (.slice Ap0_0 (p0.p.Tools).length cp0_0), (.slice Ap0_1 (p0.p.Steps).length cp0_1), (.slice Ap0_2 (p0.tools).length cp0_2), (.slice Ap0_3 (p0.image).length cp0_3), (.bool p0.clear), (iv p0.tool), (iv p0.place.X), (iv p0.place.Y), (.bool p0.placed), (iv p0.off), (iv p0.on)]) (k := 0) rfl 4) rfl) ?_
    refine Tr.mv rfl rfl ?_
    refine Tr.freeze 1 rfl fun w le115 hz114 => ?_
    replace hp0_0 := hp0_0.leR le115
    replace hp0_1 := hp0_1.leR le115
    replace hp0_2 := hp0_2.leR le115
    replace hp1_0 := hp1_0.le le115
    replace leB := leB.trans le115
    replace leJ110 := leJ110.trans le115
    obtain ⟨y116, hy116, H⟩ := bnd H
    refine Tr.callG [5] [emp] (U := (Option Addr × Nat)) (fun u => (.slice u.1 (y116).length u.2)) (fun O W u => SlF u.1 (y116).length u.2) (fun u => [ow u.1 u.2 107 zJ y116]) rfl (zM rfl zY) (fun _ => rfl) (wn rfl) rfl Tryz.call155 (zF rfl (zF rfl zO)) (fun W hW hp hE => F_shape_Set__Less_ok N p0.image Ap0_3 cp0_3 (hz114.extO (hW.extS hp)) p1 Ap1_0 cp1_0 (hp1_0.extO (hW.extS hp)) y116 hy116 hE) ?_
    intro w u le117 hu
    obtain ⟨Ay116_0, cy116_0⟩ := u
    have gy116_0 := hu
    replace hp0_0 := hp0_0.leR le117
    replace hp0_1 := hp0_1.leR le117
    replace hp0_2 := hp0_2.leR le117
    replace hz114 := hz114.le le117
    replace hp1_0 := hp1_0.le le117
    replace leB := leB.trans le117
    replace leJ110 := leJ110.trans le117
    have hgy116_0 : SlF Ay116_0 (y116).length cy116_0 := gy116_0 --@phi
    show Tr _ _ (uf _ 29 (.slice Ay116_0 (y116).length cy116_0)) (up _ 5 (ow Ay116_0 cy116_0 107 zJ y116)) _
    refine Tr.va rfl (fun _ _ h1 h2 => zb (h1.ev rfl)) ?_
    refine Tr.va rfl (fun _ _ h1 h2 => zB fo_77_2 (h1.ev rfl)) ?_
    refine Tr.store 0 (cs := [(.slice Ay116_0 (y116).length cy116_0)]) [(iv p0.p.Unit), (.slice Ap0_0 (p0.p.Tools).length cp0_0), (.slice Ap0_1 (p0.p.Steps).length cp0_1), (.slice Ap0_2 (p0.tools).length cp0_2), (.slice Ay116_0 (y116).length cy116_0), (.bool p0.clear), (iv p0.tool), (iv p0.place.X), (iv p0.place.Y), (.bool p0.placed), (iv p0.off), (iv p0.on)] (wn rfl) rfl rfl rfl rfl sz_66 rfl rfl rfl ?_
    refine Tr.nil (Tr.zW ?_)
    refine Tr.ren 5 4 rfl rfl rfl ?_
    exact Tr.zZ leJ110 (y116, Ay116_0, cy116_0) ⟨H, hgy116_0⟩ (.cons rfl .nil) (.cons rfl (.cons rfl .nil))
   ·refine Tr.region ?_
    refine Tr.mv rfl rfl ?_
    refine Tr.mv rfl rfl ?_
    refine Tr.va rfl (fun _ _ h1 h2 => zb (h1.ev rfl)) ?_
    refine Tr.va rfl (fun _ _ h1 h2 => zB fo_77_2 (h1.ev rfl)) ?_
    refine Tr.va rfl (fun _ _ h1 h2 => zC ag_66 (h1.ev rfl) (rdb h2 (vs := [(iv p0.p.Unit), (.slice Ap0_0 (p0.p.Tools).length cp0_0), (.slice Ap0_1 (p0.p.Steps).length cp0_1), (.slice Ap0_2 (p0.tools).length cp0_2), (.slice Ap0_3 (p0.image).length cp0_3), (.bool p0.clear), (iv p0.tool), (iv p0.place.X), (iv p0.place.Y), (.bool p0.placed), (iv p0.off), (iv p0.on)]) (k := 0) rfl 4) rfl) ?_
    refine Tr.mv rfl rfl ?_
    refine Tr.freeze 1 rfl fun w le119 hz118 => ?_
    replace hp0_0 := hp0_0.leR le119
    replace hp0_1 := hp0_1.leR le119
    replace hp0_2 := hp0_2.leR le119
    replace hp1_0 := hp1_0.le le119
    replace leB := leB.trans le119
    replace leJ110 := leJ110.trans le119
    obtain ⟨y120, hy120, H⟩ := bnd H
    refine Tr.callG [6] [emp] (U := (Option Addr × Nat)) (fun u => (.slice u.1 (y120).length u.2)) (fun O W u => SlF u.1 (y120).length u.2) (fun u => [ow u.1 u.2 107 zJ y120]) rfl (zM rfl zY) (fun _ => rfl) (wn rfl) rfl Tryz.call36 (zF rfl (zF rfl zO)) (fun W hW hp hE => F_shape_Set__Or_ok N p0.image Ap0_3 cp0_3 (hz118.extO (hW.extS hp)) p1 Ap1_0 cp1_0 (hp1_0.extO (hW.extS hp)) y120 hy120 hE) ?_
    intro w u le121 hu
    obtain ⟨Ay120_0, cy120_0⟩ := u
    have gy120_0 := hu
    replace hp0_0 := hp0_0.leR le121
    replace hp0_1 := hp0_1.leR le121
    replace hp0_2 := hp0_2.leR le121
    replace hz118 := hz118.le le121
    replace hp1_0 := hp1_0.le le121
    replace leB := leB.trans le121
    replace leJ110 := leJ110.trans le121
    have hgy120_0 : SlF Ay120_0 (y120).length cy120_0 := gy120_0 --@phi
    show Tr _ _ (uf _ 11 (.slice Ay120_0 (y120).length cy120_0)) (up _ 6 (ow Ay120_0 cy120_0 107 zJ y120)) _
    refine Tr.va rfl (fun _ _ h1 h2 => zb (h1.ev rfl)) ?_
    refine Tr.va rfl (fun _ _ h1 h2 => zB fo_77_2 (h1.ev rfl)) ?_
    refine Tr.store 0 (cs := [(.slice Ay120_0 (y120).length cy120_0)]) [(iv p0.p.Unit), (.slice Ap0_0 (p0.p.Tools).length cp0_0), (.slice Ap0_1 (p0.p.Steps).length cp0_1), (.slice Ap0_2 (p0.tools).length cp0_2), (.slice Ay120_0 (y120).length cy120_0), (.bool p0.clear), (iv p0.tool), (iv p0.place.X), (iv p0.place.Y), (.bool p0.placed), (iv p0.off), (iv p0.on)] (wn rfl) rfl rfl rfl rfl sz_66 rfl rfl rfl ?_
    refine Tr.nil (Tr.zW ?_)
    refine Tr.ren 6 4 rfl rfl rfl ?_
    exact Tr.zZ leJ110 (y120, Ay120_0, cy120_0) ⟨H, hgy120_0⟩ (.cons rfl .nil) (.cons rfl (.cons rfl .nil))
 ·intro w s hlJ111 hs
  obtain ⟨l109, Al109, cl109⟩ := s
  obtain ⟨H, hl109⟩ := hs
  replace H : F_plot_machine__draw_J1 l109 = some r := H
  replace hp0_0 := hp0_0.leR hlJ111
  replace hp0_1 := hp0_1.leR hlJ111
  replace hp0_2 := hp0_2.leR hlJ111
  replace leB := leB.trans hlJ111
  replace hl109 : SlF Al109 (l109).length cl109 := hl109
  unfold F_plot_machine__draw_J1 at H
  show Tr _ _ (LF [(0, (.pointer (some ⟨bp0, 0, none⟩)))]) (LE [(0, bx bp0 #[(iv p0.p.Unit), (.slice Ap0_0 (p0.p.Tools).length cp0_0), (.slice Ap0_1 (p0.p.Steps).length cp0_1), (.slice Ap0_2 (p0.tools).length cp0_2), (.slice Al109 (l109).length cl109), (.bool p0.clear), (iv p0.tool), (iv p0.place.X), (iv p0.place.Y), (.bool p0.placed), (iv p0.off), (iv p0.on)] 77), (4, ow Al109 cl109 107 zJ l109)]) _
  refine Tr.seq ?_
  refine Tr.sr ?_
  refine Tr.mv rfl rfl ?_
  refine Tr.va rfl (fun _ _ h1 h2 => zb (h1.ev rfl)) ?_
  refine Tr.va rfl (fun _ _ h1 h2 => zB fo_77_2 (h1.ev rfl)) ?_
  refine Tr.va rfl (fun _ _ h1 h2 => zC ag_66 (h1.ev rfl) (rdb h2 (vs := [(iv p0.p.Unit), (.slice Ap0_0 (p0.p.Tools).length cp0_0), (.slice Ap0_1 (p0.p.Steps).length cp0_1), (.slice Ap0_2 (p0.tools).length cp0_2), (.slice Al109 (l109).length cl109), (.bool p0.clear), (iv p0.tool), (iv p0.place.X), (iv p0.place.Y), (.bool p0.placed), (iv p0.off), (iv p0.on)]) (k := 0) rfl 4) rfl) ?_
  obtain ⟨y112, hy112, H⟩ := bnd H
  refine Tr.call0 (r := (iv y112)) (wn rfl) rfl Tryz.call89 (zF rfl zO) (fun W hW => F_shape_Set__Many_ok l109 Al109 cl109 (hW.slCall (k := 4) rfl) y112 hy112 (HF.start _)) ?_
  refine Tr.va rfl (fun _ _ h1 h2 => run_gtr (h1.ev rfl) (h1.ev rfl)) ?_
  refine Tr.nil (Tr.zA ?_)
  refine Tr.cond rfl H (fun H => ?_) (fun H => ?_)
  ·refine Tr.sr ?_
   refine Tr.asg rfl rfl ?_
   refine Tr.nil (Tr.zA ?_)
   refine Tr.ret (Tr.zU ?_)
   obtain rfl := Option.some.inj H
   exact Tr.out (m := [(iv 2)]) [] (zP rfl zQ) (fun W hW => ⟨w, (Al109, cl109), leB, rfl, hl109, hW.pick (ks := [0, 4]) (by decide) (zM rfl (zM rfl zY))⟩)
  ·refine Tr.skip (Tr.zA ?_)
   refine Tr.sr ?_
   refine Tr.asg rfl rfl ?_
   refine Tr.nil (Tr.zA ?_)
   refine Tr.ret ?_
   obtain rfl := Option.some.inj H
   exact Tr.out (m := [(iv 0)]) [] (zP rfl zQ) (fun W hW => ⟨w, (Al109, cl109), leB, rfl, hl109, hW.pick (ks := [0, 4]) (by decide) (zM rfl (zM rfl zY))⟩)

theorem F_plot_machine__set__f0_10_ok {w : Bs} (p0 : zAA) (Ap0_0 : Option Addr) (cp0_0 : Nat) (hp0_0 : Sl w.R w.W zK Ap0_0 cp0_0 p0.p.Tools) (Ap0_1 : Option Addr) (cp0_1 : Nat) (hp0_1 : Sl w.R w.W zG Ap0_1 cp0_1 p0.p.Steps) (Ap0_2 : Option Addr) (cp0_2 : Nat) (hp0_2 : Sl w.R w.W fl_LTBand Ap0_2 cp0_2 p0.tools) (Ap0_3 : Option Addr) (cp0_3 : Nat) (hp0_3 : Sl w.R w.W zJ Ap0_3 cp0_3 p0.image) (bp0 : Nat) (p1 : zI) (r : (Int × Int × Int × Bool × Int)) (H : F_plot_machine__set__f0_10 p0 p1 = some r) (hE : HF w w.W (LEn [bx bp0 #[(iv p0.p.Unit), (.slice Ap0_0 (p0.p.Tools).length cp0_0), (.slice Ap0_1 (p0.p.Steps).length cp0_1), (.slice Ap0_2 (p0.tools).length cp0_2), (.slice Ap0_3 (p0.image).length cp0_3), (.bool p0.clear), (iv p0.tool), (iv p0.place.X), (iv p0.place.Y), (.bool p0.placed), (iv p0.off), (iv p0.on)] 77])) : Calls Tryz.prog 104 [(.pointer (some ⟨bp0, 0, none⟩)), (.agg #[(iv p1.X), (iv p1.Y)]), (.pointer (some ⟨bp0, 10, none⟩))].toArray w.W fun e W' => ∃ u : Unit, e = .returned (iv r.1) ∧ (True) ∧ HF w W' (LEn [bx bp0 #[(iv p0.p.Unit), (.slice Ap0_0 (p0.p.Tools).length cp0_0), (.slice Ap0_1 (p0.p.Steps).length cp0_1), (.slice Ap0_2 (p0.tools).length cp0_2), (.slice Ap0_3 (p0.image).length cp0_3), (.bool p0.clear), (iv p0.tool), (iv r.2.1), (iv r.2.2.1), (.bool r.2.2.2.1), (iv r.2.2.2.2), (iv p0.on)] 77]) := by
 unfold F_plot_machine__set__f0_10 at H
 have leB := Bs.Le.refl w
 refine Tr.enter (n := 32) Tryz.func104 rfl rfl rfl hE ?_
 refine Tr.sr ?_
 refine Tr.box 1 (cs := [(iv p1.X), (iv p1.Y)]) (wn rfl) rfl rfl rfl fun b100 => ?_
 refine Tr.asg rfl rfl ?_
 refine Tr.nil (Tr.zA ?_)
 refine Tr.seq ?_
 refine Tr.sr ?_
 refine Tr.va rfl (fun _ _ h1 h2 => zR (cs := [(iv p1.X), (iv p1.Y)]) ag_43 sz_43 (h1.ev rfl) (zL.take (rdb h2 (vs := [(iv p1.X), (iv p1.Y)]) (k := 1) rfl 0) 2) rfl) ?_
 obtain ⟨y101, hy101, H⟩ := bnd H
 refine Tr.call0 (r := (.bool y101)) (wn rfl) rfl Tryz.call123 (zF rfl zO) (fun W hW => F_shape_IsPoint_ok p1 y101 hy101 (HF.start _)) ?_
 refine Tr.va rfl (fun _ _ h1 h2 => run_not (h1.ev rfl)) ?_
 refine Tr.nil (Tr.zA ?_)
 refine Tr.cond rfl H (fun H => ?_) (fun H => ?_)
 ·refine Tr.sr ?_
  refine Tr.asg rfl rfl ?_
  refine Tr.nil (Tr.zA ?_)
  refine Tr.ret (Tr.zU ?_)
  obtain rfl := Option.some.inj H
  exact Tr.out (m := [(iv 1)]) [] (zP rfl zQ) (fun W hW => ⟨(), rfl, trivial, HF.lowE leB (hW.pick (ks := [0]) (by decide) (zM rfl zY)) ⟨bx_any _ _ _, trivial⟩⟩)
 ·refine Tr.skip (Tr.zA ?_)
  have leJ104 := Bs.Le.refl w
  refine Tr.cutJ (σ := Int) (fun w s => F_plot_machine__set__f0_10_J1 p1 s = some r) (fun s => [(0, (.pointer (some ⟨bp0, 0, none⟩))), (4, (.pointer (some ⟨b100, 0, none⟩)))]) (fun s => [(0, bx bp0 #[(iv p0.p.Unit), (.slice Ap0_0 (p0.p.Tools).length cp0_0), (.slice Ap0_1 (p0.p.Steps).length cp0_1), (.slice Ap0_2 (p0.tools).length cp0_2), (.slice Ap0_3 (p0.image).length cp0_3), (.bool p0.clear), (iv p0.tool), (iv p0.place.X), (iv p0.place.Y), (.bool p0.placed), (iv s), (iv p0.on)] 77), (1, bx b100 #[(iv p1.X), (iv p1.Y)] 43)]) ?_ ?_
  ·refine Tr.sr ?_
   refine Tr.mv rfl rfl ?_
   refine Tr.va rfl (fun _ _ h1 h2 => zb (h1.ev rfl)) ?_
   refine Tr.va rfl (fun _ _ h1 h2 => zB fo_77_6 (h1.ev rfl)) ?_
   refine Tr.va rfl (fun _ _ h1 h2 => zC ag_4 (h1.ev rfl) (rdb h2 (vs := [(iv p0.p.Unit), (.slice Ap0_0 (p0.p.Tools).length cp0_0), (.slice Ap0_1 (p0.p.Steps).length cp0_1), (.slice Ap0_2 (p0.tools).length cp0_2), (.slice Ap0_3 (p0.image).length cp0_3), (.bool p0.clear), (iv p0.tool), (iv p0.place.X), (iv p0.place.Y), (.bool p0.placed), (iv p0.off), (iv p0.on)]) (k := 0) rfl 9) rfl) ?_
   refine Tr.nil (Tr.zA ?_)
   refine Tr.cond rfl H (fun H => ?_) (fun H => ?_)
   ·refine Tr.drawTail 9 (by kernel_rfl) (by kernel_rfl) ?_
    refine Tq.mv rfl rfl ?_
    refine Tq.va rfl (fun _ _ h1 h2 => zb (h1.ev rfl)) ?_
    refine Tq.va rfl (fun _ _ h1 h2 => zC ag_3 (h1.ev rfl) (rdb h2 (vs := [(iv p0.p.Unit), (.slice Ap0_0 (p0.p.Tools).length cp0_0), (.slice Ap0_1 (p0.p.Steps).length cp0_1), (.slice Ap0_2 (p0.tools).length cp0_2), (.slice Ap0_3 (p0.image).length cp0_3), (.bool p0.clear), (iv p0.tool), (iv p0.place.X), (iv p0.place.Y), (.bool p0.placed), (iv p0.off), (iv p0.on)]) (k := 0) rfl 10) rfl) ?_
    refine Tq.mv rfl rfl ?_
    refine Tq.va rfl (fun _ _ h1 h2 => zb (h1.ev rfl)) ?_
    refine Tq.va rfl (fun _ _ h1 h2 => zB fo_77_5 (h1.ev rfl)) ?_
    refine Tq.va rfl (fun _ _ h1 h2 => zR (cs := [(iv p0.place.X), (iv p0.place.Y)]) ag_43 sz_43 (h1.ev rfl) (zL.take (rdb h2 (vs := [(iv p0.p.Unit), (.slice Ap0_0 (p0.p.Tools).length cp0_0), (.slice Ap0_1 (p0.p.Steps).length cp0_1), (.slice Ap0_2 (p0.tools).length cp0_2), (.slice Ap0_3 (p0.image).length cp0_3), (.bool p0.clear), (iv p0.tool), (iv p0.place.X), (iv p0.place.Y), (.bool p0.placed), (iv p0.off), (iv p0.on)]) (k := 0) rfl 7) 2) rfl) ?_
    refine Tq.va rfl (fun _ _ h1 h2 => zR (cs := [(iv p1.X), (iv p1.Y)]) ag_43 sz_43 (h1.ev rfl) (zL.take (rdb h2 (vs := [(iv p1.X), (iv p1.Y)]) (k := 1) rfl 0) 2) rfl) ?_
    obtain ⟨y106, hy106, H⟩ := bnd H
    refine Tq.call0 (r := (iv y106)) (wn rfl) rfl Tryz.call124 (zF rfl (zF rfl zO)) (fun W hW => F_plot_far_ok p0.place p1 y106 hy106 (HF.start _)) ?_
    refine Tq.nil ?_
    refine Tr.va rfl (fun _ _ h1 h2 => zx (h1.ev rfl) (h1.ev rfl)) ?_
    refine Tr.va rfl (fun _ _ h1 h2 => zb (h1.ev rfl)) ?_
    refine Tr.store 0 (cs := [(iv (w64 (p0.off + y106)))]) [(iv p0.p.Unit), (.slice Ap0_0 (p0.p.Tools).length cp0_0), (.slice Ap0_1 (p0.p.Steps).length cp0_1), (.slice Ap0_2 (p0.tools).length cp0_2), (.slice Ap0_3 (p0.image).length cp0_3), (.bool p0.clear), (iv p0.tool), (iv p0.place.X), (iv p0.place.Y), (.bool p0.placed), (iv (w64 (p0.off + y106))), (iv p0.on)] (wn rfl) rfl rfl rfl rfl sz_3 rfl rfl rfl ?_
    refine Tr.nil ?_
    exact Tr.zZ leJ104 (w64 (p0.off + y106)) H (.cons rfl (.cons rfl .nil)) (.cons rfl (.cons rfl .nil))
   ·refine Tr.skip ?_
    exact Tr.zZ leJ104 p0.off H (.cons rfl (.cons rfl .nil)) (.cons rfl (.cons rfl .nil))
  ·intro w x103 hlJ105 hs
   have H := hs
   replace H : F_plot_machine__set__f0_10_J1 p1 x103 = some r := H
   replace hp0_0 := hp0_0.leR hlJ105
   replace hp0_1 := hp0_1.leR hlJ105
   replace hp0_2 := hp0_2.leR hlJ105
   replace hp0_3 := hp0_3.leR hlJ105
   replace leB := leB.trans hlJ105
   unfold F_plot_machine__set__f0_10_J1 at H
   show Tr _ _ (LF [(0, (.pointer (some ⟨bp0, 0, none⟩))), (4, (.pointer (some ⟨b100, 0, none⟩)))]) (LE [(0, bx bp0 #[(iv p0.p.Unit), (.slice Ap0_0 (p0.p.Tools).length cp0_0), (.slice Ap0_1 (p0.p.Steps).length cp0_1), (.slice Ap0_2 (p0.tools).length cp0_2), (.slice Ap0_3 (p0.image).length cp0_3), (.bool p0.clear), (iv p0.tool), (iv p0.place.X), (iv p0.place.Y), (.bool p0.placed), (iv x103), (iv p0.on)] 77), (1, bx b100 #[(iv p1.X), (iv p1.Y)] 43)]) _
   refine Tr.sr ?_
   refine Tr.mv rfl rfl ?_
   refine Tr.mv rfl rfl ?_
   refine Tr.va rfl (fun _ _ h1 h2 => zR (cs := [(iv p1.X), (iv p1.Y)]) ag_43 sz_43 (h1.ev rfl) (zL.take (rdb h2 (vs := [(iv p1.X), (iv p1.Y)]) (k := 1) rfl 0) 2) rfl) ?_
   refine Tr.va rfl (fun _ _ h1 h2 => zb (h1.ev rfl)) ?_
   refine Tr.va rfl (fun _ _ h1 h2 => zB fo_77_5 (h1.ev rfl)) ?_
   refine Tr.store 0 (cs := [(iv p1.X), (iv p1.Y)]) [(iv p0.p.Unit), (.slice Ap0_0 (p0.p.Tools).length cp0_0), (.slice Ap0_1 (p0.p.Steps).length cp0_1), (.slice Ap0_2 (p0.tools).length cp0_2), (.slice Ap0_3 (p0.image).length cp0_3), (.bool p0.clear), (iv p0.tool), (iv p1.X), (iv p1.Y), (.bool p0.placed), (iv x103), (iv p0.on)] (wn rfl) rfl rfl rfl rfl sz_43 rfl rfl rfl ?_
   refine Tr.va rfl (fun _ _ h1 h2 => zb (h1.ev rfl)) ?_
   refine Tr.va rfl (fun _ _ h1 h2 => zB fo_77_6 (h1.ev rfl)) ?_
   refine Tr.store 0 (cs := [(.bool true)]) [(iv p0.p.Unit), (.slice Ap0_0 (p0.p.Tools).length cp0_0), (.slice Ap0_1 (p0.p.Steps).length cp0_1), (.slice Ap0_2 (p0.tools).length cp0_2), (.slice Ap0_3 (p0.image).length cp0_3), (.bool p0.clear), (iv p0.tool), (iv p1.X), (iv p1.Y), (.bool true), (iv x103), (iv p0.on)] (wn rfl) rfl rfl rfl rfl sz_4 rfl rfl rfl ?_
   refine Tr.nil (Tr.zA ?_)
   refine Tr.sr ?_
   refine Tr.asg rfl rfl ?_
   refine Tr.nil (Tr.zA ?_)
   refine Tr.ret ?_
   obtain rfl := Option.some.inj H
   exact Tr.out (m := [(iv 0)]) [] (zP rfl zQ) (fun W hW => ⟨(), rfl, trivial, HF.lowE leB (hW.pick (ks := [0]) (by decide) (zM rfl zY)) ⟨bx_any _ _ _, trivial⟩⟩)

theorem F_plot_machine__flash_ok (N : Nat) {w : Bs} (p0 : zAA) (Ap0_0 : Option Addr) (cp0_0 : Nat) (hp0_0 : Sl w.R w.W zK Ap0_0 cp0_0 p0.p.Tools) (Ap0_1 : Option Addr) (cp0_1 : Nat) (hp0_1 : Sl w.R w.W zG Ap0_1 cp0_1 p0.p.Steps) (Ap0_2 : Option Addr) (cp0_2 : Nat) (hp0_2 : Sl w.R w.W fl_LTBand Ap0_2 cp0_2 p0.tools) (Ap0_3 : Option Addr) (cp0_3 : Nat) (bp0 : Nat) (p1 : zI) (r : (Int × Int × Int × Bool × Int × (List zV))) (H : F_plot_machine__flash N p0 p1 = some r) (hE : HF w w.W (LEn [bx bp0 #[(iv p0.p.Unit), (.slice Ap0_0 (p0.p.Tools).length cp0_0), (.slice Ap0_1 (p0.p.Steps).length cp0_1), (.slice Ap0_2 (p0.tools).length cp0_2), (.slice Ap0_3 (p0.image).length cp0_3), (.bool p0.clear), (iv p0.tool), (iv p0.place.X), (iv p0.place.Y), (.bool p0.placed), (iv p0.off), (iv p0.on)] 77, ow Ap0_3 cp0_3 107 zJ p0.image])) : Calls Tryz.prog 105 [(.pointer (some ⟨bp0, 0, none⟩)), (.agg #[(iv p1.X), (iv p1.Y)])].toArray w.W fun e W' => ∃ (w' : Bs) (u : (Option Addr × Nat)), w.Le w' ∧ e = .returned (iv r.1) ∧ (SlF u.1 (r.2.2.2.2.2).length u.2) ∧ HF w' W' (LEn [bx bp0 #[(iv p0.p.Unit), (.slice Ap0_0 (p0.p.Tools).length cp0_0), (.slice Ap0_1 (p0.p.Steps).length cp0_1), (.slice Ap0_2 (p0.tools).length cp0_2), (.slice u.1 (r.2.2.2.2.2).length u.2), (.bool p0.clear), (iv p0.tool), (iv r.2.1), (iv r.2.2.1), (.bool r.2.2.2.1), (iv r.2.2.2.2.1), (iv p0.on)] 77, ow u.1 u.2 107 zJ r.2.2.2.2.2]) := by
 unfold F_plot_machine__flash at H
 have hfhp0_3 := (hE.sl (k := 1) rfl).form
 have leB := Bs.Le.refl w
 refine Tr.enter (n := 35) Tryz.func105 rfl rfl rfl hE ?_
 refine Tr.sr ?_
 refine Tr.box 2 (cs := [(iv p1.X), (iv p1.Y)]) (wn rfl) rfl rfl rfl fun b100 => ?_
 refine Tr.asg rfl rfl ?_
 refine Tr.nil (Tr.zA ?_)
 refine Tr.seq ?_
 refine Tr.sr ?_
 refine Tr.mv rfl rfl ?_
 refine Tr.va rfl (fun _ _ h1 h2 => zb (h1.ev rfl)) ?_
 refine Tr.va rfl (fun _ _ h1 h2 => zB fo_77_4 (h1.ev rfl)) ?_
 refine Tr.va rfl (fun _ _ h1 h2 => zC ag_3 (h1.ev rfl) (rdb h2 (vs := [(iv p0.p.Unit), (.slice Ap0_0 (p0.p.Tools).length cp0_0), (.slice Ap0_1 (p0.p.Steps).length cp0_1), (.slice Ap0_2 (p0.tools).length cp0_2), (.slice Ap0_3 (p0.image).length cp0_3), (.bool p0.clear), (iv p0.tool), (iv p0.place.X), (iv p0.place.Y), (.bool p0.placed), (iv p0.off), (iv p0.on)]) (k := 0) rfl 6) rfl) ?_
 refine Tr.va rfl (fun _ _ h1 h2 => zz (h1.ev rfl) (h1.ev rfl)) ?_
 refine Tr.nil (Tr.zA ?_)
 refine Tr.cond rfl H (fun H => ?_) (fun H => ?_)
 ·refine Tr.sr ?_
  refine Tr.asg rfl rfl ?_
  refine Tr.nil (Tr.zA ?_)
  refine Tr.ret (Tr.zU ?_)
  obtain rfl := Option.some.inj H
  exact Tr.out (m := [(iv 11)]) [] (zP rfl zQ) (fun W hW => ⟨w, (Ap0_3, cp0_3), leB, rfl, hfhp0_3, hW.pick (ks := [0, 1]) (by decide) (zM rfl (zM rfl zY))⟩)
 ·refine Tr.skip (Tr.zA ?_)
  refine Tr.seq ?_
  refine Tr.seq ?_
  refine Tr.drawTail 5 (by kernel_rfl) (by kernel_rfl) ?_
  refine Tq.mv rfl rfl ?_
  refine Tq.va rfl (fun _ _ h1 h2 => zR (cs := [(iv p1.X), (iv p1.Y)]) ag_43 sz_43 (h1.ev rfl) (zL.take (rdb h2 (vs := [(iv p1.X), (iv p1.Y)]) (k := 2) rfl 0) 2) rfl) ?_
  refine Tq.mv rfl rfl ?_
  refine Tq.va rfl (fun _ _ h1 h2 => zb (h1.ev rfl)) ?_
  refine Tq.va rfl (fun _ _ h1 h2 => zB fo_77_7 (h1.ev rfl)) ?_
  refine Tq.nil ?_
  obtain ⟨y101, hy101, H⟩ := bnd H
  refine Tr.callM [0] [bx bp0 #[(iv p0.p.Unit), (.slice Ap0_0 (p0.p.Tools).length cp0_0), (.slice Ap0_1 (p0.p.Steps).length cp0_1), (.slice Ap0_2 (p0.tools).length cp0_2), (.slice Ap0_3 (p0.image).length cp0_3), (.bool p0.clear), (iv p0.tool), (iv p0.place.X), (iv p0.place.Y), (.bool p0.placed), (iv p0.off), (iv p0.on)] 77] (U := Unit) (fun u => (iv y101.1)) (fun u => True) (fun u => [bx bp0 #[(iv p0.p.Unit), (.slice Ap0_0 (p0.p.Tools).length cp0_0), (.slice Ap0_1 (p0.p.Steps).length cp0_1), (.slice Ap0_2 (p0.tools).length cp0_2), (.slice Ap0_3 (p0.image).length cp0_3), (.bool p0.clear), (iv p0.tool), (iv y101.2.1), (iv y101.2.2.1), (.bool y101.2.2.2.1), (iv y101.2.2.2.2), (iv p0.on)] 77]) rfl (zM rfl zY) (fun _ => rfl) (wn rfl) rfl Tryz.call104 (zF rfl (zF rfl (zF rfl zO))) (fun W hW hp hE => F_plot_machine__set__f0_10_ok p0 Ap0_0 cp0_0 (hp0_0.ext (hW.extS hp)) Ap0_1 cp0_1 (hp0_1.ext (hW.extS hp)) Ap0_2 cp0_2 (hp0_2.ext (hW.extS hp)) Ap0_3 cp0_3 (hW.slS (k := 1) rfl hp rfl) bp0 p1 y101 hy101 hE) ?_
  intro u hu
  show Tr _ _ (uf _ 16 (iv y101.1)) (up _ 0 (bx bp0 #[(iv p0.p.Unit), (.slice Ap0_0 (p0.p.Tools).length cp0_0), (.slice Ap0_1 (p0.p.Steps).length cp0_1), (.slice Ap0_2 (p0.tools).length cp0_2), (.slice Ap0_3 (p0.image).length cp0_3), (.bool p0.clear), (iv p0.tool), (iv y101.2.1), (iv y101.2.2.1), (.bool y101.2.2.2.1), (iv y101.2.2.2.2), (iv p0.on)] 77)) _
  refine Tr.asg rfl rfl ?_
  refine Tr.nil (Tr.zA ?_)
  refine Tr.sr ?_
  refine Tr.mv rfl rfl ?_
  refine Tr.va rfl (fun _ _ h1 h2 => run_neq (h1.ev rfl) (h1.ev rfl)) ?_
  refine Tr.nil (Tr.zA ?_)
  refine Tr.cond rfl H (fun H => ?_) (fun H => ?_)
  ·refine Tr.sr ?_
   refine Tr.mv rfl rfl ?_
   refine Tr.asg rfl rfl ?_
   refine Tr.nil (Tr.zA ?_)
   refine Tr.ret (Tr.zU ?_)
   obtain rfl := Option.some.inj H
   exact Tr.out (m := [(iv y101.1)]) [] (zP rfl zQ) (fun W hW => ⟨w, (Ap0_3, cp0_3), leB, rfl, hfhp0_3, hW.pick (ks := [0, 1]) (by decide) (zM rfl (zM rfl zY))⟩)
  ·refine Tr.skip (Tr.zA ?_)
   refine Tr.seq ?_
   refine Tr.drawC 14 [] [] (by kernel_rfl) (by kernel_rfl) fun sz103 hlosz103 hEsz103 => ?_
   refine Dr.quiet 0 [(20, (.pointer (some ⟨bp0, 0, none⟩)))] (by kernel_rfl) rfl rfl (by kernel_rfl) ?_ rfl rfl ?_
   ·refine Tq.mv rfl rfl ?_
    exact Tq.fin (.cons rfl .nil)
   refine Dr.quiet 1 [(21, (.pointer (some ⟨bp0, 0, none⟩)))] (by kernel_rfl) rfl rfl (by kernel_rfl) ?_ rfl rfl ?_
   ·refine Tq.mv rfl rfl ?_
    exact Tq.fin (.cons rfl .nil)
   refine Dr.quiet 2 [(22, (.pointer (some ⟨bp0, 0, none⟩)))] (by kernel_rfl) rfl rfl (by kernel_rfl) ?_ rfl rfl ?_
   ·refine Tq.va rfl (fun _ _ h1 h2 => zb (h1.ev rfl)) ?_
    exact Tq.fin (.cons rfl .nil)
   refine Dr.quiet 3 [(23, (.pointer (some ⟨bp0, 3, none⟩)))] (by kernel_rfl) rfl rfl (by kernel_rfl) ?_ rfl rfl ?_
   ·refine Tq.va rfl (fun _ _ h1 h2 => zB fo_77_1 (h1.ev rfl)) ?_
    exact Tq.fin (.cons rfl .nil)
   refine Dr.quiet 4 [(24, (.slice Ap0_2 (p0.tools).length cp0_2))] (by kernel_rfl) rfl rfl (by kernel_rfl) ?_ rfl rfl ?_
   ·refine Tq.va rfl (fun _ _ h1 h2 => zC ag_75 (h1.ev rfl) (rdb h2 (vs := [(iv p0.p.Unit), (.slice Ap0_0 (p0.p.Tools).length cp0_0), (.slice Ap0_1 (p0.p.Steps).length cp0_1), (.slice Ap0_2 (p0.tools).length cp0_2), (.slice Ap0_3 (p0.image).length cp0_3), (.bool p0.clear), (iv p0.tool), (iv y101.2.1), (iv y101.2.2.1), (.bool y101.2.2.2.1), (iv y101.2.2.2.2), (iv p0.on)]) (k := 0) rfl 3) rfl) ?_
    exact Tq.fin (.cons rfl .nil)
   refine Dr.quiet 5 [(25, (.pointer (some ⟨bp0, 0, none⟩)))] (by kernel_rfl) rfl rfl (by kernel_rfl) ?_ rfl rfl ?_
   ·refine Tq.mv rfl rfl ?_
    exact Tq.fin (.cons rfl .nil)
   refine Dr.quiet 6 [(26, (.pointer (some ⟨bp0, 0, none⟩)))] (by kernel_rfl) rfl rfl (by kernel_rfl) ?_ rfl rfl ?_
   ·refine Tq.va rfl (fun _ _ h1 h2 => zb (h1.ev rfl)) ?_
    exact Tq.fin (.cons rfl .nil)
   refine Dr.quiet 7 [(27, (.pointer (some ⟨bp0, 6, none⟩)))] (by kernel_rfl) rfl rfl (by kernel_rfl) ?_ rfl rfl ?_
   ·refine Tq.va rfl (fun _ _ h1 h2 => zB fo_77_4 (h1.ev rfl)) ?_
    exact Tq.fin (.cons rfl .nil)
   refine Dr.quiet 8 [(28, (iv p0.tool))] (by kernel_rfl) rfl rfl (by kernel_rfl) ?_ rfl rfl ?_
   ·refine Tq.va rfl (fun _ _ h1 h2 => zC ag_3 (h1.ev rfl) (rdb h2 (vs := [(iv p0.p.Unit), (.slice Ap0_0 (p0.p.Tools).length cp0_0), (.slice Ap0_1 (p0.p.Steps).length cp0_1), (.slice Ap0_2 (p0.tools).length cp0_2), (.slice Ap0_3 (p0.image).length cp0_3), (.bool p0.clear), (iv p0.tool), (iv y101.2.1), (iv y101.2.2.1), (.bool y101.2.2.2.1), (iv y101.2.2.2.2), (iv p0.on)]) (k := 0) rfl 6) rfl) ?_
    exact Tq.fin (.cons rfl .nil)
   obtain ⟨x104, hx104, H⟩ := bnd H
   obtain ⟨hx1040, hx1041, hx1042⟩ := zh hx104
   obtain ⟨u105, hRu105, hoku105, hcu105⟩ := (hp0_2).el hx1042
   obtain ⟨Au105_0, cu105_0⟩ := u105
   have hoku105_0 := hoku105
   refine Dr.quiet 9 [(29, (.pointer (some ⟨adB Ap0_2, adO Ap0_2 + (p0.tool).toNat * 1, none⟩)))] (by kernel_rfl) rfl rfl (by kernel_rfl) ?_ rfl rfl ?_
   ·replace hoku105_0 : Sl w.R w.W zJ Au105_0 cu105_0 x104 := hoku105_0
    refine Tq.va rfl (fun _ _ h1 h2 => zH el_75 (h1.ev rfl) hp0_2.form (h1.ev rfl) hx1040 hx1041) ?_
    exact Tq.fin (.cons rfl .nil)
   refine Dr.quiet 10 [(30, (.slice Au105_0 (x104).length cu105_0))] (by kernel_rfl) rfl rfl (by kernel_rfl) ?_ rfl rfl ?_
   ·refine Tq.va rfl (fun _ _ h1 h2 => zC ag_66 (h1.ev rfl) (rdR hRu105 hcu105 h2) rfl) ?_
    exact Tq.fin (.cons rfl .nil)
   refine Dr.quiet 11 [(31, (.agg #[(iv p1.X), (iv p1.Y)]))] (by kernel_rfl) rfl rfl (by kernel_rfl) ?_ rfl rfl ?_
   ·refine Tq.va rfl (fun _ _ h1 h2 => zR (cs := [(iv p1.X), (iv p1.Y)]) ag_43 sz_43 (h1.ev rfl) (zL.take (rdb h2 (vs := [(iv p1.X), (iv p1.Y)]) (k := 2) rfl 0) 2) rfl) ?_
    exact Tq.fin (.cons rfl .nil)
   refine Dr.quiet 12 [(32, (.agg #[(iv p1.X), (iv p1.Y)]))] (by kernel_rfl) rfl rfl (by kernel_rfl) ?_ rfl rfl ?_
   ·refine Tq.va rfl (fun _ _ h1 h2 => zR (cs := [(iv p1.X), (iv p1.Y)]) ag_43 sz_43 (h1.ev rfl) (zL.take (rdb h2 (vs := [(iv p1.X), (iv p1.Y)]) (k := 2) rfl 0) 2) rfl) ?_
    exact Tq.fin (.cons rfl .nil)
   obtain ⟨y106, hy106, H⟩ := bnd H
   refine Dr.one 13 (by kernel_rfl) ?_
   refine St.callG 13 [3] [emp] (U := (Option Addr × Nat)) (fun u => (.slice u.1 (y106).length u.2)) (fun O W u => SlF u.1 (y106).length u.2) (fun u => [ow u.1 u.2 107 zJ y106]) rfl (zM rfl zY) (fun _ => rfl) (insS_no rfl) rfl (wn rfl) rfl Tryz.call126 (zF rfl (zF rfl (zF rfl zO))) (fun W hW hp hE => F_plot_swept_ok N x104 Au105_0 cu105_0 (hoku105_0.ext (hW.extS hp)) p1 p1 y106 hy106 hE) ?_
   intro w u le107 hu hsy106
   obtain ⟨Ay106_0, cy106_0⟩ := u
   have gy106_0 := hu
   replace hp0_0 := hp0_0.leR le107
   replace hp0_1 := hp0_1.leR le107
   replace hp0_2 := hp0_2.leR le107
   replace hcu105 := le107.ext.cells hRu105 hcu105
   replace hRu105 := le107.r _ hRu105
   replace hoku105_0 := hoku105_0.leR le107
   replace leB := leB.trans le107
   have hgy106_0 : SlF Ay106_0 (y106).length cy106_0 := gy106_0
   show Dr _ _ _ _ _ _ _ _ _ (uf _ 33 (.slice Ay106_0 (y106).length cy106_0)) (up _ 3 (ow Ay106_0 cy106_0 107 zJ y106))
   refine Dr.tail (by kernel_rfl) ?_
   refine Tr.freeze 3 rfl fun w le109 hz108 => ?_
   replace hp0_0 := hp0_0.leR le109
   replace hp0_1 := hp0_1.leR le109
   replace hp0_2 := hp0_2.leR le109
   replace hcu105 := le109.ext.cells hRu105 hcu105
   replace hRu105 := le109.r _ hRu105
   replace hoku105_0 := hoku105_0.leR le109
   replace leB := leB.trans le109
   obtain ⟨y110, hy110, H⟩ := bnd H
   refine Tr.callG [0, 1] [bx bp0 #[(iv p0.p.Unit), (.slice Ap0_0 (p0.p.Tools).length cp0_0), (.slice Ap0_1 (p0.p.Steps).length cp0_1), (.slice Ap0_2 (p0.tools).length cp0_2), (.slice Ap0_3 (p0.image).length cp0_3), (.bool p0.clear), (iv p0.tool), (iv y101.2.1), (iv y101.2.2.1), (.bool y101.2.2.2.1), (iv y101.2.2.2.2), (iv p0.on)] 77, ow Ap0_3 cp0_3 107 zJ p0.image] (U := (Option Addr × Nat)) (fun u => (iv y110.1)) (fun O W u => SlF u.1 (y110.2).length u.2) (fun u => [bx bp0 #[(iv p0.p.Unit), (.slice Ap0_0 (p0.p.Tools).length cp0_0), (.slice Ap0_1 (p0.p.Steps).length cp0_1), (.slice Ap0_2 (p0.tools).length cp0_2), (.slice u.1 (y110.2).length u.2), (.bool p0.clear), (iv p0.tool), (iv y101.2.1), (iv y101.2.2.1), (.bool y101.2.2.2.1), (iv y101.2.2.2.2), (iv p0.on)] 77, ow u.1 u.2 107 zJ y110.2]) rfl (zM rfl (zM rfl zY)) (fun _ => rfl) (wn rfl) rfl Tryz.call125 (zF rfl (zF rfl zO)) (fun W hW hp hE => F_plot_machine__draw_ok N (zAA.mk p0.p p0.tools p0.image p0.clear p0.tool (zI.mk y101.2.1 y101.2.2.1) y101.2.2.2.1 y101.2.2.2.2 p0.on) Ap0_0 cp0_0 (hp0_0.ext (hW.extS hp)) Ap0_1 cp0_1 (hp0_1.ext (hW.extS hp)) Ap0_2 cp0_2 (hp0_2.ext (hW.extS hp)) Ap0_3 cp0_3 bp0 y106 Ay106_0 cy106_0 (hz108.extO (hW.extS hp)) y110 hy110 hE) ?_
   intro w u le111 hu
   obtain ⟨Ay110_0, cy110_0⟩ := u
   have gy110_0 := hu
   replace hp0_0 := hp0_0.leR le111
   replace hp0_1 := hp0_1.leR le111
   replace hp0_2 := hp0_2.leR le111
   replace hcu105 := le111.ext.cells hRu105 hcu105
   replace hRu105 := le111.r _ hRu105
   replace hoku105_0 := hoku105_0.leR le111
   replace hz108 := hz108.le le111
   replace leB := leB.trans le111
   have hgy110_0 : SlF Ay110_0 (y110.2).length cy110_0 := gy110_0 --@phi
   show Tr _ _ (uf _ 34 (iv y110.1)) (up (up _ 1 (ow Ay110_0 cy110_0 107 zJ y110.2)) 0 (bx bp0 #[(iv p0.p.Unit), (.slice Ap0_0 (p0.p.Tools).length cp0_0), (.slice Ap0_1 (p0.p.Steps).length cp0_1), (.slice Ap0_2 (p0.tools).length cp0_2), (.slice Ay110_0 (y110.2).length cy110_0), (.bool p0.clear), (iv p0.tool), (iv y101.2.1), (iv y101.2.2.1), (.bool y101.2.2.2.1), (iv y101.2.2.2.2), (iv p0.on)] 77)) _
   refine Tr.asg rfl rfl ?_
   refine Tr.nil (Tr.zA ?_)
   refine Tr.ret ?_
   obtain rfl := Option.some.inj H
   exact Tr.out (m := [(iv y110.1)]) [] (zP rfl zQ) (fun W hW => ⟨w, (Ay110_0, cy110_0), leB, rfl, hgy110_0, hW.pick (ks := [0, 1]) (by decide) (zM rfl (zM rfl zY))⟩)

theorem F_plot_machine__set__f0_11_ok {w : Bs} (p0 : zAA) (Ap0_0 : Option Addr) (cp0_0 : Nat) (hp0_0 : Sl w.R w.W zK Ap0_0 cp0_0 p0.p.Tools) (Ap0_1 : Option Addr) (cp0_1 : Nat) (hp0_1 : Sl w.R w.W zG Ap0_1 cp0_1 p0.p.Steps) (Ap0_2 : Option Addr) (cp0_2 : Nat) (hp0_2 : Sl w.R w.W fl_LTBand Ap0_2 cp0_2 p0.tools) (Ap0_3 : Option Addr) (cp0_3 : Nat) (hp0_3 : Sl w.R w.W zJ Ap0_3 cp0_3 p0.image) (bp0 : Nat) (p1 : zI) (r : (Int × Int × Int × Bool × Int)) (H : F_plot_machine__set__f0_11 p0 p1 = some r) (hE : HF w w.W (LEn [bx bp0 #[(iv p0.p.Unit), (.slice Ap0_0 (p0.p.Tools).length cp0_0), (.slice Ap0_1 (p0.p.Steps).length cp0_1), (.slice Ap0_2 (p0.tools).length cp0_2), (.slice Ap0_3 (p0.image).length cp0_3), (.bool p0.clear), (iv p0.tool), (iv p0.place.X), (iv p0.place.Y), (.bool p0.placed), (iv p0.off), (iv p0.on)] 77])) : Calls Tryz.prog 104 [(.pointer (some ⟨bp0, 0, none⟩)), (.agg #[(iv p1.X), (iv p1.Y)]), (.pointer (some ⟨bp0, 11, none⟩))].toArray w.W fun e W' => ∃ u : Unit, e = .returned (iv r.1) ∧ (True) ∧ HF w W' (LEn [bx bp0 #[(iv p0.p.Unit), (.slice Ap0_0 (p0.p.Tools).length cp0_0), (.slice Ap0_1 (p0.p.Steps).length cp0_1), (.slice Ap0_2 (p0.tools).length cp0_2), (.slice Ap0_3 (p0.image).length cp0_3), (.bool p0.clear), (iv p0.tool), (iv r.2.1), (iv r.2.2.1), (.bool r.2.2.2.1), (iv p0.off), (iv r.2.2.2.2)] 77]) := by
 unfold F_plot_machine__set__f0_11 at H
 have leB := Bs.Le.refl w
 refine Tr.enter (n := 32) Tryz.func104 rfl rfl rfl hE ?_
 refine Tr.sr ?_
 refine Tr.box 1 (cs := [(iv p1.X), (iv p1.Y)]) (wn rfl) rfl rfl rfl fun b100 => ?_
 refine Tr.asg rfl rfl ?_
 refine Tr.nil (Tr.zA ?_)
 refine Tr.seq ?_
 refine Tr.sr ?_
 refine Tr.va rfl (fun _ _ h1 h2 => zR (cs := [(iv p1.X), (iv p1.Y)]) ag_43 sz_43 (h1.ev rfl) (zL.take (rdb h2 (vs := [(iv p1.X), (iv p1.Y)]) (k := 1) rfl 0) 2) rfl) ?_
 obtain ⟨y101, hy101, H⟩ := bnd H
 refine Tr.call0 (r := (.bool y101)) (wn rfl) rfl Tryz.call123 (zF rfl zO) (fun W hW => F_shape_IsPoint_ok p1 y101 hy101 (HF.start _)) ?_
 refine Tr.va rfl (fun _ _ h1 h2 => run_not (h1.ev rfl)) ?_
 refine Tr.nil (Tr.zA ?_)
 refine Tr.cond rfl H (fun H => ?_) (fun H => ?_)
 ·refine Tr.sr ?_
  refine Tr.asg rfl rfl ?_
  refine Tr.nil (Tr.zA ?_)
  refine Tr.ret (Tr.zU ?_)
  obtain rfl := Option.some.inj H
  exact Tr.out (m := [(iv 1)]) [] (zP rfl zQ) (fun W hW => ⟨(), rfl, trivial, HF.lowE leB (hW.pick (ks := [0]) (by decide) (zM rfl zY)) ⟨bx_any _ _ _, trivial⟩⟩)
 ·refine Tr.skip (Tr.zA ?_)
  have leJ104 := Bs.Le.refl w
  refine Tr.cutJ (σ := Int) (fun w s => F_plot_machine__set__f0_11_J1 p1 s = some r) (fun s => [(0, (.pointer (some ⟨bp0, 0, none⟩))), (4, (.pointer (some ⟨b100, 0, none⟩)))]) (fun s => [(0, bx bp0 #[(iv p0.p.Unit), (.slice Ap0_0 (p0.p.Tools).length cp0_0), (.slice Ap0_1 (p0.p.Steps).length cp0_1), (.slice Ap0_2 (p0.tools).length cp0_2), (.slice Ap0_3 (p0.image).length cp0_3), (.bool p0.clear), (iv p0.tool), (iv p0.place.X), (iv p0.place.Y), (.bool p0.placed), (iv p0.off), (iv s)] 77), (1, bx b100 #[(iv p1.X), (iv p1.Y)] 43)]) ?_ ?_
  ·refine Tr.sr ?_
   refine Tr.mv rfl rfl ?_
   refine Tr.va rfl (fun _ _ h1 h2 => zb (h1.ev rfl)) ?_
   refine Tr.va rfl (fun _ _ h1 h2 => zB fo_77_6 (h1.ev rfl)) ?_
   refine Tr.va rfl (fun _ _ h1 h2 => zC ag_4 (h1.ev rfl) (rdb h2 (vs := [(iv p0.p.Unit), (.slice Ap0_0 (p0.p.Tools).length cp0_0), (.slice Ap0_1 (p0.p.Steps).length cp0_1), (.slice Ap0_2 (p0.tools).length cp0_2), (.slice Ap0_3 (p0.image).length cp0_3), (.bool p0.clear), (iv p0.tool), (iv p0.place.X), (iv p0.place.Y), (.bool p0.placed), (iv p0.off), (iv p0.on)]) (k := 0) rfl 9) rfl) ?_
   refine Tr.nil (Tr.zA ?_)
   refine Tr.cond rfl H (fun H => ?_) (fun H => ?_)
   ·refine Tr.drawTail 9 (by kernel_rfl) (by kernel_rfl) ?_
    refine Tq.mv rfl rfl ?_
    refine Tq.va rfl (fun _ _ h1 h2 => zb (h1.ev rfl)) ?_
    refine Tq.va rfl (fun _ _ h1 h2 => zC ag_3 (h1.ev rfl) (rdb h2 (vs := [(iv p0.p.Unit), (.slice Ap0_0 (p0.p.Tools).length cp0_0), (.slice Ap0_1 (p0.p.Steps).length cp0_1), (.slice Ap0_2 (p0.tools).length cp0_2), (.slice Ap0_3 (p0.image).length cp0_3), (.bool p0.clear), (iv p0.tool), (iv p0.place.X), (iv p0.place.Y), (.bool p0.placed), (iv p0.off), (iv p0.on)]) (k := 0) rfl 11) rfl) ?_
    refine Tq.mv rfl rfl ?_
    refine Tq.va rfl (fun _ _ h1 h2 => zb (h1.ev rfl)) ?_
    refine Tq.va rfl (fun _ _ h1 h2 => zB fo_77_5 (h1.ev rfl)) ?_
    refine Tq.va rfl (fun _ _ h1 h2 => zR (cs := [(iv p0.place.X), (iv p0.place.Y)]) ag_43 sz_43 (h1.ev rfl) (zL.take (rdb h2 (vs := [(iv p0.p.Unit), (.slice Ap0_0 (p0.p.Tools).length cp0_0), (.slice Ap0_1 (p0.p.Steps).length cp0_1), (.slice Ap0_2 (p0.tools).length cp0_2), (.slice Ap0_3 (p0.image).length cp0_3), (.bool p0.clear), (iv p0.tool), (iv p0.place.X), (iv p0.place.Y), (.bool p0.placed), (iv p0.off), (iv p0.on)]) (k := 0) rfl 7) 2) rfl) ?_
    refine Tq.va rfl (fun _ _ h1 h2 => zR (cs := [(iv p1.X), (iv p1.Y)]) ag_43 sz_43 (h1.ev rfl) (zL.take (rdb h2 (vs := [(iv p1.X), (iv p1.Y)]) (k := 1) rfl 0) 2) rfl) ?_
    obtain ⟨y106, hy106, H⟩ := bnd H
    refine Tq.call0 (r := (iv y106)) (wn rfl) rfl Tryz.call124 (zF rfl (zF rfl zO)) (fun W hW => F_plot_far_ok p0.place p1 y106 hy106 (HF.start _)) ?_
    refine Tq.nil ?_
    refine Tr.va rfl (fun _ _ h1 h2 => zx (h1.ev rfl) (h1.ev rfl)) ?_
    refine Tr.va rfl (fun _ _ h1 h2 => zb (h1.ev rfl)) ?_
    refine Tr.store 0 (cs := [(iv (w64 (p0.on + y106)))]) [(iv p0.p.Unit), (.slice Ap0_0 (p0.p.Tools).length cp0_0), (.slice Ap0_1 (p0.p.Steps).length cp0_1), (.slice Ap0_2 (p0.tools).length cp0_2), (.slice Ap0_3 (p0.image).length cp0_3), (.bool p0.clear), (iv p0.tool), (iv p0.place.X), (iv p0.place.Y), (.bool p0.placed), (iv p0.off), (iv (w64 (p0.on + y106)))] (wn rfl) rfl rfl rfl rfl sz_3 rfl rfl rfl ?_
    refine Tr.nil ?_
    exact Tr.zZ leJ104 (w64 (p0.on + y106)) H (.cons rfl (.cons rfl .nil)) (.cons rfl (.cons rfl .nil))
   ·refine Tr.skip ?_
    exact Tr.zZ leJ104 p0.on H (.cons rfl (.cons rfl .nil)) (.cons rfl (.cons rfl .nil))
  ·intro w x103 hlJ105 hs
   have H := hs
   replace H : F_plot_machine__set__f0_11_J1 p1 x103 = some r := H
   replace hp0_0 := hp0_0.leR hlJ105
   replace hp0_1 := hp0_1.leR hlJ105
   replace hp0_2 := hp0_2.leR hlJ105
   replace hp0_3 := hp0_3.leR hlJ105
   replace leB := leB.trans hlJ105
   unfold F_plot_machine__set__f0_11_J1 at H
   show Tr _ _ (LF [(0, (.pointer (some ⟨bp0, 0, none⟩))), (4, (.pointer (some ⟨b100, 0, none⟩)))]) (LE [(0, bx bp0 #[(iv p0.p.Unit), (.slice Ap0_0 (p0.p.Tools).length cp0_0), (.slice Ap0_1 (p0.p.Steps).length cp0_1), (.slice Ap0_2 (p0.tools).length cp0_2), (.slice Ap0_3 (p0.image).length cp0_3), (.bool p0.clear), (iv p0.tool), (iv p0.place.X), (iv p0.place.Y), (.bool p0.placed), (iv p0.off), (iv x103)] 77), (1, bx b100 #[(iv p1.X), (iv p1.Y)] 43)]) _
   refine Tr.sr ?_
   refine Tr.mv rfl rfl ?_
   refine Tr.mv rfl rfl ?_
   refine Tr.va rfl (fun _ _ h1 h2 => zR (cs := [(iv p1.X), (iv p1.Y)]) ag_43 sz_43 (h1.ev rfl) (zL.take (rdb h2 (vs := [(iv p1.X), (iv p1.Y)]) (k := 1) rfl 0) 2) rfl) ?_
   refine Tr.va rfl (fun _ _ h1 h2 => zb (h1.ev rfl)) ?_
   refine Tr.va rfl (fun _ _ h1 h2 => zB fo_77_5 (h1.ev rfl)) ?_
   refine Tr.store 0 (cs := [(iv p1.X), (iv p1.Y)]) [(iv p0.p.Unit), (.slice Ap0_0 (p0.p.Tools).length cp0_0), (.slice Ap0_1 (p0.p.Steps).length cp0_1), (.slice Ap0_2 (p0.tools).length cp0_2), (.slice Ap0_3 (p0.image).length cp0_3), (.bool p0.clear), (iv p0.tool), (iv p1.X), (iv p1.Y), (.bool p0.placed), (iv p0.off), (iv x103)] (wn rfl) rfl rfl rfl rfl sz_43 rfl rfl rfl ?_
   refine Tr.va rfl (fun _ _ h1 h2 => zb (h1.ev rfl)) ?_
   refine Tr.va rfl (fun _ _ h1 h2 => zB fo_77_6 (h1.ev rfl)) ?_
   refine Tr.store 0 (cs := [(.bool true)]) [(iv p0.p.Unit), (.slice Ap0_0 (p0.p.Tools).length cp0_0), (.slice Ap0_1 (p0.p.Steps).length cp0_1), (.slice Ap0_2 (p0.tools).length cp0_2), (.slice Ap0_3 (p0.image).length cp0_3), (.bool p0.clear), (iv p0.tool), (iv p1.X), (iv p1.Y), (.bool true), (iv p0.off), (iv x103)] (wn rfl) rfl rfl rfl rfl sz_4 rfl rfl rfl ?_
   refine Tr.nil (Tr.zA ?_)
   refine Tr.sr ?_
   refine Tr.asg rfl rfl ?_
   refine Tr.nil (Tr.zA ?_)
   refine Tr.ret ?_
   obtain rfl := Option.some.inj H
   exact Tr.out (m := [(iv 0)]) [] (zP rfl zQ) (fun W hW => ⟨(), rfl, trivial, HF.lowE leB (hW.pick (ks := [0]) (by decide) (zM rfl zY)) ⟨bx_any _ _ _, trivial⟩⟩)

theorem F_plot_machine__line_ok (N : Nat) {w : Bs} (p0 : zAA) (Ap0_0 : Option Addr) (cp0_0 : Nat) (hp0_0 : Sl w.R w.W zK Ap0_0 cp0_0 p0.p.Tools) (Ap0_1 : Option Addr) (cp0_1 : Nat) (hp0_1 : Sl w.R w.W zG Ap0_1 cp0_1 p0.p.Steps) (Ap0_2 : Option Addr) (cp0_2 : Nat) (hp0_2 : Sl w.R w.W fl_LTBand Ap0_2 cp0_2 p0.tools) (Ap0_3 : Option Addr) (cp0_3 : Nat) (bp0 : Nat) (p1 : zI) (r : (Int × Int × Int × Bool × Int × (List zV))) (H : F_plot_machine__line N p0 p1 = some r) (hE : HF w w.W (LEn [bx bp0 #[(iv p0.p.Unit), (.slice Ap0_0 (p0.p.Tools).length cp0_0), (.slice Ap0_1 (p0.p.Steps).length cp0_1), (.slice Ap0_2 (p0.tools).length cp0_2), (.slice Ap0_3 (p0.image).length cp0_3), (.bool p0.clear), (iv p0.tool), (iv p0.place.X), (iv p0.place.Y), (.bool p0.placed), (iv p0.off), (iv p0.on)] 77, ow Ap0_3 cp0_3 107 zJ p0.image])) : Calls Tryz.prog 106 [(.pointer (some ⟨bp0, 0, none⟩)), (.agg #[(iv p1.X), (iv p1.Y)])].toArray w.W fun e W' => ∃ (w' : Bs) (u : (Option Addr × Nat)), w.Le w' ∧ e = .returned (iv r.1) ∧ (SlF u.1 (r.2.2.2.2.2).length u.2) ∧ HF w' W' (LEn [bx bp0 #[(iv p0.p.Unit), (.slice Ap0_0 (p0.p.Tools).length cp0_0), (.slice Ap0_1 (p0.p.Steps).length cp0_1), (.slice Ap0_2 (p0.tools).length cp0_2), (.slice u.1 (r.2.2.2.2.2).length u.2), (.bool p0.clear), (iv p0.tool), (iv r.2.1), (iv r.2.2.1), (.bool r.2.2.2.1), (iv p0.off), (iv r.2.2.2.2.1)] 77, ow u.1 u.2 107 zJ r.2.2.2.2.2]) := by
 unfold F_plot_machine__line at H
 have hfhp0_3 := (hE.sl (k := 1) rfl).form
 have leB := Bs.Le.refl w
 refine Tr.enter (n := 65) Tryz.func106 rfl rfl rfl hE ?_
 refine Tr.sr ?_
 refine Tr.box 2 (cs := [(iv p1.X), (iv p1.Y)]) (wn rfl) rfl rfl rfl fun b100 => ?_
 refine Tr.asg rfl rfl ?_
 refine Tr.nil (Tr.zA ?_)
 refine Tr.seq ?_
 refine Tr.sr ?_
 refine Tr.mv rfl rfl ?_
 refine Tr.va rfl (fun _ _ h1 h2 => zb (h1.ev rfl)) ?_
 refine Tr.va rfl (fun _ _ h1 h2 => zB fo_77_4 (h1.ev rfl)) ?_
 refine Tr.va rfl (fun _ _ h1 h2 => zC ag_3 (h1.ev rfl) (rdb h2 (vs := [(iv p0.p.Unit), (.slice Ap0_0 (p0.p.Tools).length cp0_0), (.slice Ap0_1 (p0.p.Steps).length cp0_1), (.slice Ap0_2 (p0.tools).length cp0_2), (.slice Ap0_3 (p0.image).length cp0_3), (.bool p0.clear), (iv p0.tool), (iv p0.place.X), (iv p0.place.Y), (.bool p0.placed), (iv p0.off), (iv p0.on)]) (k := 0) rfl 6) rfl) ?_
 refine Tr.va rfl (fun _ _ h1 h2 => zz (h1.ev rfl) (h1.ev rfl)) ?_
 refine Tr.mv rfl rfl ?_
 refine Tr.mid0 6 [(0, (.pointer (some ⟨bp0, 0, none⟩))), (3, (.pointer (some ⟨b100, 0, none⟩))), (18, (.bool ((decide (p0.tool < 0)) || (!p0.placed))))] [(0, bx bp0 #[(iv p0.p.Unit), (.slice Ap0_0 (p0.p.Tools).length cp0_0), (.slice Ap0_1 (p0.p.Steps).length cp0_1), (.slice Ap0_2 (p0.tools).length cp0_2), (.slice Ap0_3 (p0.image).length cp0_3), (.bool p0.clear), (iv p0.tool), (iv p0.place.X), (iv p0.place.Y), (.bool p0.placed), (iv p0.off), (iv p0.on)] 77), (1, ow Ap0_3 cp0_3 107 zJ p0.image), (2, bx b100 #[(iv p1.X), (iv p1.Y)] 43)] ?_ ?_
 ·cases hg112 : (decide (p0.tool < 0))
  ·refine Tr.val (wg rfl rfl rfl) rfl (fun _ _ h1 h2 => run_move (h1.ev rfl)) ?_
   refine Tr.val (wg rfl rfl rfl) rfl (fun _ _ h1 h2 => zb (h1.ev rfl)) ?_
   refine Tr.val (wg rfl rfl rfl) rfl (fun _ _ h1 h2 => zB fo_77_6 (h1.ev rfl)) ?_
   refine Tr.val (wg rfl rfl rfl) rfl (fun _ _ h1 h2 => zC ag_4 (h1.ev rfl) (rdb h2 (vs := [(iv p0.p.Unit), (.slice Ap0_0 (p0.p.Tools).length cp0_0), (.slice Ap0_1 (p0.p.Steps).length cp0_1), (.slice Ap0_2 (p0.tools).length cp0_2), (.slice Ap0_3 (p0.image).length cp0_3), (.bool p0.clear), (iv p0.tool), (iv p0.place.X), (iv p0.place.Y), (.bool p0.placed), (iv p0.off), (iv p0.on)]) (k := 0) rfl 9) rfl) ?_
   refine Tr.val (wg rfl rfl rfl) rfl (fun _ _ h1 h2 => run_not (h1.ev rfl)) ?_
   refine Tr.va rfl (fun _ _ h1 h2 => zf (h1.ev rfl) (h1.ev rfl)) ?_
   exact Tr.nil (Tr.fin0 (.cons rfl (.cons rfl (.cons rfl .nil))) (.cons rfl (.cons rfl (.cons rfl .nil))))
  ·refine Tr.pass rfl rfl rfl rfl rfl (by decide) ?_
   refine Tr.pass rfl rfl rfl rfl rfl (by decide) ?_
   refine Tr.pass rfl rfl rfl rfl rfl (by decide) ?_
   refine Tr.pass rfl rfl rfl rfl rfl (by decide) ?_
   refine Tr.pass rfl rfl rfl rfl rfl (by decide) ?_
   refine Tr.va rfl (fun _ _ h1 h2 => ze (h1.ev rfl) (h1.ev rfl)) ?_
   exact Tr.nil (Tr.fin0 (.cons rfl (.cons rfl (.cons rfl .nil))) (.cons rfl (.cons rfl (.cons rfl .nil))))
 ·show Tr _ _ (LF [(0, (.pointer (some ⟨bp0, 0, none⟩))), (3, (.pointer (some ⟨b100, 0, none⟩))), (18, (.bool ((decide (p0.tool < 0)) || (!p0.placed))))]) (LE [(0, bx bp0 #[(iv p0.p.Unit), (.slice Ap0_0 (p0.p.Tools).length cp0_0), (.slice Ap0_1 (p0.p.Steps).length cp0_1), (.slice Ap0_2 (p0.tools).length cp0_2), (.slice Ap0_3 (p0.image).length cp0_3), (.bool p0.clear), (iv p0.tool), (iv p0.place.X), (iv p0.place.Y), (.bool p0.placed), (iv p0.off), (iv p0.on)] 77), (1, ow Ap0_3 cp0_3 107 zJ p0.image), (2, bx b100 #[(iv p1.X), (iv p1.Y)] 43)]) _
  refine Tr.nil (Tr.zA ?_)
  refine Tr.cond rfl H (fun H => ?_) (fun H => ?_)
  ·refine Tr.sr ?_
   refine Tr.asg rfl rfl ?_
   refine Tr.nil (Tr.zA ?_)
   refine Tr.ret (Tr.zU ?_)
   obtain rfl := Option.some.inj H
   exact Tr.out (m := [(iv 11)]) [] (zP rfl zQ) (fun W hW => ⟨w, (Ap0_3, cp0_3), leB, rfl, hfhp0_3, hW.pick (ks := [0, 1]) (by decide) (zM rfl (zM rfl zY))⟩)
  ·refine Tr.skip (Tr.zA ?_)
   refine Tr.seq ?_
   refine Tr.seq ?_
   refine Tr.draw (by kernel_rfl) (by kernel_rfl) ?_
   refine Tq.va rfl (fun _ _ h1 h2 => zB fo_43_0 (h1.ev rfl)) ?_
   refine Tq.va rfl (fun _ _ h1 h2 => zC ag_3 (h1.ev rfl) (rdb h2 (vs := [(iv p1.X), (iv p1.Y)]) (k := 2) rfl 0) rfl) ?_
   refine Tq.mv rfl rfl ?_
   refine Tq.va rfl (fun _ _ h1 h2 => zb (h1.ev rfl)) ?_
   refine Tq.va rfl (fun _ _ h1 h2 => zB fo_77_5 (h1.ev rfl)) ?_
   refine Tq.va rfl (fun _ _ h1 h2 => zB fo_43_0 (h1.ev rfl)) ?_
   refine Tq.va rfl (fun _ _ h1 h2 => zC ag_3 (h1.ev rfl) (rdb h2 (vs := [(iv p0.p.Unit), (.slice Ap0_0 (p0.p.Tools).length cp0_0), (.slice Ap0_1 (p0.p.Steps).length cp0_1), (.slice Ap0_2 (p0.tools).length cp0_2), (.slice Ap0_3 (p0.image).length cp0_3), (.bool p0.clear), (iv p0.tool), (iv p0.place.X), (iv p0.place.Y), (.bool p0.placed), (iv p0.off), (iv p0.on)]) (k := 0) rfl 7) rfl) ?_
   refine Tq.va rfl (fun _ _ h1 h2 => run_neq (h1.ev rfl) (h1.ev rfl)) ?_
   refine Tq.mv rfl rfl ?_
   refine Tq.mid 9 [(0, (.pointer (some ⟨bp0, 0, none⟩))), (3, (.pointer (some ⟨b100, 0, none⟩))), (36, (.bool ((p1.X != p0.place.X) && (p1.Y != p0.place.Y))))] ?_ ?_
   ·cases hg112 : (p1.X != p0.place.X)
    ·refine Tq.pass rfl rfl rfl rfl rfl (by decide) ?_
     refine Tq.pass rfl rfl rfl rfl rfl (by decide) ?_
     refine Tq.pass rfl rfl rfl rfl rfl (by decide) ?_
     refine Tq.pass rfl rfl rfl rfl rfl (by decide) ?_
     refine Tq.pass rfl rfl rfl rfl rfl (by decide) ?_
     refine Tq.pass rfl rfl rfl rfl rfl (by decide) ?_
     refine Tq.pass rfl rfl rfl rfl rfl (by decide) ?_
     refine Tq.pass rfl rfl rfl rfl rfl (by decide) ?_
     refine Tq.va rfl (fun _ _ h1 h2 => zf (h1.ev rfl) (h1.ev rfl)) ?_
     exact Tq.fin (.cons rfl (.cons rfl (.cons rfl .nil)))
    ·refine Tq.val (wg rfl rfl rfl) rfl (fun _ _ h1 h2 => zB fo_43_1 (h1.ev rfl)) ?_
     refine Tq.val (wg rfl rfl rfl) rfl (fun _ _ h1 h2 => zC ag_3 (h1.ev rfl) (rdb h2 (vs := [(iv p1.X), (iv p1.Y)]) (k := 2) rfl 1) rfl) ?_
     refine Tq.val (wg rfl rfl rfl) rfl (fun _ _ h1 h2 => run_move (h1.ev rfl)) ?_
     refine Tq.val (wg rfl rfl rfl) rfl (fun _ _ h1 h2 => zb (h1.ev rfl)) ?_
     refine Tq.val (wg rfl rfl rfl) rfl (fun _ _ h1 h2 => zB fo_77_5 (h1.ev rfl)) ?_
     refine Tq.val (wg rfl rfl rfl) rfl (fun _ _ h1 h2 => zB fo_43_1 (h1.ev rfl)) ?_
     refine Tq.val (wg rfl rfl rfl) rfl (fun _ _ h1 h2 => zC ag_3 (h1.ev rfl) (rdb h2 (vs := [(iv p0.p.Unit), (.slice Ap0_0 (p0.p.Tools).length cp0_0), (.slice Ap0_1 (p0.p.Steps).length cp0_1), (.slice Ap0_2 (p0.tools).length cp0_2), (.slice Ap0_3 (p0.image).length cp0_3), (.bool p0.clear), (iv p0.tool), (iv p0.place.X), (iv p0.place.Y), (.bool p0.placed), (iv p0.off), (iv p0.on)]) (k := 0) rfl 8) rfl) ?_
     refine Tq.val (wg rfl rfl rfl) rfl (fun _ _ h1 h2 => run_neq (h1.ev rfl) (h1.ev rfl)) ?_
     refine Tq.va rfl (fun _ _ h1 h2 => ze (h1.ev rfl) (h1.ev rfl)) ?_
     exact Tq.fin (.cons rfl (.cons rfl (.cons rfl .nil)))
   ·refine Tq.nil (Tr.zA ?_)
    refine Tr.cond rfl H (fun H => ?_) (fun H => ?_)
    ·refine Tr.sr ?_
     refine Tr.asg rfl rfl ?_
     refine Tr.nil (Tr.zA ?_)
     refine Tr.ret (Tr.zU ?_)
     obtain rfl := Option.some.inj H
     exact Tr.out (m := [(iv 3)]) [] (zP rfl zQ) (fun W hW => ⟨w, (Ap0_3, cp0_3), leB, rfl, hfhp0_3, hW.pick (ks := [0, 1]) (by decide) (zM rfl (zM rfl zY))⟩)
    ·refine Tr.skip (Tr.zA ?_)
     refine Tr.sr ?_
     refine Tr.mv rfl rfl ?_
     refine Tr.va rfl (fun _ _ h1 h2 => zb (h1.ev rfl)) ?_
     refine Tr.va rfl (fun _ _ h1 h2 => zB fo_77_5 (h1.ev rfl)) ?_
     refine Tr.va rfl (fun _ _ h1 h2 => zR (cs := [(iv p0.place.X), (iv p0.place.Y)]) ag_43 sz_43 (h1.ev rfl) (zL.take (rdb h2 (vs := [(iv p0.p.Unit), (.slice Ap0_0 (p0.p.Tools).length cp0_0), (.slice Ap0_1 (p0.p.Steps).length cp0_1), (.slice Ap0_2 (p0.tools).length cp0_2), (.slice Ap0_3 (p0.image).length cp0_3), (.bool p0.clear), (iv p0.tool), (iv p0.place.X), (iv p0.place.Y), (.bool p0.placed), (iv p0.off), (iv p0.on)]) (k := 0) rfl 7) 2) rfl) ?_
     refine Tr.alloc 3 (wn rfl) rfl ze_43 fun b101 => ?_
     refine Tr.store 3 (cs := [(iv p0.place.X), (iv p0.place.Y)]) [(iv p0.place.X), (iv p0.place.Y)] (wn rfl) rfl rfl rfl rfl sz_43 rfl rfl rfl ?_
     refine Tr.nil (Tr.zA ?_)
     refine Tr.seq ?_
     refine Tr.seq ?_
     refine Tr.drawTail 5 (by kernel_rfl) (by kernel_rfl) ?_
     refine Tq.mv rfl rfl ?_
     refine Tq.va rfl (fun _ _ h1 h2 => zR (cs := [(iv p1.X), (iv p1.Y)]) ag_43 sz_43 (h1.ev rfl) (zL.take (rdb h2 (vs := [(iv p1.X), (iv p1.Y)]) (k := 2) rfl 0) 2) rfl) ?_
     refine Tq.mv rfl rfl ?_
     refine Tq.va rfl (fun _ _ h1 h2 => zb (h1.ev rfl)) ?_
     refine Tq.va rfl (fun _ _ h1 h2 => zB fo_77_8 (h1.ev rfl)) ?_
     refine Tq.nil ?_
     obtain ⟨y102, hy102, H⟩ := bnd H
     refine Tr.callM [0] [bx bp0 #[(iv p0.p.Unit), (.slice Ap0_0 (p0.p.Tools).length cp0_0), (.slice Ap0_1 (p0.p.Steps).length cp0_1), (.slice Ap0_2 (p0.tools).length cp0_2), (.slice Ap0_3 (p0.image).length cp0_3), (.bool p0.clear), (iv p0.tool), (iv p0.place.X), (iv p0.place.Y), (.bool p0.placed), (iv p0.off), (iv p0.on)] 77] (U := Unit) (fun u => (iv y102.1)) (fun u => True) (fun u => [bx bp0 #[(iv p0.p.Unit), (.slice Ap0_0 (p0.p.Tools).length cp0_0), (.slice Ap0_1 (p0.p.Steps).length cp0_1), (.slice Ap0_2 (p0.tools).length cp0_2), (.slice Ap0_3 (p0.image).length cp0_3), (.bool p0.clear), (iv p0.tool), (iv y102.2.1), (iv y102.2.2.1), (.bool y102.2.2.2.1), (iv p0.off), (iv y102.2.2.2.2)] 77]) rfl (zM rfl zY) (fun _ => rfl) (wn rfl) rfl Tryz.call104 (zF rfl (zF rfl (zF rfl zO))) (fun W hW hp hE => F_plot_machine__set__f0_11_ok p0 Ap0_0 cp0_0 (hp0_0.ext (hW.extS hp)) Ap0_1 cp0_1 (hp0_1.ext (hW.extS hp)) Ap0_2 cp0_2 (hp0_2.ext (hW.extS hp)) Ap0_3 cp0_3 (hW.slS (k := 1) rfl hp rfl) bp0 p1 y102 hy102 hE) ?_
     intro u hu
     show Tr _ _ (uf _ 46 (iv y102.1)) (up _ 0 (bx bp0 #[(iv p0.p.Unit), (.slice Ap0_0 (p0.p.Tools).length cp0_0), (.slice Ap0_1 (p0.p.Steps).length cp0_1), (.slice Ap0_2 (p0.tools).length cp0_2), (.slice Ap0_3 (p0.image).length cp0_3), (.bool p0.clear), (iv p0.tool), (iv y102.2.1), (iv y102.2.2.1), (.bool y102.2.2.2.1), (iv p0.off), (iv y102.2.2.2.2)] 77)) _
     refine Tr.asg rfl rfl ?_
     refine Tr.nil (Tr.zA ?_)
     refine Tr.sr ?_
     refine Tr.mv rfl rfl ?_
     refine Tr.va rfl (fun _ _ h1 h2 => run_neq (h1.ev rfl) (h1.ev rfl)) ?_
     refine Tr.nil (Tr.zA ?_)
     refine Tr.cond rfl H (fun H => ?_) (fun H => ?_)
     ·refine Tr.sr ?_
      refine Tr.mv rfl rfl ?_
      refine Tr.asg rfl rfl ?_
      refine Tr.nil (Tr.zA ?_)
      refine Tr.ret (Tr.zU ?_)
      obtain rfl := Option.some.inj H
      exact Tr.out (m := [(iv y102.1)]) [] (zP rfl zQ) (fun W hW => ⟨w, (Ap0_3, cp0_3), leB, rfl, hfhp0_3, hW.pick (ks := [0, 1]) (by decide) (zM rfl (zM rfl zY))⟩)
     ·refine Tr.skip (Tr.zA ?_)
      refine Tr.seq ?_
      refine Tr.drawC 14 [] [] (by kernel_rfl) (by kernel_rfl) fun sz104 hlosz104 hEsz104 => ?_
      refine Dr.quiet 0 [(50, (.pointer (some ⟨bp0, 0, none⟩)))] (by kernel_rfl) rfl rfl (by kernel_rfl) ?_ rfl rfl ?_
      ·refine Tq.mv rfl rfl ?_
       exact Tq.fin (.cons rfl .nil)
      refine Dr.quiet 1 [(51, (.pointer (some ⟨bp0, 0, none⟩)))] (by kernel_rfl) rfl rfl (by kernel_rfl) ?_ rfl rfl ?_
      ·refine Tq.mv rfl rfl ?_
       exact Tq.fin (.cons rfl .nil)
      refine Dr.quiet 2 [(52, (.pointer (some ⟨bp0, 0, none⟩)))] (by kernel_rfl) rfl rfl (by kernel_rfl) ?_ rfl rfl ?_
      ·refine Tq.va rfl (fun _ _ h1 h2 => zb (h1.ev rfl)) ?_
       exact Tq.fin (.cons rfl .nil)
      refine Dr.quiet 3 [(53, (.pointer (some ⟨bp0, 3, none⟩)))] (by kernel_rfl) rfl rfl (by kernel_rfl) ?_ rfl rfl ?_
      ·refine Tq.va rfl (fun _ _ h1 h2 => zB fo_77_1 (h1.ev rfl)) ?_
       exact Tq.fin (.cons rfl .nil)
      refine Dr.quiet 4 [(54, (.slice Ap0_2 (p0.tools).length cp0_2))] (by kernel_rfl) rfl rfl (by kernel_rfl) ?_ rfl rfl ?_
      ·refine Tq.va rfl (fun _ _ h1 h2 => zC ag_75 (h1.ev rfl) (rdb h2 (vs := [(iv p0.p.Unit), (.slice Ap0_0 (p0.p.Tools).length cp0_0), (.slice Ap0_1 (p0.p.Steps).length cp0_1), (.slice Ap0_2 (p0.tools).length cp0_2), (.slice Ap0_3 (p0.image).length cp0_3), (.bool p0.clear), (iv p0.tool), (iv y102.2.1), (iv y102.2.2.1), (.bool y102.2.2.2.1), (iv p0.off), (iv y102.2.2.2.2)]) (k := 0) rfl 3) rfl) ?_
       exact Tq.fin (.cons rfl .nil)
      refine Dr.quiet 5 [(55, (.pointer (some ⟨bp0, 0, none⟩)))] (by kernel_rfl) rfl rfl (by kernel_rfl) ?_ rfl rfl ?_
      ·refine Tq.mv rfl rfl ?_
       exact Tq.fin (.cons rfl .nil)
      refine Dr.quiet 6 [(56, (.pointer (some ⟨bp0, 0, none⟩)))] (by kernel_rfl) rfl rfl (by kernel_rfl) ?_ rfl rfl ?_
      ·refine Tq.va rfl (fun _ _ h1 h2 => zb (h1.ev rfl)) ?_
       exact Tq.fin (.cons rfl .nil)
      refine Dr.quiet 7 [(57, (.pointer (some ⟨bp0, 6, none⟩)))] (by kernel_rfl) rfl rfl (by kernel_rfl) ?_ rfl rfl ?_
      ·refine Tq.va rfl (fun _ _ h1 h2 => zB fo_77_4 (h1.ev rfl)) ?_
       exact Tq.fin (.cons rfl .nil)
      refine Dr.quiet 8 [(58, (iv p0.tool))] (by kernel_rfl) rfl rfl (by kernel_rfl) ?_ rfl rfl ?_
      ·refine Tq.va rfl (fun _ _ h1 h2 => zC ag_3 (h1.ev rfl) (rdb h2 (vs := [(iv p0.p.Unit), (.slice Ap0_0 (p0.p.Tools).length cp0_0), (.slice Ap0_1 (p0.p.Steps).length cp0_1), (.slice Ap0_2 (p0.tools).length cp0_2), (.slice Ap0_3 (p0.image).length cp0_3), (.bool p0.clear), (iv p0.tool), (iv y102.2.1), (iv y102.2.2.1), (.bool y102.2.2.2.1), (iv p0.off), (iv y102.2.2.2.2)]) (k := 0) rfl 6) rfl) ?_
       exact Tq.fin (.cons rfl .nil)
      obtain ⟨x105, hx105, H⟩ := bnd H
      obtain ⟨hx1050, hx1051, hx1052⟩ := zh hx105
      obtain ⟨u106, hRu106, hoku106, hcu106⟩ := (hp0_2).el hx1052
      obtain ⟨Au106_0, cu106_0⟩ := u106
      have hoku106_0 := hoku106
      refine Dr.quiet 9 [(59, (.pointer (some ⟨adB Ap0_2, adO Ap0_2 + (p0.tool).toNat * 1, none⟩)))] (by kernel_rfl) rfl rfl (by kernel_rfl) ?_ rfl rfl ?_
      ·replace hoku106_0 : Sl w.R w.W zJ Au106_0 cu106_0 x105 := hoku106_0
       refine Tq.va rfl (fun _ _ h1 h2 => zH el_75 (h1.ev rfl) hp0_2.form (h1.ev rfl) hx1050 hx1051) ?_
       exact Tq.fin (.cons rfl .nil)
      refine Dr.quiet 10 [(60, (.slice Au106_0 (x105).length cu106_0))] (by kernel_rfl) rfl rfl (by kernel_rfl) ?_ rfl rfl ?_
      ·refine Tq.va rfl (fun _ _ h1 h2 => zC ag_66 (h1.ev rfl) (rdR hRu106 hcu106 h2) rfl) ?_
       exact Tq.fin (.cons rfl .nil)
      refine Dr.quiet 11 [(61, (.agg #[(iv p0.place.X), (iv p0.place.Y)]))] (by kernel_rfl) rfl rfl (by kernel_rfl) ?_ rfl rfl ?_
      ·refine Tq.va rfl (fun _ _ h1 h2 => zR (cs := [(iv p0.place.X), (iv p0.place.Y)]) ag_43 sz_43 (h1.ev rfl) (zL.take (rdb h2 (vs := [(iv p0.place.X), (iv p0.place.Y)]) (k := 3) rfl 0) 2) rfl) ?_
       exact Tq.fin (.cons rfl .nil)
      refine Dr.quiet 12 [(62, (.agg #[(iv p1.X), (iv p1.Y)]))] (by kernel_rfl) rfl rfl (by kernel_rfl) ?_ rfl rfl ?_
      ·refine Tq.va rfl (fun _ _ h1 h2 => zR (cs := [(iv p1.X), (iv p1.Y)]) ag_43 sz_43 (h1.ev rfl) (zL.take (rdb h2 (vs := [(iv p1.X), (iv p1.Y)]) (k := 2) rfl 0) 2) rfl) ?_
       exact Tq.fin (.cons rfl .nil)
      obtain ⟨y107, hy107, H⟩ := bnd H
      refine Dr.one 13 (by kernel_rfl) ?_
      refine St.callG 13 [4] [emp] (U := (Option Addr × Nat)) (fun u => (.slice u.1 (y107).length u.2)) (fun O W u => SlF u.1 (y107).length u.2) (fun u => [ow u.1 u.2 107 zJ y107]) rfl (zM rfl zY) (fun _ => rfl) (insS_no rfl) rfl (wn rfl) rfl Tryz.call126 (zF rfl (zF rfl (zF rfl zO))) (fun W hW hp hE => F_plot_swept_ok N x105 Au106_0 cu106_0 (hoku106_0.ext (hW.extS hp)) p0.place p1 y107 hy107 hE) ?_
      intro w u le108 hu hsy107
      obtain ⟨Ay107_0, cy107_0⟩ := u
      have gy107_0 := hu
      replace hp0_0 := hp0_0.leR le108
      replace hp0_1 := hp0_1.leR le108
      replace hp0_2 := hp0_2.leR le108
      replace hcu106 := le108.ext.cells hRu106 hcu106
      replace hRu106 := le108.r _ hRu106
      replace hoku106_0 := hoku106_0.leR le108
      replace leB := leB.trans le108
      have hgy107_0 : SlF Ay107_0 (y107).length cy107_0 := gy107_0
      show Dr _ _ _ _ _ _ _ _ _ (uf _ 63 (.slice Ay107_0 (y107).length cy107_0)) (up _ 4 (ow Ay107_0 cy107_0 107 zJ y107))
      refine Dr.tail (by kernel_rfl) ?_
      refine Tr.freeze 4 rfl fun w le110 hz109 => ?_
      replace hp0_0 := hp0_0.leR le110
      replace hp0_1 := hp0_1.leR le110
      replace hp0_2 := hp0_2.leR le110
      replace hcu106 := le110.ext.cells hRu106 hcu106
      replace hRu106 := le110.r _ hRu106
      replace hoku106_0 := hoku106_0.leR le110
      replace leB := leB.trans le110
      obtain ⟨y111, hy111, H⟩ := bnd H
      refine Tr.callG [0, 1] [bx bp0 #[(iv p0.p.Unit), (.slice Ap0_0 (p0.p.Tools).length cp0_0), (.slice Ap0_1 (p0.p.Steps).length cp0_1), (.slice Ap0_2 (p0.tools).length cp0_2), (.slice Ap0_3 (p0.image).length cp0_3), (.bool p0.clear), (iv p0.tool), (iv y102.2.1), (iv y102.2.2.1), (.bool y102.2.2.2.1), (iv p0.off), (iv y102.2.2.2.2)] 77, ow Ap0_3 cp0_3 107 zJ p0.image] (U := (Option Addr × Nat)) (fun u => (iv y111.1)) (fun O W u => SlF u.1 (y111.2).length u.2) (fun u => [bx bp0 #[(iv p0.p.Unit), (.slice Ap0_0 (p0.p.Tools).length cp0_0), (.slice Ap0_1 (p0.p.Steps).length cp0_1), (.slice Ap0_2 (p0.tools).length cp0_2), (.slice u.1 (y111.2).length u.2), (.bool p0.clear), (iv p0.tool), (iv y102.2.1), (iv y102.2.2.1), (.bool y102.2.2.2.1), (iv p0.off), (iv y102.2.2.2.2)] 77, ow u.1 u.2 107 zJ y111.2]) rfl (zM rfl (zM rfl zY)) (fun _ => rfl) (wn rfl) rfl Tryz.call125 (zF rfl (zF rfl zO)) (fun W hW hp hE => F_plot_machine__draw_ok N (zAA.mk p0.p p0.tools p0.image p0.clear p0.tool (zI.mk y102.2.1 y102.2.2.1) y102.2.2.2.1 p0.off y102.2.2.2.2) Ap0_0 cp0_0 (hp0_0.ext (hW.extS hp)) Ap0_1 cp0_1 (hp0_1.ext (hW.extS hp)) Ap0_2 cp0_2 (hp0_2.ext (hW.extS hp)) Ap0_3 cp0_3 bp0 y107 Ay107_0 cy107_0 (hz109.extO (hW.extS hp)) y111 hy111 hE) ?_
      intro w u le112 hu
      obtain ⟨Ay111_0, cy111_0⟩ := u
      have gy111_0 := hu
      replace hp0_0 := hp0_0.leR le112
      replace hp0_1 := hp0_1.leR le112
      replace hp0_2 := hp0_2.leR le112
      replace hcu106 := le112.ext.cells hRu106 hcu106
      replace hRu106 := le112.r _ hRu106
      replace hoku106_0 := hoku106_0.leR le112
      replace hz109 := hz109.le le112
      replace leB := leB.trans le112
      have hgy111_0 : SlF Ay111_0 (y111.2).length cy111_0 := gy111_0 --@phi
      show Tr _ _ (uf _ 64 (iv y111.1)) (up (up _ 1 (ow Ay111_0 cy111_0 107 zJ y111.2)) 0 (bx bp0 #[(iv p0.p.Unit), (.slice Ap0_0 (p0.p.Tools).length cp0_0), (.slice Ap0_1 (p0.p.Steps).length cp0_1), (.slice Ap0_2 (p0.tools).length cp0_2), (.slice Ay111_0 (y111.2).length cy111_0), (.bool p0.clear), (iv p0.tool), (iv y102.2.1), (iv y102.2.2.1), (.bool y102.2.2.2.1), (iv p0.off), (iv y102.2.2.2.2)] 77)) _
      refine Tr.asg rfl rfl ?_
      refine Tr.nil (Tr.zA ?_)
      refine Tr.ret ?_
      obtain rfl := Option.some.inj H
      exact Tr.out (m := [(iv y111.1)]) [] (zP rfl zQ) (fun W hW => ⟨w, (Ay111_0, cy111_0), leB, rfl, hgy111_0, hW.pick (ks := [0, 1]) (by decide) (zM rfl (zM rfl zY))⟩)

theorem F_shape_Around_1_ok {w : Bs} (p0 : zT) (p1 : zT) (r : Int) (H : F_shape_Around_1 p0 p1 = some r) (hE : HF w w.W E0) : Calls Tryz.prog 157 [(.agg #[(iv p0.X0), (iv p0.Y0), (iv p0.X1), (iv p0.Y1)]), (.agg #[(iv p1.X0), (iv p1.Y0), (iv p1.X1), (iv p1.Y1)])].toArray w.W fun e W' => e = .returned (iv r) ∧ HF w W' E0 := by
 unfold F_shape_Around_1 at H
 have leB := Bs.Le.refl w
 refine Tr.enter (n := 10) Tryz.func157 rfl rfl rfl hE ?_
 refine Tr.sr ?_
 refine Tr.box 1 (cs := [(iv p0.X0), (iv p0.Y0), (iv p0.X1), (iv p0.Y1)]) (wn rfl) rfl rfl rfl fun b100 => ?_
 refine Tr.box 2 (cs := [(iv p1.X0), (iv p1.Y0), (iv p1.X1), (iv p1.Y1)]) (wn rfl) rfl rfl rfl fun b101 => ?_
 refine Tr.asg rfl rfl ?_
 refine Tr.nil (Tr.zA ?_)
 refine Tr.sr ?_
 refine Tr.va rfl (fun _ _ h1 h2 => zB fo_36_0 (h1.ev rfl)) ?_
 refine Tr.va rfl (fun _ _ h1 h2 => zC ag_3 (h1.ev rfl) (rdb h2 (vs := [(iv p0.X0), (iv p0.Y0), (iv p0.X1), (iv p0.Y1)]) (k := 1) rfl 0) rfl) ?_
 refine Tr.va rfl (fun _ _ h1 h2 => zB fo_36_0 (h1.ev rfl)) ?_
 refine Tr.va rfl (fun _ _ h1 h2 => zC ag_3 (h1.ev rfl) (rdb h2 (vs := [(iv p1.X0), (iv p1.Y0), (iv p1.X1), (iv p1.Y1)]) (k := 2) rfl 0) rfl) ?_
 refine Tr.va rfl (fun _ _ h1 h2 => run_sub (h1.ev rfl) (h1.ev rfl)) ?_
 refine Tr.asg rfl rfl ?_
 refine Tr.nil (Tr.zA ?_)
 refine Tr.ret ?_
 obtain rfl := Option.some.inj H
 exact Tr.out (m := [(iv (w64 (p0.X0 - p1.X0)))]) [] (zP rfl zQ) (fun W hW => ⟨rfl, hW.low leB⟩)

theorem F_shape_Around_ok (N : Nat) {w : Bs} (p0 : (List (List zI))) (Ap0_0 : Option Addr) (cp0_0 : Nat) (hp0_0 : Sl w.R w.W fl_LTPoint Ap0_0 cp0_0 p0) (r : (List zV)) (H : F_shape_Around N p0 = some r) (hE : HF w w.W (LEn [emp])) : Calls Tryz.prog 127 [(.slice Ap0_0 (p0).length cp0_0)].toArray w.W fun e W' => ∃ (w' : Bs) (u : (Option Addr × Nat)), w.Le w' ∧ e = .returned (.slice u.1 (r).length u.2) ∧ (SlF u.1 (r).length u.2) ∧ HF w' W' (LEn [ow u.1 u.2 107 zJ r]) := by
 unfold F_shape_Around at H
 have leB := Bs.Le.refl w
 refine Tr.enter (n := 138) Tryz.func127 rfl rfl rfl hE ?_
 refine Tr.sr ?_
 refine Tr.asg rfl rfl ?_
 refine Tr.nilOwn 1 107 zJ ?_
 show Tr _ _ (uf _ 2 (.slice none (([] : List zV)).length 0)) _ _
 refine Tr.nil (Tr.zA ?_)
 refine Tr.sr ?_
 refine Tr.asg rfl rfl ?_
 refine Tr.nilOwn 2 3 zn ?_
 show Tr _ _ (uf _ 3 (.slice none (([] : List Int)).length 0)) _ _
 refine Tr.nil (Tr.zA ?_)
 refine Tr.sr ?_
 refine Tr.asg rfl rfl ?_
 refine Tr.nilOwn 3 36 zN ?_
 show Tr _ _ (uf _ 4 (.slice none (([] : List zT)).length 0)) _ _
 refine Tr.nil (Tr.zA ?_)
 refine Tr.seq ?_
 refine Tr.sr ?_
 refine Tr.mv rfl rfl ?_
 refine Tr.va rfl (fun _ _ h1 h2 => zq un_205 (h1.ev rfl)) ?_
 refine Tr.mv rfl rfl ?_
 refine Tr.nil (Tr.zA ?_)
 refine Tr.block ?_
 refine Tr.loop (σ := (List (List zI)) × Nat × (List Int) × (List zT) × (Option Addr) × Nat × (Option Addr) × Nat) (fun m w s => m = s.1.length + 1 ∧ s.1 = List.drop s.2.1 p0 ∧ s.2.1 ≤ p0.length ∧ F_shape_Around_L3 N s.1 s.2.1 s.2.2.1 s.2.2.2.1 = some r ∧ SlF s.2.2.2.2.1 (s.2.2.1).length s.2.2.2.2.2.1 ∧ SlF s.2.2.2.2.2.2.1 (s.2.2.2.1).length s.2.2.2.2.2.2.2) (fun s => [(3, (.slice s.2.2.2.2.1 (s.2.2.1).length s.2.2.2.2.2.1)), (4, (.slice s.2.2.2.2.2.2.1 (s.2.2.2.1).length s.2.2.2.2.2.2.2)), (16, (.slice Ap0_0 (p0).length cp0_0)), (17, (iv (p0.length : Int))), (18, (iv (s.2.1 : Int)))]) (fun s => [(2, ow s.2.2.2.2.1 s.2.2.2.2.2.1 3 zn s.2.2.1), (3, ow s.2.2.2.2.2.2.1 s.2.2.2.2.2.2.2 36 zN s.2.2.2.1)]) (p0.length + 1) (p0, 0, ([] : List Int), ([] : List zT), none, 0, none, 0) ⟨rfl, rfl, Nat.zero_le _, H, slf_nil, slf_nil⟩ (.cons rfl (.cons rfl (.cons rfl (.cons rfl (.cons rfl .nil))))) (.cons rfl (.cons rfl .nil)) (fun _ _ h => absurd h.1 (by simp)) ?_
 intro w leL3 m s hs
 obtain ⟨restL3, iL3, l187, l188, Al187, cl187, Al188, cl188⟩ := s
 obtain ⟨hmL3, hdL3, hiL3, H, hl187, hl188⟩ := hs
 replace hdL3 : restL3 = List.drop iL3 p0 := hdL3
 replace H : F_shape_Around_L3 N restL3 iL3 l187 l188 = some r := H
 replace hmL3 : m + 1 = restL3.length + 1 := hmL3
 replace hp0_0 := hp0_0.leR leL3
 replace leB := leB.trans leL3
 replace hl187 : SlF Al187 (l187).length cl187 := hl187
 replace hl188 : SlF Al188 (l188).length cl188 := hl188
 obtain rfl : m = restL3.length := by omega
 clear hmL3
 show Tr _ _ (LF [(3, (.slice Al187 (l187).length cl187)), (4, (.slice Al188 (l188).length cl188)), (16, (.slice Ap0_0 (p0).length cp0_0)), (17, (iv (p0.length : Int))), (18, (iv (iL3 : Int)))]) (LE [(2, ow Al187 cl187 3 zn l187), (3, ow Al188 cl188 36 zN l188)]) _
 cases restL3 with
 | nil =>
  rw [F_shape_Around_L3.eq_1] at H
  refine Tr.sr ?_
  refine Tr.va rfl (fun _ _ h1 h2 => zz (h1.ev rfl) (h1.ev rfl)) ?_
  refine Tr.nil (Tr.zA ?_)
  refine Tr.seq ?_
  refine Tr.condF rfl (range_nil hdL3) ?_
  refine Tr.exit (Tr.zX (Tr.zX (Tr.zAC (Tr.zA ?_))))
  refine Tr.sr ?_
  refine Tr.mv rfl rfl ?_
  obtain ⟨y189, hy189, H⟩ := bnd H
  refine Tr.callM [2] [ow Al187 cl187 3 zn l187] (U := Unit) (fun u => (.tuple #[])) (fun u => (y189).length = (l187).length) (fun u => [ow Al187 cl187 3 zn y189]) rfl (zM rfl zY) (fun _ => rfl) (wn rfl) rfl Tryz.call83 (zF rfl zO) (fun W hW hp hE => F_slices_Sort_int_ok l187 Al187 cl187 y189 hy189 hE) ?_
  intro u hu
  have gky189_0 := hu
  have hgky189_0 : (y189).length = (l187).length := gky189_0 --@phi
  have hfky189_0 : SlF Al187 (y189).length cl187 := by rw [hgky189_0]; exact hl187
  show Tr _ _ (uf _ 66 (.tuple #[])) (up _ 2 (ow Al187 cl187 3 zn y189)) _
  refine Tr.sel (lf := [(3, (.slice Al187 (y189).length cl187)), (4, (.slice Al188 (l188).length cl188)), (16, (.slice Ap0_0 (p0).length cp0_0)), (17, (iv (p0.length : Int))), (18, (iv (iL3 : Int))), (19, (.bool (decide ((iL3 : Int) < (p0.length : Int))))), (65, (.slice Al187 (y189).length cl187)), (66, (.tuple #[]))]) (le := [(2, ow Al187 cl187 3 zn y189), (3, ow Al188 cl188 36 zN l188)]) (.cons (slenV rfl (by rw [hgky189_0])) (.cons rfl (.cons rfl (.cons rfl (.cons rfl (.cons rfl (.cons (slenV rfl (by rw [hgky189_0])) (.cons rfl .nil)))))))) (.cons rfl (.cons rfl .nil)) ?_
  refine Tr.nil (Tr.zA ?_)
  refine Tr.sr ?_
  refine Tr.mv rfl rfl ?_
  obtain ⟨y191, hy191, H⟩ := bnd H
  refine Tr.callM [2] [ow Al187 cl187 3 zn y189] (U := (Option Addr × Nat)) (fun u => (.slice u.1 (y191).length u.2)) (fun u => SlF u.1 (y191).length u.2) (fun u => [ow u.1 u.2 3 zn y191]) rfl (zM rfl zY) (fun _ => rfl) (wn rfl) rfl Tryz.call84 (zF rfl zO) (fun W hW hp hE => F_slices_Compact_int_ok y189 Al187 cl187 y191 hy191 hE) ?_
  intro u hu
  obtain ⟨Ay191_0, cy191_0⟩ := u
  have gy191_0 := hu
  have hgy191_0 : SlF Ay191_0 (y191).length cy191_0 := gy191_0 --@phi
  show Tr _ _ (uf _ 68 (.slice Ay191_0 (y191).length cy191_0)) (up _ 2 (ow Ay191_0 cy191_0 3 zn y191)) _
  refine Tr.asg rfl rfl ?_
  refine Tr.nil (Tr.zA ?_)
  refine Tr.sr ?_
  refine Tr.mv rfl rfl ?_
  obtain ⟨y193, hy193, H⟩ := bnd H
  refine Tr.callM [3] [ow Al188 cl188 36 zN l188] (U := Unit) (fun u => (.tuple #[])) (fun u => (y193).length = (l188).length) (fun u => [ow Al188 cl188 36 zN y193]) rfl (zM rfl zY) (fun _ => rfl) (wn rfl) rfl Tryz.call81 (zF rfl (zF rfl zO)) (fun W hW hp hE => F_slices_SortFunc_TRect_ok l188 Al188 cl188 (fun z0 z1 => F_shape_Around_1 z0 z1) 157 [] Tryz.call157 (fun w' he z0 z1 y hy => F_shape_Around_1_ok z0 z1 y hy (HF.start _)) y193 hy193 hE) ?_
  intro u hu
  have gky193_0 := hu
  have hgky193_0 : (y193).length = (l188).length := gky193_0 --@phi
  have hfky193_0 : SlF Al188 (y193).length cl188 := by rw [hgky193_0]; exact hl188
  show Tr _ _ (uf _ 70 (.tuple #[])) (up _ 3 (ow Al188 cl188 36 zN y193)) _
  refine Tr.sel (lf := [(3, (.slice Ay191_0 (y191).length cy191_0)), (4, (.slice Al188 (y193).length cl188)), (16, (.slice Ap0_0 (p0).length cp0_0)), (17, (iv (p0.length : Int))), (18, (iv (iL3 : Int))), (19, (.bool (decide ((iL3 : Int) < (p0.length : Int))))), (66, (.tuple #[])), (68, (.slice Ay191_0 (y191).length cy191_0)), (69, (.slice Al188 (y193).length cl188)), (70, (.tuple #[]))]) (le := [(2, ow Ay191_0 cy191_0 3 zn y191), (3, ow Al188 cl188 36 zN y193)]) (.cons rfl (.cons (slenV rfl (by rw [hgky193_0])) (.cons rfl (.cons rfl (.cons rfl (.cons rfl (.cons rfl (.cons rfl (.cons (slenV rfl (by rw [hgky193_0])) (.cons rfl .nil)))))))))) (.cons rfl (.cons rfl .nil)) ?_
  refine Tr.nil (Tr.zA ?_)
  refine Tr.sr ?_
  refine Tr.asg rfl rfl ?_
  refine Tr.nilOwn 28 107 zJ ?_
  show Tr _ _ (uf _ 10 (.slice none (([] : List zV)).length 0)) _ _
  refine Tr.nil (Tr.zA ?_)
  refine Tr.seq ?_
  refine Tr.sr ?_
  refine Tr.asg rfl rfl ?_
  refine Tr.nil (Tr.zA ?_)
  refine Tr.block ?_
  refine Tr.loop (σ := (List zV) × Int × (Option Addr) × Nat) (fun m w s => F_shape_Around_L6 y191 y193 m s.1 s.2.1 = some r ∧ SlF s.2.2.1 (s.1).length s.2.2.2) (fun s => [(3, (.slice Ay191_0 (y191).length cy191_0)), (4, (.slice Al188 (y193).length cl188)), (10, (.slice s.2.2.1 (s.1).length s.2.2.2)), (11, (iv s.2.1))]) (fun s => [(2, ow Ay191_0 cy191_0 3 zn y191), (3, ow Al188 cl188 36 zN y193), (28, ow s.2.2.1 s.2.2.2 107 zJ s.1)]) N (([] : List zV), 0, none, 0) ⟨H, slf_nil⟩ (.cons rfl (.cons rfl (.cons rfl (.cons rfl .nil)))) (.cons rfl (.cons rfl (.cons rfl .nil))) (fun _ _ h => noSome (h.1)) ?_
  intro w leL6 mL6 s hs
  obtain ⟨l297, x298, Al297, cl297⟩ := s
  obtain ⟨H, hl297⟩ := hs
  replace H : F_shape_Around_L6 y191 y193 (mL6 + 1) l297 x298 = some r := H
  replace leB := leB.trans leL6
  replace leL3 := leL3.trans leL6
  replace hl297 : SlF Al297 (l297).length cl297 := hl297
  rw [F_shape_Around_L6.eq_2] at H
  show Tr _ _ (LF [(3, (.slice Ay191_0 (y191).length cy191_0)), (4, (.slice Al188 (y193).length cl188)), (10, (.slice Al297 (l297).length cl297)), (11, (iv x298))]) (LE [(2, ow Ay191_0 cy191_0 3 zn y191), (3, ow Al188 cl188 36 zN y193), (28, ow Al297 cl297 107 zJ l297)]) _
  refine Tr.seq ?_
  refine Tr.sr ?_
  refine Tr.mv rfl rfl ?_
  refine Tr.va rfl (fun _ _ h1 h2 => zx (h1.ev rfl) (h1.ev rfl)) ?_
  refine Tr.mv rfl rfl ?_
  refine Tr.va rfl (fun _ _ h1 h2 => zq un_38 (h1.ev rfl)) ?_
  refine Tr.va rfl (fun _ _ h1 h2 => zz (h1.ev rfl) (h1.ev rfl)) ?_
  refine Tr.nil (Tr.zA ?_)
  refine Tr.cond rfl H (fun H => ?_) (fun H => ?_)
  ·refine Tr.skip (Tr.zA ?_)
   refine Tr.seq ?_
   refine Tr.block ?_
   refine Tr.sr ?_
   refine Tr.asg rfl rfl ?_
   refine Tr.nilOwn 43 3 zn ?_
   show Tr _ _ (uf _ 12 (.slice none (([] : List Int)).length 0)) _ _
   refine Tr.nil (Tr.zA ?_)
   refine Tr.seq ?_
   refine Tr.sr ?_
   refine Tr.mv rfl rfl ?_
   refine Tr.va rfl (fun _ _ h1 h2 => zq un_31 (h1.ev rfl)) ?_
   refine Tr.mv rfl rfl ?_
   refine Tr.nil (Tr.zA ?_)
   refine Tr.block ?_
   refine Tr.loop (σ := (List zT) × Nat × (List Int) × (Option Addr) × Nat) (fun m w s => m = s.1.length + 1 ∧ s.1 = List.drop s.2.1 y193 ∧ s.2.1 ≤ y193.length ∧ F_shape_Around_L7 y191 l297 x298 (F_shape_Around_L6 y191 y193 mL6) s.1 s.2.1 s.2.2.1 = some r ∧ SlF s.2.2.2.1 (s.2.2.1).length s.2.2.2.2) (fun s => [(3, (.slice Ay191_0 (y191).length cy191_0)), (4, (.slice Al188 (y193).length cl188)), (10, (.slice Al297 (l297).length cl297)), (11, (iv x298)), (12, (.slice s.2.2.2.1 (s.2.2.1).length s.2.2.2.2)), (78, (.slice Al188 (y193).length cl188)), (79, (iv (y193.length : Int))), (80, (iv (s.2.1 : Int)))]) (fun s => [(2, ow Ay191_0 cy191_0 3 zn y191), (3, ow Al188 cl188 36 zN y193), (28, ow Al297 cl297 107 zJ l297), (43, ow s.2.2.2.1 s.2.2.2.2 3 zn s.2.2.1)]) (y193.length + 1) (y193, 0, ([] : List Int), none, 0) ⟨rfl, rfl, Nat.zero_le _, H, slf_nil⟩ (.cons rfl (.cons rfl (.cons rfl (.cons rfl (.cons rfl (.cons rfl (.cons rfl (.cons rfl .nil)))))))) (.cons rfl (.cons rfl (.cons rfl (.cons rfl .nil)))) (fun _ _ h => absurd h.1 (by simp)) ?_
   intro w leL7 m s hs
   obtain ⟨restL7, iL7, l329, Al329, cl329⟩ := s
   obtain ⟨hmL7, hdL7, hiL7, H, hl329⟩ := hs
   replace hdL7 : restL7 = List.drop iL7 y193 := hdL7
   replace H : F_shape_Around_L7 y191 l297 x298 (F_shape_Around_L6 y191 y193 mL6) restL7 iL7 l329 = some r := H
   replace hmL7 : m + 1 = restL7.length + 1 := hmL7
   replace leB := leB.trans leL7
   replace leL3 := leL3.trans leL7
   replace leL6 := leL6.trans leL7
   replace hl329 : SlF Al329 (l329).length cl329 := hl329
   obtain rfl : m = restL7.length := by omega
   clear hmL7
   show Tr _ _ (LF [(3, (.slice Ay191_0 (y191).length cy191_0)), (4, (.slice Al188 (y193).length cl188)), (10, (.slice Al297 (l297).length cl297)), (11, (iv x298)), (12, (.slice Al329 (l329).length cl329)), (78, (.slice Al188 (y193).length cl188)), (79, (iv (y193.length : Int))), (80, (iv (iL7 : Int)))]) (LE [(2, ow Ay191_0 cy191_0 3 zn y191), (3, ow Al188 cl188 36 zN y193), (28, ow Al297 cl297 107 zJ l297), (43, ow Al329 cl329 3 zn l329)]) _
   cases restL7 with
   | nil =>
    rw [F_shape_Around_L7.eq_1] at H
    refine Tr.sr ?_
    refine Tr.va rfl (fun _ _ h1 h2 => zz (h1.ev rfl) (h1.ev rfl)) ?_
    refine Tr.nil (Tr.zA ?_)
    refine Tr.seq ?_
    refine Tr.condF rfl (range_nil hdL7) ?_
    refine Tr.exit (Tr.zX (Tr.zX (Tr.zAC (Tr.zA ?_))))
    refine Tr.drawTail 12 (by kernel_rfl) (by kernel_rfl) ?_
    refine Tq.mv rfl rfl ?_
    refine Tq.mv rfl rfl ?_
    refine Tq.mv rfl rfl ?_
    obtain ⟨x330, hx330, H⟩ := bnd H
    obtain ⟨hx3300, hx3301, hx3302⟩ := zh hx330
    refine Tq.va rfl (fun _ _ h1 h2 => zH el_38 (h1.ev rfl) hgy191_0 (h1.ev rfl) hx3300 hx3301) ?_
    refine Tq.va rfl (fun _ _ h1 h2 => zC ag_3 (h1.ev rfl) (rdo ef_i64 (k := 2) h2 rfl hx3302) rfl) ?_
    refine Tq.mv rfl rfl ?_
    refine Tq.mv rfl rfl ?_
    refine Tq.va rfl (fun _ _ h1 h2 => zx (h1.ev rfl) (h1.ev rfl)) ?_
    obtain ⟨x331, hx331, H⟩ := bnd H
    obtain ⟨hx3310, hx3311, hx3312⟩ := zh hx331
    refine Tq.va rfl (fun _ _ h1 h2 => zH el_38 (h1.ev rfl) hgy191_0 (h1.ev rfl) hx3310 hx3311) ?_
    refine Tq.va rfl (fun _ _ h1 h2 => zC ag_3 (h1.ev rfl) (rdo ef_i64 (k := 2) h2 rfl hx3312) rfl) ?_
    refine Tq.mv rfl rfl ?_
    refine Tq.build (vs := [(0, (iv x330)), (1, (iv x331)), (2, (.slice Al329 (l329).length cl329))]) (cs := [(iv x330), (iv x331), (.slice Al329 (l329).length cl329)]) (wn rfl) rfl (zi rfl (zi rfl (zi rfl evs_nil))) (by kernel_rfl) ?_
    refine Tq.nil ?_
    refine Tr.freeze 43 rfl fun w le333 hz332 => ?_
    replace leB := leB.trans le333
    replace leL3 := leL3.trans le333
    replace leL6 := leL6.trans le333
    replace leL7 := leL7.trans le333
    obtain ⟨y334, hy334, H⟩ := bnd H
    refine Tr.callG [28] [ow Al297 cl297 107 zJ l297] (U := (Option Addr × Nat)) (fun u => (.slice u.1 (y334).length u.2)) (fun O W u => SlF u.1 (y334).length u.2) (fun u => [ow u.1 u.2 107 zJ y334]) rfl (zM rfl zY) (fun _ => rfl) (wn rfl) rfl Tryz.call87 (zF rfl (zF rfl zO)) (fun W hW hp hE => F_shape_Set__push_ok l297 Al297 cl297 (zV.mk x330 x331 l329) Al329 cl329 (hz332.extO (hW.extS hp)) y334 hy334 hE) ?_
    intro w u le335 hu
    obtain ⟨Ay334_0, cy334_0⟩ := u
    have gy334_0 := hu
    replace hz332 := hz332.le le335
    replace leB := leB.trans le335
    replace leL3 := leL3.trans le335
    replace leL6 := leL6.trans le335
    replace leL7 := leL7.trans le335
    have hgy334_0 : SlF Ay334_0 (y334).length cy334_0 := gy334_0 --@phi
    show Tr _ _ (uf _ 136 (.slice Ay334_0 (y334).length cy334_0)) (up _ 28 (ow Ay334_0 cy334_0 107 zJ y334)) _
    refine Tr.asg rfl rfl ?_
    refine Tr.nil (Tr.zW (Tr.zA ?_))
    refine Tr.region ?_
    refine Tr.mv rfl rfl ?_
    refine Tr.va rfl (fun _ _ h1 h2 => zx (h1.ev rfl) (h1.ev rfl)) ?_
    refine Tr.asg rfl rfl ?_
    refine Tr.nil ?_
    exact Tr.zZ leL6 (y334, (w64 (x298 + 1)), Ay334_0, cy334_0) ⟨H, hgy334_0⟩ (.cons rfl (.cons rfl (.cons rfl (.cons rfl .nil)))) (.cons rfl (.cons rfl (.cons rfl .nil)))
   | cons xL7 restL7 =>
    rw [F_shape_Around_L7.eq_2] at H
    refine Tr.sr ?_
    refine Tr.va rfl (fun _ _ h1 h2 => zz (h1.ev rfl) (h1.ev rfl)) ?_
    refine Tr.nil (Tr.zA ?_)
    refine Tr.seq ?_
    refine Tr.condT rfl (range_on hdL7) ?_
    refine Tr.skip (Tr.zA ?_)
    refine Tr.seq ?_
    refine Tr.block ?_
    refine Tr.sr ?_
    refine Tr.va rfl (fun _ _ h1 h2 => zH el_31 (h1.ev rfl) hfky193_0 (h1.ev rfl) (Int.natCast_nonneg _) (zo hdL7)) ?_
    refine Tr.va rfl (fun _ _ h1 h2 => zR (cs := [(iv xL7.X0), (iv xL7.Y0), (iv xL7.X1), (iv xL7.Y1)]) ag_36 sz_36 (h1.ev rfl) (zL.take (rdo ef_TRect (k := 3) h2 rfl (range_at hdL7)) 4) rfl) ?_
    refine Tr.alloc 48 (wn rfl) rfl ze_36 fun b336 => ?_
    refine Tr.store 48 (cs := [(iv xL7.X0), (iv xL7.Y0), (iv xL7.X1), (iv xL7.Y1)]) [(iv xL7.X0), (iv xL7.Y0), (iv xL7.X1), (iv xL7.Y1)] (wn rfl) rfl rfl rfl rfl sz_36 rfl rfl rfl ?_
    refine Tr.nil (Tr.zA ?_)
    refine Tr.seq ?_
    refine Tr.seq ?_
    refine Tr.draw (by kernel_rfl) (by kernel_rfl) ?_
    refine Tq.va rfl (fun _ _ h1 h2 => zB fo_36_1 (h1.ev rfl)) ?_
    refine Tq.va rfl (fun _ _ h1 h2 => zC ag_3 (h1.ev rfl) (rdb h2 (vs := [(iv xL7.X0), (iv xL7.Y0), (iv xL7.X1), (iv xL7.Y1)]) (k := 48) rfl 1) rfl) ?_
    refine Tq.mv rfl rfl ?_
    refine Tq.mv rfl rfl ?_
    obtain ⟨x337, hx337, H⟩ := bnd H
    obtain ⟨hx3370, hx3371, hx3372⟩ := zh hx337
    refine Tq.va rfl (fun _ _ h1 h2 => zH el_38 (h1.ev rfl) hgy191_0 (h1.ev rfl) hx3370 hx3371) ?_
    refine Tq.va rfl (fun _ _ h1 h2 => zC ag_3 (h1.ev rfl) (rdo ef_i64 (k := 2) h2 rfl hx3372) rfl) ?_
    refine Tq.va rfl (fun _ _ h1 h2 => run_gtr (h1.ev rfl) (h1.ev rfl)) ?_
    refine Tq.mv rfl rfl ?_
    obtain ⟨g339, hg339, H⟩ := bnd H
    refine Tq.mid 8 [(3, (.slice Ay191_0 (y191).length cy191_0)), (4, (.slice Al188 (y193).length cl188)), (10, (.slice Al297 (l297).length cl297)), (11, (iv x298)), (12, (.slice Al329 (l329).length cl329)), (14, (.pointer (some ⟨b336, 0, none⟩))), (78, (.slice Al188 (y193).length cl188)), (79, (iv (y193.length : Int))), (80, (iv (iL7 : Int))), (99, (.bool g339))] ?_ ?_
    ·cases hg346 : (decide (x337 < xL7.Y0))
     ·rw [hg346] at hg339
      rw [if_neg (by decide)] at hg339
      have H := hg339
      refine Tq.val (wg rfl rfl rfl) rfl (fun _ _ h1 h2 => zB fo_36_3 (h1.ev rfl)) ?_
      refine Tq.val (wg rfl rfl rfl) rfl (fun _ _ h1 h2 => zC ag_3 (h1.ev rfl) (rdb h2 (vs := [(iv xL7.X0), (iv xL7.Y0), (iv xL7.X1), (iv xL7.Y1)]) (k := 48) rfl 3) rfl) ?_
      refine Tq.val (wg rfl rfl rfl) rfl (fun _ _ h1 h2 => run_move (h1.ev rfl)) ?_
      refine Tq.val (wg rfl rfl rfl) rfl (fun _ _ h1 h2 => run_move (h1.ev rfl)) ?_
      obtain ⟨x340, hx340, H⟩ := bnd H
      obtain ⟨hx3400, hx3401, hx3402⟩ := zh hx340
      refine Tq.val (wg rfl rfl rfl) rfl (fun _ _ h1 h2 => zH el_38 (h1.ev rfl) hgy191_0 (h1.ev rfl) hx3400 hx3401) ?_
      refine Tq.val (wg rfl rfl rfl) rfl (fun _ _ h1 h2 => zC ag_3 (h1.ev rfl) (rdo ef_i64 (k := 2) h2 rfl hx3402) rfl) ?_
      refine Tq.val (wg rfl rfl rfl) rfl (fun _ _ h1 h2 => run_leq (h1.ev rfl) (h1.ev rfl)) ?_
      refine Tq.va rfl (fun _ _ h1 h2 => zf (h1.ev rfl) (h1.ev rfl)) ?_
      obtain rfl := Option.some.inj H
      exact Tq.fin (.cons rfl (.cons rfl (.cons rfl (.cons rfl (.cons rfl (.cons rfl (.cons rfl (.cons rfl (.cons rfl (.cons rfl .nil))))))))))
     ·rw [hg346] at hg339
      rw [if_pos rfl] at hg339
      have H := hg339
      obtain rfl := Option.some.inj H
      refine Tq.pass rfl rfl rfl rfl rfl (by decide) ?_
      refine Tq.pass rfl rfl rfl rfl rfl (by decide) ?_
      refine Tq.pass rfl rfl rfl rfl rfl (by decide) ?_
      refine Tq.pass rfl rfl rfl rfl rfl (by decide) ?_
      refine Tq.pass rfl rfl rfl rfl rfl (by decide) ?_
      refine Tq.pass rfl rfl rfl rfl rfl (by decide) ?_
      refine Tq.pass rfl rfl rfl rfl rfl (by decide) ?_
      refine Tq.va rfl (fun _ _ h1 h2 => ze (h1.ev rfl) (h1.ev rfl)) ?_
      exact Tq.fin (.cons rfl (.cons rfl (.cons rfl (.cons rfl (.cons rfl (.cons rfl (.cons rfl (.cons rfl (.cons rfl (.cons rfl .nil))))))))))
    ·refine Tq.nil (Tr.zA ?_)
     refine Tr.cond rfl H (fun H => ?_) (fun H => ?_)
     ·refine Tr.exit (Tr.zX (Tr.zAC (Tr.zA ?_)))
      refine Tr.region ?_
      refine Tr.va rfl (fun _ _ h1 h2 => zx (h1.ev rfl) (h1.ev rfl)) ?_
      refine Tr.mv rfl rfl ?_
      refine Tr.nil ?_
      exact Tr.zZ leL7 (restL7, (iL7 + 1), l329, Al329, cl329) ⟨rfl, range_tl hdL7, zo hdL7, H, hl329⟩ (.cons rfl (.cons rfl (.cons rfl (.cons rfl (.cons rfl (.cons rfl (.cons rfl (.cons (congrArg (fun z => some (Value.int .i64 z)) (range_up hdL7 hfky193_0)) .nil)))))))) (.cons rfl (.cons rfl (.cons rfl (.cons rfl .nil))))
     ·refine Tr.skip (Tr.zA ?_)
      refine Tr.sr ?_
      refine Tr.mv rfl rfl ?_
      refine Tr.va rfl (fun _ _ h1 h2 => zq un_38 (h1.ev rfl)) ?_
      refine Tr.asg rfl rfl ?_
      refine Tr.nil (Tr.zA ?_)
      refine Tr.seq ?_
      refine Tr.draw (by kernel_rfl) (by kernel_rfl) ?_
      refine Tq.mv rfl rfl ?_
      refine Tq.va rfl (fun _ _ h1 h2 => run_gtr (h1.ev rfl) (h1.ev rfl)) ?_
      refine Tq.mv rfl rfl ?_
      obtain ⟨g342, hg342, H⟩ := bnd H
      refine Tq.mid 9 [(3, (.slice Ay191_0 (y191).length cy191_0)), (4, (.slice Al188 (y193).length cl188)), (10, (.slice Al297 (l297).length cl297)), (11, (iv x298)), (12, (.slice Al329 (l329).length cl329)), (14, (.pointer (some ⟨b336, 0, none⟩))), (15, (iv (l329.length : Int))), (78, (.slice Al188 (y193).length cl188)), (79, (iv (y193.length : Int))), (80, (iv (iL7 : Int))), (113, (.bool g342))] ?_ ?_
      ·cases hg346 : (decide (0 < (l329.length : Int)))
       ·rw [hg346] at hg342
        rw [if_neg (by decide)] at hg342
        have H := hg342
        obtain rfl := Option.some.inj H
        refine Tq.pass rfl rfl rfl rfl rfl (by decide) ?_
        refine Tq.pass rfl rfl rfl rfl rfl (by decide) ?_
        refine Tq.pass rfl rfl rfl rfl rfl (by decide) ?_
        refine Tq.pass rfl rfl rfl rfl rfl (by decide) ?_
        refine Tq.pass rfl rfl rfl rfl rfl (by decide) ?_
        refine Tq.pass rfl rfl rfl rfl rfl (by decide) ?_
        refine Tq.pass rfl rfl rfl rfl rfl (by decide) ?_
        refine Tq.pass rfl rfl rfl rfl rfl (by decide) ?_
        refine Tq.va rfl (fun _ _ h1 h2 => zf (h1.ev rfl) (h1.ev rfl)) ?_
        exact Tq.fin (.cons rfl (.cons rfl (.cons rfl (.cons rfl (.cons rfl (.cons rfl (.cons rfl (.cons rfl (.cons rfl (.cons rfl (.cons rfl .nil)))))))))))
       ·rw [hg346] at hg342
        rw [if_pos rfl] at hg342
        have H := hg342
        refine Tq.val (wg rfl rfl rfl) rfl (fun _ _ h1 h2 => run_move (h1.ev rfl)) ?_
        refine Tq.val (wg rfl rfl rfl) rfl (fun _ _ h1 h2 => run_move (h1.ev rfl)) ?_
        refine Tq.val (wg rfl rfl rfl) rfl (fun _ _ h1 h2 => run_sub (h1.ev rfl) (h1.ev rfl)) ?_
        obtain ⟨x343, hx343, H⟩ := bnd H
        obtain ⟨hx3430, hx3431, hx3432⟩ := zh hx343
        refine Tq.val (wg rfl rfl rfl) rfl (fun _ _ h1 h2 => zH el_38 (h1.ev rfl) hl329 (h1.ev rfl) hx3430 hx3431) ?_
        refine Tq.val (wg rfl rfl rfl) rfl (fun _ _ h1 h2 => zC ag_3 (h1.ev rfl) (rdo ef_i64 (k := 43) h2 rfl hx3432) rfl) ?_
        refine Tq.val (wg rfl rfl rfl) rfl (fun _ _ h1 h2 => zB fo_36_0 (h1.ev rfl)) ?_
        refine Tq.val (wg rfl rfl rfl) rfl (fun _ _ h1 h2 => zC ag_3 (h1.ev rfl) (rdb h2 (vs := [(iv xL7.X0), (iv xL7.Y0), (iv xL7.X1), (iv xL7.Y1)]) (k := 48) rfl 0) rfl) ?_
        refine Tq.val (wg rfl rfl rfl) rfl (fun _ _ h1 h2 => run_eql (h1.ev rfl) (h1.ev rfl)) ?_
        refine Tq.va rfl (fun _ _ h1 h2 => ze (h1.ev rfl) (h1.ev rfl)) ?_
        obtain rfl := Option.some.inj H
        exact Tq.fin (.cons rfl (.cons rfl (.cons rfl (.cons rfl (.cons rfl (.cons rfl (.cons rfl (.cons rfl (.cons rfl (.cons rfl (.cons rfl .nil)))))))))))
      ·refine Tq.nil (Tr.zA ?_)
       refine Tr.cond rfl H (fun H => ?_) (fun H => ?_)
       ·refine Tr.region ?_
        refine Tr.mv rfl rfl ?_
        refine Tr.mv rfl rfl ?_
        refine Tr.va rfl (fun _ _ h1 h2 => run_sub (h1.ev rfl) (h1.ev rfl)) ?_
        obtain ⟨l344, hl344, H⟩ := bnd H
        refine Tr.va rfl (fun _ _ h1 h2 => run_pre el_38 (h1.ev rfl) hl329 (h1.ev rfl) hl344) ?_
        refine Tr.asg rfl rfl ?_
        refine Tr.nil (Tr.zW (Tr.zA ?_))
        refine Tr.region ?_
        refine Tr.va rfl (fun _ _ h1 h2 => zx (h1.ev rfl) (h1.ev rfl)) ?_
        refine Tr.mv rfl rfl ?_
        refine Tr.nil ?_
        refine Tr.shrinkP 43 hl344 rfl ?_
        exact Tr.zZ leL7 (restL7, (iL7 + 1), l344, Al329, cl329) ⟨rfl, range_tl hdL7, zo hdL7, H, (pre_form hl329 hl344)⟩ (.cons rfl (.cons rfl (.cons rfl (.cons rfl (.cons rfl (.cons rfl (.cons rfl (.cons (congrArg (fun z => some (Value.int .i64 z)) (range_up hdL7 hfky193_0)) .nil)))))))) (.cons rfl (.cons rfl (.cons rfl (.cons rfl .nil))))
       ·refine Tr.region ?_
        refine Tr.mv rfl rfl ?_
        refine Tr.va rfl (fun _ _ h1 h2 => zB fo_36_0 (h1.ev rfl)) ?_
        refine Tr.va rfl (fun _ _ h1 h2 => zC ag_3 (h1.ev rfl) (rdb h2 (vs := [(iv xL7.X0), (iv xL7.Y0), (iv xL7.X1), (iv xL7.Y1)]) (k := 48) rfl 0) rfl) ?_
        refine Tr.buildSlice 49 (e := 3) (vs := [(0, (iv xL7.X0))]) (cs := [(iv xL7.X0)]) (wn rfl) rfl (zi rfl evs_nil) (by kernel_rfl) fun b345 => ?_
        obtain ⟨l346, hl346, H⟩ := bnd H
        refine Tr.append 43 (t := zn) (l := l329) (l2 := [xL7.X0]) (wn rfl) rfl rfl rfl rfl (fun W hW => ⟨[[(iv xL7.X0)]], (.cons ⟨(), trivial, rfl⟩ .nil), rdb hW (vs := [(iv xL7.X0)]) (k := 49) rfl 0⟩) un_38 sz_3 zl_3 (by decide) by_3 rfl hl346 fun Al346 cl346 hAl346 => ?_
        refine Tr.asg rfl rfl ?_
        refine Tr.nil (Tr.zW (Tr.zA ?_))
        refine Tr.region ?_
        refine Tr.va rfl (fun _ _ h1 h2 => zx (h1.ev rfl) (h1.ev rfl)) ?_
        refine Tr.mv rfl rfl ?_
        refine Tr.nil ?_
        exact Tr.zZ leL7 (restL7, (iL7 + 1), l346, Al346, cl346) ⟨rfl, range_tl hdL7, zo hdL7, H, hAl346⟩ (.cons rfl (.cons rfl (.cons rfl (.cons rfl (.cons rfl (.cons rfl (.cons rfl (.cons (congrArg (fun z => some (Value.int .i64 z)) (range_up hdL7 hfky193_0)) .nil)))))))) (.cons rfl (.cons rfl (.cons rfl (.cons rfl .nil))))
  ·refine Tr.exit (Tr.zX (Tr.zX (Tr.zAC (Tr.zA ?_))))
   refine Tr.sr ?_
   refine Tr.mv rfl rfl ?_
   refine Tr.asg rfl rfl ?_
   refine Tr.nil (Tr.zA ?_)
   refine Tr.ret ?_
   obtain rfl := Option.some.inj H
   exact Tr.out (m := [(.slice Al297 (l297).length cl297)]) [] (zP rfl zQ) (fun W hW => ⟨w, (Al297, cl297), leB, rfl, hl297, hW.pick (ks := [28]) (by decide) (zM rfl zY)⟩)
 | cons xL3 restL3 =>
  rw [F_shape_Around_L3.eq_2] at H
  refine Tr.sr ?_
  refine Tr.va rfl (fun _ _ h1 h2 => zz (h1.ev rfl) (h1.ev rfl)) ?_
  refine Tr.nil (Tr.zA ?_)
  refine Tr.seq ?_
  refine Tr.condT rfl (range_on hdL3) ?_
  refine Tr.skip (Tr.zA ?_)
  refine Tr.seq ?_
  refine Tr.block ?_
  refine Tr.sr ?_
  obtain ⟨u347, hRu347, hoku347, hcu347⟩ := (hp0_0).el (range_at hdL3)
  obtain ⟨Au347_0, cu347_0⟩ := u347
  have hoku347_0 := hoku347
  replace hoku347_0 : Sl w.R w.W zy Au347_0 cu347_0 xL3 := hoku347_0
  refine Tr.va rfl (fun _ _ h1 h2 => zH el_205 (h1.ev rfl) hp0_0.form (h1.ev rfl) (Int.natCast_nonneg _) (zo hdL3)) ?_
  refine Tr.va rfl (fun _ _ h1 h2 => zC ag_44 (h1.ev rfl) (rdR hRu347 hcu347 h2) rfl) ?_
  refine Tr.asg rfl rfl ?_
  refine Tr.nil (Tr.zA ?_)
  refine Tr.sr ?_
  refine Tr.mv rfl rfl ?_
  refine Tr.va rfl (fun _ _ h1 h2 => zq un_44 (h1.ev rfl)) ?_
  refine Tr.mv rfl rfl ?_
  refine Tr.nil (Tr.zA ?_)
  refine Tr.block ?_
  refine Tr.loop (σ := (List zI) × Nat × (List Int) × (List zT) × (Option Addr) × Nat × (Option Addr) × Nat) (fun m w s => m = s.1.length + 1 ∧ s.1 = List.drop s.2.1 xL3 ∧ s.2.1 ≤ xL3.length ∧ F_shape_Around_L8 (F_shape_Around_L3 N restL3 (iL3 + 1)) xL3 s.1 s.2.1 s.2.2.1 s.2.2.2.1 = some r ∧ SlF s.2.2.2.2.1 (s.2.2.1).length s.2.2.2.2.2.1 ∧ SlF s.2.2.2.2.2.2.1 (s.2.2.2.1).length s.2.2.2.2.2.2.2) (fun s => [(3, (.slice s.2.2.2.2.1 (s.2.2.1).length s.2.2.2.2.2.1)), (4, (.slice s.2.2.2.2.2.2.1 (s.2.2.2.1).length s.2.2.2.2.2.2.2)), (6, (.slice Au347_0 (xL3).length cu347_0)), (16, (.slice Ap0_0 (p0).length cp0_0)), (17, (iv (p0.length : Int))), (18, (iv (iL3 : Int))), (22, (.slice Au347_0 (xL3).length cu347_0)), (23, (iv (xL3.length : Int))), (24, (iv (s.2.1 : Int)))]) (fun s => [(2, ow s.2.2.2.2.1 s.2.2.2.2.2.1 3 zn s.2.2.1), (3, ow s.2.2.2.2.2.2.1 s.2.2.2.2.2.2.2 36 zN s.2.2.2.1)]) (xL3.length + 1) (xL3, 0, l187, l188, Al187, cl187, Al188, cl188) ⟨rfl, rfl, Nat.zero_le _, H, hl187, hl188⟩ (.cons rfl (.cons rfl (.cons rfl (.cons rfl (.cons rfl (.cons rfl (.cons rfl (.cons rfl (.cons rfl .nil))))))))) (.cons rfl (.cons rfl .nil)) (fun _ _ h => absurd h.1 (by simp)) ?_
  intro w leL8 m s hs
  obtain ⟨restL8, iL8, l375, l376, Al375, cl375, Al376, cl376⟩ := s
  obtain ⟨hmL8, hdL8, hiL8, H, hl375, hl376⟩ := hs
  replace hdL8 : restL8 = List.drop iL8 xL3 := hdL8
  replace H : F_shape_Around_L8 (F_shape_Around_L3 N restL3 (iL3 + 1)) xL3 restL8 iL8 l375 l376 = some r := H
  replace hmL8 : m + 1 = restL8.length + 1 := hmL8
  replace hoku347_0 := hoku347_0.leR leL8
  replace hp0_0 := hp0_0.leR leL8
  replace leB := leB.trans leL8
  replace leL3 := leL3.trans leL8
  replace hl375 : SlF Al375 (l375).length cl375 := hl375
  replace hl376 : SlF Al376 (l376).length cl376 := hl376
  obtain rfl : m = restL8.length := by omega
  clear hmL8
  show Tr _ _ (LF [(3, (.slice Al375 (l375).length cl375)), (4, (.slice Al376 (l376).length cl376)), (6, (.slice Au347_0 (xL3).length cu347_0)), (16, (.slice Ap0_0 (p0).length cp0_0)), (17, (iv (p0.length : Int))), (18, (iv (iL3 : Int))), (22, (.slice Au347_0 (xL3).length cu347_0)), (23, (iv (xL3.length : Int))), (24, (iv (iL8 : Int)))]) (LE [(2, ow Al375 cl375 3 zn l375), (3, ow Al376 cl376 36 zN l376)]) _
  cases restL8 with
  | nil =>
   rw [F_shape_Around_L8.eq_1] at H
   refine Tr.sr ?_
   refine Tr.va rfl (fun _ _ h1 h2 => zz (h1.ev rfl) (h1.ev rfl)) ?_
   refine Tr.nil (Tr.zA ?_)
   refine Tr.seq ?_
   refine Tr.condF rfl (range_nil hdL8) ?_
   refine Tr.exit (Tr.zX (Tr.zX (Tr.zAC (Tr.zW (Tr.zA ?_)))))
   refine Tr.region ?_
   refine Tr.va rfl (fun _ _ h1 h2 => zx (h1.ev rfl) (h1.ev rfl)) ?_
   refine Tr.mv rfl rfl ?_
   refine Tr.nil ?_
   exact Tr.zZ leL3 (restL3, (iL3 + 1), l375, l376, Al375, cl375, Al376, cl376) ⟨rfl, range_tl hdL3, zo hdL3, H, hl375, hl376⟩ (.cons rfl (.cons rfl (.cons rfl (.cons rfl (.cons (congrArg (fun z => some (Value.int .i64 z)) (range_up hdL3 hp0_0.form)) .nil))))) (.cons rfl (.cons rfl .nil))
  | cons xL8 restL8 =>
   rw [F_shape_Around_L8.eq_2] at H
   refine Tr.sr ?_
   refine Tr.va rfl (fun _ _ h1 h2 => zz (h1.ev rfl) (h1.ev rfl)) ?_
   refine Tr.nil (Tr.zA ?_)
   refine Tr.seq ?_
   refine Tr.condT rfl (range_on hdL8) ?_
   refine Tr.skip (Tr.zA ?_)
   refine Tr.seq ?_
   refine Tr.block ?_
   refine Tr.sr ?_
   refine Tr.mv rfl rfl ?_
   refine Tr.va rfl (fun _ _ h1 h2 => zH el_44 (h1.ev rfl) hoku347_0.form (h1.ev rfl) (Int.natCast_nonneg _) (zo hdL8)) ?_
   refine Tr.va rfl (fun _ _ h1 h2 => zR (cs := [(iv xL8.X), (iv xL8.Y)]) ag_43 sz_43 (h1.ev rfl) (zL.take (rdF ef_TPoint hoku347_0 (range_at hdL8) h2) 2) rfl) ?_
   refine Tr.alloc 58 (wn rfl) rfl ze_43 fun b377 => ?_
   refine Tr.asg rfl rfl ?_
   refine Tr.store 58 (cs := [(iv xL8.X), (iv xL8.Y)]) [(iv xL8.X), (iv xL8.Y)] (wn rfl) rfl rfl rfl rfl sz_43 rfl rfl rfl ?_
   refine Tr.nil (Tr.zA ?_)
   refine Tr.sr ?_
   refine Tr.mv rfl rfl ?_
   refine Tr.mv rfl rfl ?_
   refine Tr.va rfl (fun _ _ h1 h2 => zx (h1.ev rfl) (h1.ev rfl)) ?_
   refine Tr.mv rfl rfl ?_
   refine Tr.va rfl (fun _ _ h1 h2 => zq un_44 (h1.ev rfl)) ?_
   obtain ⟨q378, hq378, H⟩ := bnd H
   refine Tr.va rfl (fun _ _ h1 h2 => run_md (h1.ev rfl) (h1.ev rfl) hq378) ?_
   obtain ⟨x379, hx379, H⟩ := bnd H
   obtain ⟨hx3790, hx3791, hx3792⟩ := zh hx379
   refine Tr.va rfl (fun _ _ h1 h2 => zH el_44 (h1.ev rfl) hoku347_0.form (h1.ev rfl) hx3790 hx3791) ?_
   refine Tr.va rfl (fun _ _ h1 h2 => zR (cs := [(iv x379.X), (iv x379.Y)]) ag_43 sz_43 (h1.ev rfl) (zL.take (rdF ef_TPoint hoku347_0 hx3792 h2) 2) rfl) ?_
   refine Tr.alloc 59 (wn rfl) rfl ze_43 fun b380 => ?_
   refine Tr.store 59 (cs := [(iv x379.X), (iv x379.Y)]) [(iv x379.X), (iv x379.Y)] (wn rfl) rfl rfl rfl rfl sz_43 rfl rfl rfl ?_
   refine Tr.nil (Tr.zA ?_)
   refine Tr.sr ?_
   refine Tr.mv rfl rfl ?_
   refine Tr.va rfl (fun _ _ h1 h2 => zB fo_43_1 (h1.ev rfl)) ?_
   refine Tr.va rfl (fun _ _ h1 h2 => zC ag_3 (h1.ev rfl) (rdb h2 (vs := [(iv xL8.X), (iv xL8.Y)]) (k := 58) rfl 1) rfl) ?_
   refine Tr.buildSlice 60 (e := 3) (vs := [(0, (iv xL8.Y))]) (cs := [(iv xL8.Y)]) (wn rfl) rfl (zi rfl evs_nil) (by kernel_rfl) fun b381 => ?_
   obtain ⟨l382, hl382, H⟩ := bnd H
   refine Tr.append 2 (t := zn) (l := l375) (l2 := [xL8.Y]) (wn rfl) rfl rfl rfl rfl (fun W hW => ⟨[[(iv xL8.Y)]], (.cons ⟨(), trivial, rfl⟩ .nil), rdb hW (vs := [(iv xL8.Y)]) (k := 60) rfl 0⟩) un_38 sz_3 zl_3 (by decide) by_3 rfl hl382 fun Al382 cl382 hAl382 => ?_
   refine Tr.asg rfl rfl ?_
   refine Tr.nil (Tr.zA ?_)
   refine Tr.sr ?_
   refine Tr.va rfl (fun _ _ h1 h2 => zB fo_43_0 (h1.ev rfl)) ?_
   refine Tr.va rfl (fun _ _ h1 h2 => zC ag_3 (h1.ev rfl) (rdb h2 (vs := [(iv xL8.X), (iv xL8.Y)]) (k := 58) rfl 0) rfl) ?_
   refine Tr.va rfl (fun _ _ h1 h2 => zB fo_43_0 (h1.ev rfl)) ?_
   refine Tr.va rfl (fun _ _ h1 h2 => zC ag_3 (h1.ev rfl) (rdb h2 (vs := [(iv x379.X), (iv x379.Y)]) (k := 59) rfl 0) rfl) ?_
   refine Tr.va rfl (fun _ _ h1 h2 => run_eql (h1.ev rfl) (h1.ev rfl)) ?_
   refine Tr.nil (Tr.zA ?_)
   refine Tr.cond rfl H (fun H => ?_) (fun H => ?_)
   ·refine Tr.region ?_
    refine Tr.mv rfl rfl ?_
    refine Tr.va rfl (fun _ _ h1 h2 => zB fo_43_0 (h1.ev rfl)) ?_
    refine Tr.va rfl (fun _ _ h1 h2 => zC ag_3 (h1.ev rfl) (rdb h2 (vs := [(iv xL8.X), (iv xL8.Y)]) (k := 58) rfl 0) rfl) ?_
    refine Tr.va rfl (fun _ _ h1 h2 => zB fo_43_1 (h1.ev rfl)) ?_
    refine Tr.va rfl (fun _ _ h1 h2 => zC ag_3 (h1.ev rfl) (rdb h2 (vs := [(iv xL8.X), (iv xL8.Y)]) (k := 58) rfl 1) rfl) ?_
    refine Tr.va rfl (fun _ _ h1 h2 => zB fo_43_1 (h1.ev rfl)) ?_
    refine Tr.va rfl (fun _ _ h1 h2 => zC ag_3 (h1.ev rfl) (rdb h2 (vs := [(iv x379.X), (iv x379.Y)]) (k := 59) rfl 1) rfl) ?_
    refine Tr.va rfl (fun _ _ h1 h2 => run_min (h1.ev rfl) (h1.ev rfl) _) ?_
    refine Tr.va rfl (fun _ _ h1 h2 => zB fo_43_1 (h1.ev rfl)) ?_
    refine Tr.va rfl (fun _ _ h1 h2 => zC ag_3 (h1.ev rfl) (rdb h2 (vs := [(iv xL8.X), (iv xL8.Y)]) (k := 58) rfl 1) rfl) ?_
    refine Tr.va rfl (fun _ _ h1 h2 => zB fo_43_1 (h1.ev rfl)) ?_
    refine Tr.va rfl (fun _ _ h1 h2 => zC ag_3 (h1.ev rfl) (rdb h2 (vs := [(iv x379.X), (iv x379.Y)]) (k := 59) rfl 1) rfl) ?_
    refine Tr.va rfl (fun _ _ h1 h2 => run_max (h1.ev rfl) (h1.ev rfl) _) ?_
    refine Tr.build (vs := [(0, (iv xL8.X)), (1, (iv (min xL8.Y x379.Y))), (3, (iv (max xL8.Y x379.Y)))]) (cs := [(iv xL8.X), (iv (min xL8.Y x379.Y)), (iv 0), (iv (max xL8.Y x379.Y))]) (wn rfl) rfl (zi rfl (zi rfl (zi rfl evs_nil))) (by kernel_rfl) ?_
    refine Tr.buildSlice 61 (e := 36) (vs := [(0, (.agg #[(iv xL8.X), (iv (min xL8.Y x379.Y)), (iv 0), (iv (max xL8.Y x379.Y))]))]) (cs := [(iv xL8.X), (iv (min xL8.Y x379.Y)), (iv 0), (iv (max xL8.Y x379.Y))]) (wn rfl) rfl (zi rfl evs_nil) (by kernel_rfl) fun b383 => ?_
    obtain ⟨l384, hl384, H⟩ := bnd H
    refine Tr.append 3 (t := zN) (l := l376) (l2 := [(zT.mk xL8.X (min xL8.Y x379.Y) 0 (max xL8.Y x379.Y))]) (wn rfl) rfl rfl rfl rfl (fun W hW => ⟨[[(iv xL8.X), (iv (min xL8.Y x379.Y)), (iv 0), (iv (max xL8.Y x379.Y))]], (.cons ⟨(), trivial, rfl⟩ .nil), rdb hW (vs := [(iv xL8.X), (iv (min xL8.Y x379.Y)), (iv 0), (iv (max xL8.Y x379.Y))]) (k := 61) rfl 0⟩) un_31 sz_36 zl_36 (by decide) by_36 rfl hl384 fun Al384 cl384 hAl384 => ?_
    refine Tr.asg rfl rfl ?_
    refine Tr.nil (Tr.zW (Tr.zA ?_))
    refine Tr.region ?_
    refine Tr.va rfl (fun _ _ h1 h2 => zx (h1.ev rfl) (h1.ev rfl)) ?_
    refine Tr.mv rfl rfl ?_
    refine Tr.nil ?_
    exact Tr.zZ leL8 (restL8, (iL8 + 1), l382, l384, Al382, cl382, Al384, cl384) ⟨rfl, range_tl hdL8, zo hdL8, H, hAl382, hAl384⟩ (.cons rfl (.cons rfl (.cons rfl (.cons rfl (.cons rfl (.cons rfl (.cons rfl (.cons rfl (.cons (congrArg (fun z => some (Value.int .i64 z)) (range_up hdL8 hoku347_0.form)) .nil))))))))) (.cons rfl (.cons rfl .nil))
   ·refine Tr.skip (Tr.zW (Tr.zA ?_))
    refine Tr.region ?_
    refine Tr.va rfl (fun _ _ h1 h2 => zx (h1.ev rfl) (h1.ev rfl)) ?_
    refine Tr.mv rfl rfl ?_
    refine Tr.nil ?_
    exact Tr.zZ leL8 (restL8, (iL8 + 1), l382, l376, Al382, cl382, Al376, cl376) ⟨rfl, range_tl hdL8, zo hdL8, H, hAl382, hl376⟩ (.cons rfl (.cons rfl (.cons rfl (.cons rfl (.cons rfl (.cons rfl (.cons rfl (.cons rfl (.cons (congrArg (fun z => some (Value.int .i64 z)) (range_up hdL8 hoku347_0.form)) .nil))))))))) (.cons rfl (.cons rfl .nil))

theorem F_plot_machine__area_1_ok {w : Bs} (p0 : zI) (r : Bool) (H : F_plot_machine__area_1 p0 = some r) (hE : HF w w.W E0) : Calls Tryz.prog 128 [(.agg #[(iv p0.X), (iv p0.Y)])].toArray w.W fun e W' => e = .returned (.bool r) ∧ HF w W' E0 := by
 unfold F_plot_machine__area_1 at H
 have leB := Bs.Le.refl w
 refine Tr.enter (n := 6) Tryz.func128 rfl rfl rfl hE ?_
 refine Tr.sr ?_
 refine Tr.box 1 (cs := [(iv p0.X), (iv p0.Y)]) (wn rfl) rfl rfl rfl fun b100 => ?_
 refine Tr.asg rfl rfl ?_
 refine Tr.nil (Tr.zA ?_)
 refine Tr.sr ?_
 refine Tr.va rfl (fun _ _ h1 h2 => zR (cs := [(iv p0.X), (iv p0.Y)]) ag_43 sz_43 (h1.ev rfl) (zL.take (rdb h2 (vs := [(iv p0.X), (iv p0.Y)]) (k := 1) rfl 0) 2) rfl) ?_
 obtain ⟨y101, hy101, H⟩ := bnd H
 refine Tr.call0 (r := (.bool y101)) (wn rfl) rfl Tryz.call123 (zF rfl zO) (fun W hW => F_shape_IsPoint_ok p0 y101 hy101 (HF.start _)) ?_
 refine Tr.va rfl (fun _ _ h1 h2 => run_not (h1.ev rfl)) ?_
 refine Tr.asg rfl rfl ?_
 refine Tr.nil (Tr.zA ?_)
 refine Tr.ret ?_
 obtain rfl := Option.some.inj H
 exact Tr.out (m := [(.bool (!y101))]) [] (zP rfl zQ) (fun W hW => ⟨rfl, hW.low leB⟩)

theorem F_plot_machine__area_ok (N : Nat) {w : Bs} (p0 : zAA) (Ap0_0 : Option Addr) (cp0_0 : Nat) (hp0_0 : Sl w.R w.W zK Ap0_0 cp0_0 p0.p.Tools) (Ap0_1 : Option Addr) (cp0_1 : Nat) (hp0_1 : Sl w.R w.W zG Ap0_1 cp0_1 p0.p.Steps) (Ap0_2 : Option Addr) (cp0_2 : Nat) (hp0_2 : Sl w.R w.W fl_LTBand Ap0_2 cp0_2 p0.tools) (Ap0_3 : Option Addr) (cp0_3 : Nat) (bp0 : Nat) (p1 : (List zI)) (Ap1_0 : Option Addr) (cp1_0 : Nat) (hp1_0 : Sl w.R w.W zy Ap1_0 cp1_0 p1) (p2 : zI) (r : (Int × (List zV))) (H : F_plot_machine__area N p0 p1 p2 = some r) (hE : HF w w.W (LEn [bx bp0 #[(iv p0.p.Unit), (.slice Ap0_0 (p0.p.Tools).length cp0_0), (.slice Ap0_1 (p0.p.Steps).length cp0_1), (.slice Ap0_2 (p0.tools).length cp0_2), (.slice Ap0_3 (p0.image).length cp0_3), (.bool p0.clear), (iv p0.tool), (iv p0.place.X), (iv p0.place.Y), (.bool p0.placed), (iv p0.off), (iv p0.on)] 77, ow Ap0_3 cp0_3 107 zJ p0.image])) : Calls Tryz.prog 107 [(.pointer (some ⟨bp0, 0, none⟩)), (.slice Ap1_0 (p1).length cp1_0), (.agg #[(iv p2.X), (iv p2.Y)])].toArray w.W fun e W' => ∃ (w' : Bs) (u : (Option Addr × Nat)), w.Le w' ∧ e = .returned (iv r.1) ∧ (SlF u.1 (r.2).length u.2) ∧ HF w' W' (LEn [bx bp0 #[(iv p0.p.Unit), (.slice Ap0_0 (p0.p.Tools).length cp0_0), (.slice Ap0_1 (p0.p.Steps).length cp0_1), (.slice Ap0_2 (p0.tools).length cp0_2), (.slice u.1 (r.2).length u.2), (.bool p0.clear), (iv p0.tool), (iv p0.place.X), (iv p0.place.Y), (.bool p0.placed), (iv p0.off), (iv p0.on)] 77, ow u.1 u.2 107 zJ r.2]) := by
 unfold F_plot_machine__area at H
 have hfhp0_3 := (hE.sl (k := 1) rfl).form
 have leB := Bs.Le.refl w
 refine Tr.enter (n := 36) Tryz.func107 rfl rfl rfl hE ?_
 refine Tr.sr ?_
 refine Tr.box 2 (cs := [(iv p2.X), (iv p2.Y)]) (wn rfl) rfl rfl rfl fun b100 => ?_
 refine Tr.asg rfl rfl ?_
 refine Tr.nil (Tr.zA ?_)
 refine Tr.sr ?_
 refine Tr.asg rfl rfl ?_
 refine Tr.nilOwn 3 43 zy ?_
 show Tr _ _ (uf _ 7 (.slice none (([] : List zI)).length 0)) _ _
 refine Tr.nil (Tr.zA ?_)
 refine Tr.seq ?_
 refine Tr.sr ?_
 refine Tr.mv rfl rfl ?_
 refine Tr.va rfl (fun _ _ h1 h2 => zq un_44 (h1.ev rfl)) ?_
 refine Tr.mv rfl rfl ?_
 refine Tr.nil (Tr.zA ?_)
 refine Tr.block ?_
 refine Tr.loop (σ := (List zI) × Nat × (List zI) × (Option Addr) × Nat) (fun m w s => m = s.1.length + 1 ∧ s.1 = List.drop s.2.1 p1 ∧ s.2.1 ≤ p1.length ∧ F_plot_machine__area_L1 N p0 p2 s.1 s.2.1 s.2.2.1 = some r ∧ SlF s.2.2.2.1 (s.2.2.1).length s.2.2.2.2) (fun s => [(0, (.pointer (some ⟨bp0, 0, none⟩))), (5, (.pointer (some ⟨b100, 0, none⟩))), (7, (.slice s.2.2.2.1 (s.2.2.1).length s.2.2.2.2)), (11, (.slice Ap1_0 (p1).length cp1_0)), (12, (iv (p1.length : Int))), (13, (iv (s.2.1 : Int)))]) (fun s => [(0, bx bp0 #[(iv p0.p.Unit), (.slice Ap0_0 (p0.p.Tools).length cp0_0), (.slice Ap0_1 (p0.p.Steps).length cp0_1), (.slice Ap0_2 (p0.tools).length cp0_2), (.slice Ap0_3 (p0.image).length cp0_3), (.bool p0.clear), (iv p0.tool), (iv p0.place.X), (iv p0.place.Y), (.bool p0.placed), (iv p0.off), (iv p0.on)] 77), (1, ow Ap0_3 cp0_3 107 zJ p0.image), (2, bx b100 #[(iv p2.X), (iv p2.Y)] 43), (3, ow s.2.2.2.1 s.2.2.2.2 43 zy s.2.2.1)]) (p1.length + 1) (p1, 0, ([] : List zI), none, 0) ⟨rfl, rfl, Nat.zero_le _, H, slf_nil⟩ (.cons rfl (.cons rfl (.cons rfl (.cons rfl (.cons rfl (.cons rfl .nil)))))) (.cons rfl (.cons rfl (.cons rfl (.cons rfl .nil)))) (fun _ _ h => absurd h.1 (by simp)) ?_
 intro w leL1 m s hs
 obtain ⟨restL1, iL1, l117, Al117, cl117⟩ := s
 obtain ⟨hmL1, hdL1, hiL1, H, hl117⟩ := hs
 replace hdL1 : restL1 = List.drop iL1 p1 := hdL1
 replace H : F_plot_machine__area_L1 N p0 p2 restL1 iL1 l117 = some r := H
 replace hmL1 : m + 1 = restL1.length + 1 := hmL1
 replace hp0_0 := hp0_0.leR leL1
 replace hp0_1 := hp0_1.leR leL1
 replace hp0_2 := hp0_2.leR leL1
 replace hp1_0 := hp1_0.leR leL1
 replace leB := leB.trans leL1
 replace hl117 : SlF Al117 (l117).length cl117 := hl117
 obtain rfl : m = restL1.length := by omega
 clear hmL1
 show Tr _ _ (LF [(0, (.pointer (some ⟨bp0, 0, none⟩))), (5, (.pointer (some ⟨b100, 0, none⟩))), (7, (.slice Al117 (l117).length cl117)), (11, (.slice Ap1_0 (p1).length cp1_0)), (12, (iv (p1.length : Int))), (13, (iv (iL1 : Int)))]) (LE [(0, bx bp0 #[(iv p0.p.Unit), (.slice Ap0_0 (p0.p.Tools).length cp0_0), (.slice Ap0_1 (p0.p.Steps).length cp0_1), (.slice Ap0_2 (p0.tools).length cp0_2), (.slice Ap0_3 (p0.image).length cp0_3), (.bool p0.clear), (iv p0.tool), (iv p0.place.X), (iv p0.place.Y), (.bool p0.placed), (iv p0.off), (iv p0.on)] 77), (1, ow Ap0_3 cp0_3 107 zJ p0.image), (2, bx b100 #[(iv p2.X), (iv p2.Y)] 43), (3, ow Al117 cl117 43 zy l117)]) _
 cases restL1 with
 | nil =>
  rw [F_plot_machine__area_L1.eq_1] at H
  refine Tr.sr ?_
  refine Tr.va rfl (fun _ _ h1 h2 => zz (h1.ev rfl) (h1.ev rfl)) ?_
  refine Tr.nil (Tr.zA ?_)
  refine Tr.seq ?_
  refine Tr.condF rfl (range_nil hdL1) ?_
  refine Tr.exit (Tr.zX (Tr.zX (Tr.zAC (Tr.zA ?_))))
  refine Tr.sr ?_
  refine Tr.mv rfl rfl ?_
  refine Tr.freeze 3 rfl fun w le119 hz118 => ?_
  replace hp0_0 := hp0_0.leR le119
  replace hp0_1 := hp0_1.leR le119
  replace hp0_2 := hp0_2.leR le119
  replace hp1_0 := hp1_0.leR le119
  replace leB := leB.trans le119
  replace leL1 := leL1.trans le119
  refine Tr.buildSlice 8 (e := 44) (vs := [(0, (.slice Al117 (l117).length cl117))]) (cs := [(.slice Al117 (l117).length cl117)]) (wn rfl) rfl (zi rfl evs_nil) (by kernel_rfl) fun b120 => ?_
  refine Tr.own 8 fl_LTPoint [l117] (css := [[(.slice Al117 (l117).length cl117)]]) rfl (.cons ⟨(Al117, cl117), hz118, rfl⟩ .nil) rfl (by decide) (lit_max rfl) ?_
  obtain ⟨y121, hy121, H⟩ := bnd H
  refine Tr.callG [9] [emp] (U := (Option Addr × Nat)) (fun u => (.slice u.1 (y121).length u.2)) (fun O W u => SlF u.1 (y121).length u.2) (fun u => [ow u.1 u.2 107 zJ y121]) rfl (zM rfl zY) (fun _ => rfl) (wn rfl) rfl Tryz.call127 (zF rfl zO) (fun W hW hp hE => F_shape_Around_ok N [l117] (some ⟨b120, 0, none⟩) 1 (hW.slS (k := 8) rfl hp rfl) y121 hy121 hE) ?_
  intro w u le122 hu
  obtain ⟨Ay121_0, cy121_0⟩ := u
  have gy121_0 := hu
  replace hp0_0 := hp0_0.leR le122
  replace hp0_1 := hp0_1.leR le122
  replace hp0_2 := hp0_2.leR le122
  replace hz118 := hz118.le le122
  replace hp1_0 := hp1_0.leR le122
  replace leB := leB.trans le122
  replace leL1 := leL1.trans le122
  have hgy121_0 : SlF Ay121_0 (y121).length cy121_0 := gy121_0 --@phi
  show Tr _ _ (uf _ 27 (.slice Ay121_0 (y121).length cy121_0)) (up _ 9 (ow Ay121_0 cy121_0 107 zJ y121)) _
  refine Tr.asg rfl rfl ?_
  refine Tr.nil (Tr.zA ?_)
  refine Tr.seq ?_
  refine Tr.sr ?_
  refine Tr.mv rfl rfl ?_
  obtain ⟨y123, hy123, H⟩ := bnd H
  refine Tr.call0 (r := (iv y123)) (wn rfl) rfl Tryz.call89 (zF rfl zO) (fun W hW => F_shape_Set__Many_ok y121 Ay121_0 cy121_0 (hW.slCall (k := 9) rfl) y123 hy123 (HF.start _)) ?_
  refine Tr.va rfl (fun _ _ h1 h2 => run_gtr (h1.ev rfl) (h1.ev rfl)) ?_
  refine Tr.nil (Tr.zA ?_)
  refine Tr.cond rfl H (fun H => ?_) (fun H => ?_)
  ·refine Tr.sr ?_
   refine Tr.asg rfl rfl ?_
   refine Tr.nil (Tr.zA ?_)
   refine Tr.ret (Tr.zU ?_)
   obtain rfl := Option.some.inj H
   exact Tr.out (m := [(iv 2)]) [] (zP rfl zQ) (fun W hW => ⟨w, (Ap0_3, cp0_3), leB, rfl, hfhp0_3, hW.pick (ks := [0, 1]) (by decide) (zM rfl (zM rfl zY))⟩)
  ·refine Tr.skip (Tr.zA ?_)
   refine Tr.seq ?_
   refine Tr.sr ?_
   refine Tr.mv rfl rfl ?_
   obtain ⟨y124, hy124, H⟩ := bnd H
   refine Tr.call0 (r := (.bool y124)) (wn rfl) rfl Tryz.call98 (zF rfl (zF rfl zO)) (fun W hW => F_slices_ContainsFunc_Point_ok l117 Al117 cl117 (hz118.rl.ext hW.extAll) (fun z0 => F_plot_machine__area_1 z0) 128 [] Tryz.call128 (fun w' he z0 y hy => F_plot_machine__area_1_ok z0 y hy (HF.start _)) y124 hy124 (HF.start _)) ?_
   refine Tr.nil (Tr.zA ?_)
   refine Tr.cond rfl H (fun H => ?_) (fun H => ?_)
   ·refine Tr.sr ?_
    refine Tr.asg rfl rfl ?_
    refine Tr.nil (Tr.zA ?_)
    refine Tr.ret (Tr.zU ?_)
    obtain rfl := Option.some.inj H
    exact Tr.out (m := [(iv 1)]) [] (zP rfl zQ) (fun W hW => ⟨w, (Ap0_3, cp0_3), leB, rfl, hfhp0_3, hW.pick (ks := [0, 1]) (by decide) (zM rfl (zM rfl zY))⟩)
   ·refine Tr.skip (Tr.zA ?_)
    refine Tr.sr ?_
    refine Tr.mv rfl rfl ?_
    refine Tr.mv rfl rfl ?_
    refine Tr.freeze 9 rfl fun w le126 hz125 => ?_
    replace hp0_0 := hp0_0.leR le126
    replace hp0_1 := hp0_1.leR le126
    replace hp0_2 := hp0_2.leR le126
    replace hz118 := hz118.le le126
    replace hp1_0 := hp1_0.leR le126
    replace leB := leB.trans le126
    replace leL1 := leL1.trans le126
    obtain ⟨y127, hy127, H⟩ := bnd H
    refine Tr.callG [0, 1] [bx bp0 #[(iv p0.p.Unit), (.slice Ap0_0 (p0.p.Tools).length cp0_0), (.slice Ap0_1 (p0.p.Steps).length cp0_1), (.slice Ap0_2 (p0.tools).length cp0_2), (.slice Ap0_3 (p0.image).length cp0_3), (.bool p0.clear), (iv p0.tool), (iv p0.place.X), (iv p0.place.Y), (.bool p0.placed), (iv p0.off), (iv p0.on)] 77, ow Ap0_3 cp0_3 107 zJ p0.image] (U := (Option Addr × Nat)) (fun u => (iv y127.1)) (fun O W u => SlF u.1 (y127.2).length u.2) (fun u => [bx bp0 #[(iv p0.p.Unit), (.slice Ap0_0 (p0.p.Tools).length cp0_0), (.slice Ap0_1 (p0.p.Steps).length cp0_1), (.slice Ap0_2 (p0.tools).length cp0_2), (.slice u.1 (y127.2).length u.2), (.bool p0.clear), (iv p0.tool), (iv p0.place.X), (iv p0.place.Y), (.bool p0.placed), (iv p0.off), (iv p0.on)] 77, ow u.1 u.2 107 zJ y127.2]) rfl (zM rfl (zM rfl zY)) (fun _ => rfl) (wn rfl) rfl Tryz.call125 (zF rfl (zF rfl zO)) (fun W hW hp hE => F_plot_machine__draw_ok N p0 Ap0_0 cp0_0 (hp0_0.ext (hW.extS hp)) Ap0_1 cp0_1 (hp0_1.ext (hW.extS hp)) Ap0_2 cp0_2 (hp0_2.ext (hW.extS hp)) Ap0_3 cp0_3 bp0 y121 Ay121_0 cy121_0 (hz125.extO (hW.extS hp)) y127 hy127 hE) ?_
    intro w u le128 hu
    obtain ⟨Ay127_0, cy127_0⟩ := u
    have gy127_0 := hu
    replace hp0_0 := hp0_0.leR le128
    replace hp0_1 := hp0_1.leR le128
    replace hp0_2 := hp0_2.leR le128
    replace hz118 := hz118.le le128
    replace hp1_0 := hp1_0.leR le128
    replace hz125 := hz125.le le128
    replace leB := leB.trans le128
    replace leL1 := leL1.trans le128
    have hgy127_0 : SlF Ay127_0 (y127.2).length cy127_0 := gy127_0 --@phi
    show Tr _ _ (uf _ 35 (iv y127.1)) (up (up _ 1 (ow Ay127_0 cy127_0 107 zJ y127.2)) 0 (bx bp0 #[(iv p0.p.Unit), (.slice Ap0_0 (p0.p.Tools).length cp0_0), (.slice Ap0_1 (p0.p.Steps).length cp0_1), (.slice Ap0_2 (p0.tools).length cp0_2), (.slice Ay127_0 (y127.2).length cy127_0), (.bool p0.clear), (iv p0.tool), (iv p0.place.X), (iv p0.place.Y), (.bool p0.placed), (iv p0.off), (iv p0.on)] 77)) _
    refine Tr.asg rfl rfl ?_
    refine Tr.nil (Tr.zA ?_)
    refine Tr.ret ?_
    obtain rfl := Option.some.inj H
    exact Tr.out (m := [(iv y127.1)]) [] (zP rfl zQ) (fun W hW => ⟨w, (Ay127_0, cy127_0), leB, rfl, hgy127_0, hW.pick (ks := [0, 1]) (by decide) (zM rfl (zM rfl zY))⟩)
 | cons xL1 restL1 =>
  rw [F_plot_machine__area_L1.eq_2] at H
  refine Tr.sr ?_
  refine Tr.va rfl (fun _ _ h1 h2 => zz (h1.ev rfl) (h1.ev rfl)) ?_
  refine Tr.nil (Tr.zA ?_)
  refine Tr.seq ?_
  refine Tr.condT rfl (range_on hdL1) ?_
  refine Tr.skip (Tr.zA ?_)
  refine Tr.seq ?_
  refine Tr.block ?_
  refine Tr.sr ?_
  refine Tr.va rfl (fun _ _ h1 h2 => zH el_44 (h1.ev rfl) hp1_0.form (h1.ev rfl) (Int.natCast_nonneg _) (zo hdL1)) ?_
  refine Tr.va rfl (fun _ _ h1 h2 => zR (cs := [(iv xL1.X), (iv xL1.Y)]) ag_43 sz_43 (h1.ev rfl) (zL.take (rdF ef_TPoint hp1_0 (range_at hdL1) h2) 2) rfl) ?_
  refine Tr.alloc 10 (wn rfl) rfl ze_43 fun b129 => ?_
  refine Tr.store 10 (cs := [(iv xL1.X), (iv xL1.Y)]) [(iv xL1.X), (iv xL1.Y)] (wn rfl) rfl rfl rfl rfl sz_43 rfl rfl rfl ?_
  refine Tr.nil (Tr.zA ?_)
  refine Tr.region ?_
  refine Tr.mv rfl rfl ?_
  refine Tr.mv rfl rfl ?_
  refine Tr.va rfl (fun _ _ h1 h2 => zR (cs := [(iv xL1.X), (iv xL1.Y)]) ag_43 sz_43 (h1.ev rfl) (zL.take (rdb h2 (vs := [(iv xL1.X), (iv xL1.Y)]) (k := 10) rfl 0) 2) rfl) ?_
  refine Tr.va rfl (fun _ _ h1 h2 => zR (cs := [(iv p2.X), (iv p2.Y)]) ag_43 sz_43 (h1.ev rfl) (zL.take (rdb h2 (vs := [(iv p2.X), (iv p2.Y)]) (k := 2) rfl 0) 2) rfl) ?_
  obtain ⟨y130, hy130, H⟩ := bnd H
  refine Tr.call0 (r := (.agg #[(iv y130.X), (iv y130.Y)])) (wn rfl) rfl Tryz.call103 (zF rfl (zF rfl (zF rfl zO))) (fun W hW => F_plot_machine__moved_ok p0 Ap0_0 cp0_0 (hp0_0.ext hW.extAll) Ap0_1 cp0_1 (hp0_1.ext hW.extAll) Ap0_2 cp0_2 (hp0_2.ext hW.extAll) Ap0_3 cp0_3 (hW.slCall (k := 1) rfl) bp0 (hW.capR (k := 0) rfl) (hW.capC (k := 0) rfl) xL1 p2 y130 hy130 (HF.start _)) ?_
  refine Tr.buildSlice 11 (e := 43) (vs := [(0, (.agg #[(iv y130.X), (iv y130.Y)]))]) (cs := [(iv y130.X), (iv y130.Y)]) (wn rfl) rfl (zi rfl evs_nil) (by kernel_rfl) fun b131 => ?_
  obtain ⟨l132, hl132, H⟩ := bnd H
  refine Tr.append 3 (t := zy) (l := l117) (l2 := [y130]) (wn rfl) rfl rfl rfl rfl (fun W hW => ⟨[[(iv y130.X), (iv y130.Y)]], (.cons ⟨(), trivial, rfl⟩ .nil), rdb hW (vs := [(iv y130.X), (iv y130.Y)]) (k := 11) rfl 0⟩) un_44 sz_43 zl_43 (by decide) by_43 rfl hl132 fun Al132 cl132 hAl132 => ?_
  refine Tr.asg rfl rfl ?_
  refine Tr.nil (Tr.zW (Tr.zA ?_))
  refine Tr.region ?_
  refine Tr.va rfl (fun _ _ h1 h2 => zx (h1.ev rfl) (h1.ev rfl)) ?_
  refine Tr.mv rfl rfl ?_
  refine Tr.nil ?_
  exact Tr.zZ leL1 (restL1, (iL1 + 1), l132, Al132, cl132) ⟨rfl, range_tl hdL1, zo hdL1, H, hAl132⟩ (.cons rfl (.cons rfl (.cons rfl (.cons rfl (.cons rfl (.cons (congrArg (fun z => some (Value.int .i64 z)) (range_up hdL1 hp1_0.form)) .nil)))))) (.cons rfl (.cons rfl (.cons rfl (.cons rfl .nil))))

end Go.Proofs.YtoageaoknnnfbaaGreatDoor
