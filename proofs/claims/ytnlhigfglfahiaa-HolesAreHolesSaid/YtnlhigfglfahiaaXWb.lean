/- The walks: each function computes its plain function. -/
import Derived.Test.YtnlhigfglfahiaaXWa
namespace Go.Proofs.Ytnlhigfglfahiaa
open Go.RowKit
set_option maxRecDepth 100000
set_option maxHeartbeats 1000000
theorem F_shape_line_ok (N : Nat) {w : Bs} (p0 : (List Int)) (Ap0_0 : Option Addr) (cp0_0 : Nat) (hp0_0 : Sl w.R w.W fl_i64 Ap0_0 cp0_0 p0) (p1 : (List Int)) (Ap1_0 : Option Addr) (cp1_0 : Nat) (hp1_0 : Sl w.R w.W fl_i64 Ap1_0 cp1_0 p1) (p2 : Bool → Bool → Option Bool) (fid2 : Nat) (cap2 : List Value) (hg2 : ∀ args W, (callFunc fid2 args).run Try.prog W = .ok (.enter fid2 args) W) (hf2 : ∀ (w' : Bs), w.Ext w' → ∀ (z0 : Bool) (z1 : Bool), ∀ y, p2 z0 z1 = some y → Calls Try.prog fid2 (([(.bool z0), (.bool z1)] : List Value) ++ cap2).toArray w'.W fun e W'' => e = .returned (.bool y) ∧ HF w' W'' E0) (r : (List Int)) (H : F_shape_line N p0 p1 p2 = some r) (hE : HF w w.W (LEn [emp])) : Calls Try.prog 116 [(.slice Ap0_0 (p0).length cp0_0), (.slice Ap1_0 (p1).length cp1_0), (.func (.func fid2) #[] cap2.toArray)].toArray w.W fun e W' => ∃ u : (Option Addr × Nat), e = .returned (.slice u.1 (r).length u.2) ∧ (SlF u.1 (r).length u.2) ∧ HF w W' (LEn [ow u.1 u.2 3 fl_i64 r]) := by
  unfold F_shape_line at H
  have leB := Bs.Le.refl w
  refine Tr.enter (n := 85) Try.func116 rfl rfl rfl hE ?_
  refine Tr.seq ?_
  refine Tr.region ?_
  refine Tr.val (wn rfl) rfl (fun _ _ h1 h2 => run_assign (h1.ev rfl)) ?_
  refine Tr.nilOwn 1 3 fl_i64 ?_
  show Tr _ _ (uf _ 6 (.slice none (([] : List Int)).length 0)) _ _
  refine Tr.nil (Tr.normThen ?_)
  refine Tr.seq ?_
  refine Tr.region ?_
  refine Tr.val (wn rfl) rfl (fun _ _ h1 h2 => run_assign (h1.ev rfl)) ?_
  refine Tr.nilOwn 2 3 fl_i64 ?_
  show Tr _ _ (uf _ 7 (.slice none (([] : List Int)).length 0)) _ _
  refine Tr.nil (Tr.normThen ?_)
  refine Tr.seq ?_
  refine Tr.region ?_
  refine Tr.val (wn rfl) rfl (fun _ _ h1 h2 => run_assign (h1.ev rfl)) ?_
  refine Tr.val (wn rfl) rfl (fun _ _ h1 h2 => run_assign (h1.ev rfl)) ?_
  refine Tr.val (wn rfl) rfl (fun _ _ h1 h2 => run_assign (h1.ev rfl)) ?_
  refine Tr.nil (Tr.normThen ?_)
  refine Tr.seq ?_
  refine Tr.block ?_
  refine Tr.loop (σ := (List Int) × (List Int) × (List Int) × Bool × Bool × Bool × (Option Addr) × Nat × (Option Addr) × Nat × (Option Addr) × Nat) (fun m w s => F_shape_line_L7 p2 m s.1 s.2.1 s.2.2.1 s.2.2.2.1 s.2.2.2.2.1 s.2.2.2.2.2.1 = some r ∧ Sl w.R w.W fl_i64 s.2.2.2.2.2.2.1 s.2.2.2.2.2.2.2.1 s.1 ∧ Sl w.R w.W fl_i64 s.2.2.2.2.2.2.2.2.1 s.2.2.2.2.2.2.2.2.2.1 s.2.1 ∧ SlF s.2.2.2.2.2.2.2.2.2.2.1 (s.2.2.1).length s.2.2.2.2.2.2.2.2.2.2.2) (fun s => [(0, (.slice s.2.2.2.2.2.2.1 (s.1).length s.2.2.2.2.2.2.2.1)), (1, (.slice s.2.2.2.2.2.2.2.2.1 (s.2.1).length s.2.2.2.2.2.2.2.2.2.1)), (2, (.func (.func fid2) #[] cap2.toArray)), (7, (.slice s.2.2.2.2.2.2.2.2.2.2.1 (s.2.2.1).length s.2.2.2.2.2.2.2.2.2.2.2)), (8, (.bool s.2.2.2.1)), (9, (.bool s.2.2.2.2.1)), (10, (.bool s.2.2.2.2.2.1))]) (fun s => [(2, ow s.2.2.2.2.2.2.2.2.2.2.1 s.2.2.2.2.2.2.2.2.2.2.2 3 fl_i64 s.2.2.1)]) N (p0, p1, ([] : List Int), false, false, false, Ap0_0, cp0_0, Ap1_0, cp1_0, none, 0) ⟨H, hp0_0, hp1_0, slf_nil⟩ (.cons rfl (.cons rfl (.cons rfl (.cons rfl (.cons rfl (.cons rfl (.cons rfl .nil))))))) (.cons rfl .nil) (fun _ _ h => noSome (h.1)) ?_
  intro w leF_shape_line_L7 mF_shape_line_L7 s hs
  obtain ⟨l230, l231, l232, x233, x234, x235, Al230, cl230, Al231, cl231, Al232, cl232⟩ := s
  obtain ⟨H, hl230, hl231, hl232⟩ := hs
  replace H : F_shape_line_L7 p2 (mF_shape_line_L7 + 1) l230 l231 l232 x233 x234 x235 = some r := H
  replace hf2 := fun w' he => hf2 w' (leF_shape_line_L7.ext.trans he)
  replace leB := leB.trans leF_shape_line_L7
  replace hl230 : Sl w.R w.W fl_i64 Al230 cl230 l230 := hl230
  replace hl231 : Sl w.R w.W fl_i64 Al231 cl231 l231 := hl231
  replace hl232 : SlF Al232 (l232).length cl232 := hl232
  rw [F_shape_line_L7.eq_2] at H
  show Tr _ _ (LF [(0, (.slice Al230 (l230).length cl230)), (1, (.slice Al231 (l231).length cl231)), (2, (.func (.func fid2) #[] cap2.toArray)), (7, (.slice Al232 (l232).length cl232)), (8, (.bool x233)), (9, (.bool x234)), (10, (.bool x235))]) (LE [(2, ow Al232 cl232 3 fl_i64 l232)]) _
  refine Tr.seq ?_
  refine Tr.seq ?_
  refine Tr.region ?_
  refine Tr.val (wn rfl) rfl (fun _ _ h1 h2 => run_move (h1.ev rfl)) ?_
  refine Tr.val (wn rfl) rfl (fun _ _ h1 h2 => run_len un_97 (h1.ev rfl)) ?_
  refine Tr.val (wn rfl) rfl (fun _ _ h1 h2 => run_gtr (h1.ev rfl) (h1.ev rfl)) ?_
  refine Tr.val (wn rfl) rfl (fun _ _ h1 h2 => run_move (h1.ev rfl)) ?_
  refine Tr.mid0 4 [(0, (.slice Al230 (l230).length cl230)), (1, (.slice Al231 (l231).length cl231)), (2, (.func (.func fid2) #[] cap2.toArray)), (7, (.slice Al232 (l232).length cl232)), (8, (.bool x233)), (9, (.bool x234)), (10, (.bool x235)), (20, (.bool ((decide (0 < (l230.length : Int))) || (decide (0 < (l231.length : Int))))))] [(2, ow Al232 cl232 3 fl_i64 l232)] ?_ ?_
  · cases hg291 : (decide (0 < (l230.length : Int)))
    · refine Tr.val (wg rfl rfl rfl) rfl (fun _ _ h1 h2 => run_move (h1.ev rfl)) ?_
      refine Tr.val (wg rfl rfl rfl) rfl (fun _ _ h1 h2 => run_len un_97 (h1.ev rfl)) ?_
      refine Tr.val (wg rfl rfl rfl) rfl (fun _ _ h1 h2 => run_gtr (h1.ev rfl) (h1.ev rfl)) ?_
      refine Tr.val (wn rfl) rfl (fun _ _ h1 h2 => run_pickF (h1.ev rfl) (h1.ev rfl)) ?_
      exact Tr.nil (Tr.fin0 (.cons rfl (.cons rfl (.cons rfl (.cons rfl (.cons rfl (.cons rfl (.cons rfl (.cons rfl .nil)))))))) (.cons rfl .nil))
    · refine Tr.pass rfl rfl rfl rfl rfl (by decide) ?_
      refine Tr.pass rfl rfl rfl rfl rfl (by decide) ?_
      refine Tr.pass rfl rfl rfl rfl rfl (by decide) ?_
      refine Tr.val (wn rfl) rfl (fun _ _ h1 h2 => run_pickT (h1.ev rfl) (h1.ev rfl)) ?_
      exact Tr.nil (Tr.fin0 (.cons rfl (.cons rfl (.cons rfl (.cons rfl (.cons rfl (.cons rfl (.cons rfl (.cons rfl .nil)))))))) (.cons rfl .nil))
  · show Tr _ _ (LF [(0, (.slice Al230 (l230).length cl230)), (1, (.slice Al231 (l231).length cl231)), (2, (.func (.func fid2) #[] cap2.toArray)), (7, (.slice Al232 (l232).length cl232)), (8, (.bool x233)), (9, (.bool x234)), (10, (.bool x235)), (20, (.bool ((decide (0 < (l230.length : Int))) || (decide (0 < (l231.length : Int))))))]) (LE [(2, ow Al232 cl232 3 fl_i64 l232)]) _
    refine Tr.nil (Tr.normThen ?_)
    refine Tr.cond rfl H (fun H => ?_) (fun H => ?_)
    · refine Tr.skip (Tr.normThen ?_)
      refine Tr.block ?_
      refine Tr.seq ?_
      refine Tr.region ?_
      refine Tr.val (wn rfl) rfl (fun _ _ h1 h2 => run_assign (h1.ev rfl)) ?_
      refine Tr.nil (Tr.normThen ?_)
      have leJ250 := Bs.Le.refl w
      refine Tr.cutJ (σ := Int) (fun w s => F_shape_line_J10 p2 l230 l231 l232 x233 x234 x235 (F_shape_line_L7 p2 mF_shape_line_L7) s = some r) (fun s => [(0, (.slice Al230 (l230).length cl230)), (1, (.slice Al231 (l231).length cl231)), (2, (.func (.func fid2) #[] cap2.toArray)), (7, (.slice Al232 (l232).length cl232)), (8, (.bool x233)), (9, (.bool x234)), (10, (.bool x235)), (11, (.int .i64 s))]) (fun s => [(2, ow Al232 cl232 3 fl_i64 l232)]) ?_ ?_
      · refine Tr.seq ?_
        refine Tr.draw (by kernel_rfl) (by kernel_rfl) ?_
        refine Tq.val (wn rfl) rfl (fun _ _ h1 h2 => run_move (h1.ev rfl)) ?_
        refine Tq.val (wn rfl) rfl (fun _ _ h1 h2 => run_len un_97 (h1.ev rfl)) ?_
        refine Tq.val (wn rfl) rfl (fun _ _ h1 h2 => run_eql (h1.ev rfl) (h1.ev rfl)) ?_
        refine Tq.val (wn rfl) rfl (fun _ _ h1 h2 => run_move (h1.ev rfl)) ?_
        obtain ⟨g284, hg284, H⟩ := bnd H
        refine Tq.mid 13 [(0, (.slice Al230 (l230).length cl230)), (1, (.slice Al231 (l231).length cl231)), (2, (.func (.func fid2) #[] cap2.toArray)), (7, (.slice Al232 (l232).length cl232)), (8, (.bool x233)), (9, (.bool x234)), (10, (.bool x235)), (37, (.bool g284))] ?_ ?_
        · cases hg291 : ((l231.length : Int) == 0)
          · rw [hg291] at hg284
            rw [if_neg (by decide)] at hg284
            have H := hg284
            refine Tq.val (wg rfl rfl rfl) rfl (fun _ _ h1 h2 => run_move (h1.ev rfl)) ?_
            refine Tq.val (wg rfl rfl rfl) rfl (fun _ _ h1 h2 => run_len un_97 (h1.ev rfl)) ?_
            refine Tq.val (wg rfl rfl rfl) rfl (fun _ _ h1 h2 => run_gtr (h1.ev rfl) (h1.ev rfl)) ?_
            refine Tq.val (wg rfl rfl rfl) rfl (fun _ _ h1 h2 => run_move (h1.ev rfl)) ?_
            obtain ⟨g287, hg287, H⟩ := bnd H
            refine Tq.mid 8 [(0, (.slice Al230 (l230).length cl230)), (1, (.slice Al231 (l231).length cl231)), (2, (.func (.func fid2) #[] cap2.toArray)), (7, (.slice Al232 (l232).length cl232)), (8, (.bool x233)), (9, (.bool x234)), (10, (.bool x235)), (24, (.bool false)), (36, (.bool g287))] ?_ ?_
            · cases hg289 : (decide (0 < (l230.length : Int)))
              · rw [hg289] at hg287
                rw [if_neg (by decide)] at hg287
                have H := hg287
                obtain rfl := Option.some.inj H
                refine Tq.pass rfl rfl rfl rfl rfl (by decide) ?_
                refine Tq.pass rfl rfl rfl rfl rfl (by decide) ?_
                refine Tq.pass rfl rfl rfl rfl rfl (by decide) ?_
                refine Tq.pass rfl rfl rfl rfl rfl (by decide) ?_
                refine Tq.pass rfl rfl rfl rfl rfl (by decide) ?_
                refine Tq.pass rfl rfl rfl rfl rfl (by decide) ?_
                refine Tq.pass rfl rfl rfl rfl rfl (by decide) ?_
                refine Tq.val (wg rfl rfl rfl) rfl (fun _ _ h1 h2 => run_pickF (h1.ev rfl) (h1.ev rfl)) ?_
                exact Tq.fin (.cons rfl (.cons rfl (.cons rfl (.cons rfl (.cons rfl (.cons rfl (.cons rfl (.cons rfl (.cons rfl .nil)))))))))
              · rw [hg289] at hg287
                rw [if_pos rfl] at hg287
                have H := hg287
                refine Tq.val (wg rfl rfl rfl) rfl (fun _ _ h1 h2 => run_move (h1.ev rfl)) ?_
                obtain ⟨x288, hx288, H⟩ := bnd H
                obtain ⟨hx2880, hx2881, hx2882⟩ := idx_some hx288
                refine Tq.val (wg rfl rfl rfl) rfl (fun _ _ h1 h2 => run_indexAddr el_97 (h1.ev rfl) hl230.form (h1.ev rfl) hx2880 hx2881) ?_
                refine Tq.val (wg rfl rfl rfl) rfl (fun _ _ h1 h2 => run_load1 ag_3 (h1.ev rfl) (rdF ef_i64 hl230 hx2882 h2) rfl) ?_
                refine Tq.val (wg rfl rfl rfl) rfl (fun _ _ h1 h2 => run_move (h1.ev rfl)) ?_
                obtain ⟨x289, hx289, H⟩ := bnd H
                obtain ⟨hx2890, hx2891, hx2892⟩ := idx_some hx289
                refine Tq.val (wg rfl rfl rfl) rfl (fun _ _ h1 h2 => run_indexAddr el_97 (h1.ev rfl) hl231.form (h1.ev rfl) hx2890 hx2891) ?_
                refine Tq.val (wg rfl rfl rfl) rfl (fun _ _ h1 h2 => run_load1 ag_3 (h1.ev rfl) (rdF ef_i64 hl231 hx2892 h2) rfl) ?_
                refine Tq.val (wg rfl rfl rfl) rfl (fun _ _ h1 h2 => run_leq (h1.ev rfl) (h1.ev rfl)) ?_
                refine Tq.val (wg rfl rfl rfl) rfl (fun _ _ h1 h2 => run_pickT (h1.ev rfl) (h1.ev rfl)) ?_
                obtain rfl := Option.some.inj H
                exact Tq.fin (.cons rfl (.cons rfl (.cons rfl (.cons rfl (.cons rfl (.cons rfl (.cons rfl (.cons rfl (.cons rfl .nil)))))))))
            · refine Tq.val (wn rfl) rfl (fun _ _ h1 h2 => run_pickF (h1.ev rfl) (h1.ev rfl)) ?_
              obtain rfl := Option.some.inj H
              exact Tq.fin (.cons rfl (.cons rfl (.cons rfl (.cons rfl (.cons rfl (.cons rfl (.cons rfl (.cons rfl .nil))))))))
          · rw [hg291] at hg284
            rw [if_pos rfl] at hg284
            have H := hg284
            obtain rfl := Option.some.inj H
            refine Tq.pass rfl rfl rfl rfl rfl (by decide) ?_
            refine Tq.pass rfl rfl rfl rfl rfl (by decide) ?_
            refine Tq.pass rfl rfl rfl rfl rfl (by decide) ?_
            refine Tq.pass rfl rfl rfl rfl rfl (by decide) ?_
            refine Tq.passU rfl rfl rfl rfl (by decide) ?_
            refine Tq.passU rfl rfl rfl rfl (by decide) ?_
            refine Tq.passU rfl rfl rfl rfl (by decide) ?_
            refine Tq.passU rfl rfl rfl rfl (by decide) ?_
            refine Tq.passU rfl rfl rfl rfl (by decide) ?_
            refine Tq.passU rfl rfl rfl rfl (by decide) ?_
            refine Tq.passU rfl rfl rfl rfl (by decide) ?_
            refine Tq.pass rfl rfl rfl rfl rfl (by decide) ?_
            refine Tq.val (wn rfl) rfl (fun _ _ h1 h2 => run_pickT (h1.ev rfl) (h1.ev rfl)) ?_
            exact Tq.fin (.cons rfl (.cons rfl (.cons rfl (.cons rfl (.cons rfl (.cons rfl (.cons rfl (.cons rfl .nil))))))))
        · refine Tq.nil (Tr.normThen ?_)
          refine Tr.cond rfl H (fun H => ?_) (fun H => ?_)
          · refine Tr.region ?_
            refine Tr.val (wn rfl) rfl (fun _ _ h1 h2 => run_move (h1.ev rfl)) ?_
            obtain ⟨x290, hx290, H⟩ := bnd H
            obtain ⟨hx2900, hx2901, hx2902⟩ := idx_some hx290
            refine Tr.val (wn rfl) rfl (fun _ _ h1 h2 => run_indexAddr el_97 (h1.ev rfl) hl230.form (h1.ev rfl) hx2900 hx2901) ?_
            refine Tr.val (wn rfl) rfl (fun _ _ h1 h2 => run_load1 ag_3 (h1.ev rfl) (rdF ef_i64 hl230 hx2902 h2) rfl) ?_
            refine Tr.val (wn rfl) rfl (fun _ _ h1 h2 => run_assign (h1.ev rfl)) ?_
            refine Tr.nil ?_
            exact Tr.backThen leJ250 x290 H (.cons rfl (.cons rfl (.cons rfl (.cons rfl (.cons rfl (.cons rfl (.cons rfl (.cons rfl .nil)))))))) (.cons rfl .nil)
          · refine Tr.region ?_
            refine Tr.val (wn rfl) rfl (fun _ _ h1 h2 => run_move (h1.ev rfl)) ?_
            obtain ⟨x291, hx291, H⟩ := bnd H
            obtain ⟨hx2910, hx2911, hx2912⟩ := idx_some hx291
            refine Tr.val (wn rfl) rfl (fun _ _ h1 h2 => run_indexAddr el_97 (h1.ev rfl) hl231.form (h1.ev rfl) hx2910 hx2911) ?_
            refine Tr.val (wn rfl) rfl (fun _ _ h1 h2 => run_load1 ag_3 (h1.ev rfl) (rdF ef_i64 hl231 hx2912 h2) rfl) ?_
            refine Tr.val (wn rfl) rfl (fun _ _ h1 h2 => run_assign (h1.ev rfl)) ?_
            refine Tr.nil ?_
            exact Tr.backThen leJ250 x291 H (.cons rfl (.cons rfl (.cons rfl (.cons rfl (.cons rfl (.cons rfl (.cons rfl (.cons rfl .nil)))))))) (.cons rfl .nil)
      · intro w x249 hlJ251 hs
        have H := hs
        replace H : F_shape_line_J10 p2 l230 l231 l232 x233 x234 x235 (F_shape_line_L7 p2 mF_shape_line_L7) x249 = some r := H
        replace hl230 := hl230.leR hlJ251
        replace hl231 := hl231.leR hlJ251
        replace hf2 := fun w' he => hf2 w' (hlJ251.ext.trans he)
        replace leB := leB.trans hlJ251
        replace leF_shape_line_L7 := leF_shape_line_L7.trans hlJ251
        unfold F_shape_line_J10 at H
        show Tr _ _ (LF [(0, (.slice Al230 (l230).length cl230)), (1, (.slice Al231 (l231).length cl231)), (2, (.func (.func fid2) #[] cap2.toArray)), (7, (.slice Al232 (l232).length cl232)), (8, (.bool x233)), (9, (.bool x234)), (10, (.bool x235)), (11, (.int .i64 x249))]) (LE [(2, ow Al232 cl232 3 fl_i64 l232)]) _
        have leJ258 := Bs.Le.refl w
        refine Tr.cutJ (σ := (List Int) × Bool × (Option Addr) × Nat) (fun w s => F_shape_line_J9 p2 l231 l232 x234 x235 (F_shape_line_L7 p2 mF_shape_line_L7) x249 s.1 s.2.1 = some r ∧ Sl w.R w.W fl_i64 s.2.2.1 s.2.2.2 s.1) (fun s => [(0, (.slice s.2.2.1 (s.1).length s.2.2.2)), (1, (.slice Al231 (l231).length cl231)), (2, (.func (.func fid2) #[] cap2.toArray)), (7, (.slice Al232 (l232).length cl232)), (8, (.bool s.2.1)), (9, (.bool x234)), (10, (.bool x235)), (11, (.int .i64 x249))]) (fun s => [(2, ow Al232 cl232 3 fl_i64 l232)]) ?_ ?_
        · refine Tr.seq ?_
          refine Tr.region ?_
          refine Tr.val (wn rfl) rfl (fun _ _ h1 h2 => run_move (h1.ev rfl)) ?_
          refine Tr.val (wn rfl) rfl (fun _ _ h1 h2 => run_len un_97 (h1.ev rfl)) ?_
          refine Tr.val (wn rfl) rfl (fun _ _ h1 h2 => run_gtr (h1.ev rfl) (h1.ev rfl)) ?_
          refine Tr.val (wn rfl) rfl (fun _ _ h1 h2 => run_move (h1.ev rfl)) ?_
          obtain ⟨g276, hg276, H⟩ := bnd H
          refine Tr.mid0 6 [(0, (.slice Al230 (l230).length cl230)), (1, (.slice Al231 (l231).length cl231)), (2, (.func (.func fid2) #[] cap2.toArray)), (7, (.slice Al232 (l232).length cl232)), (8, (.bool x233)), (9, (.bool x234)), (10, (.bool x235)), (11, (.int .i64 x249)), (53, (.bool g276))] [(2, ow Al232 cl232 3 fl_i64 l232)] ?_ ?_
          · cases hg278 : (decide (0 < (l230.length : Int)))
            · rw [hg278] at hg276
              rw [if_neg (by decide)] at hg276
              have H := hg276
              obtain rfl := Option.some.inj H
              refine Tr.pass rfl rfl rfl rfl rfl (by decide) ?_
              refine Tr.pass rfl rfl rfl rfl rfl (by decide) ?_
              refine Tr.pass rfl rfl rfl rfl rfl (by decide) ?_
              refine Tr.pass rfl rfl rfl rfl rfl (by decide) ?_
              refine Tr.pass rfl rfl rfl rfl rfl (by decide) ?_
              refine Tr.val (wn rfl) rfl (fun _ _ h1 h2 => run_pickF (h1.ev rfl) (h1.ev rfl)) ?_
              exact Tr.nil (Tr.fin0 (.cons rfl (.cons rfl (.cons rfl (.cons rfl (.cons rfl (.cons rfl (.cons rfl (.cons rfl (.cons rfl .nil))))))))) (.cons rfl .nil))
            · rw [hg278] at hg276
              rw [if_pos rfl] at hg276
              have H := hg276
              refine Tr.val (wg rfl rfl rfl) rfl (fun _ _ h1 h2 => run_move (h1.ev rfl)) ?_
              obtain ⟨x277, hx277, H⟩ := bnd H
              obtain ⟨hx2770, hx2771, hx2772⟩ := idx_some hx277
              refine Tr.val (wg rfl rfl rfl) rfl (fun _ _ h1 h2 => run_indexAddr el_97 (h1.ev rfl) hl230.form (h1.ev rfl) hx2770 hx2771) ?_
              refine Tr.val (wg rfl rfl rfl) rfl (fun _ _ h1 h2 => run_load1 ag_3 (h1.ev rfl) (rdF ef_i64 hl230 hx2772 h2) rfl) ?_
              refine Tr.val (wg rfl rfl rfl) rfl (fun _ _ h1 h2 => run_move (h1.ev rfl)) ?_
              refine Tr.val (wg rfl rfl rfl) rfl (fun _ _ h1 h2 => run_eql (h1.ev rfl) (h1.ev rfl)) ?_
              refine Tr.val (wn rfl) rfl (fun _ _ h1 h2 => run_pickT (h1.ev rfl) (h1.ev rfl)) ?_
              obtain rfl := Option.some.inj H
              exact Tr.nil (Tr.fin0 (.cons rfl (.cons rfl (.cons rfl (.cons rfl (.cons rfl (.cons rfl (.cons rfl (.cons rfl (.cons rfl .nil))))))))) (.cons rfl .nil))
          · show Tr _ _ (LF [(0, (.slice Al230 (l230).length cl230)), (1, (.slice Al231 (l231).length cl231)), (2, (.func (.func fid2) #[] cap2.toArray)), (7, (.slice Al232 (l232).length cl232)), (8, (.bool x233)), (9, (.bool x234)), (10, (.bool x235)), (11, (.int .i64 x249)), (53, (.bool g276))]) (LE [(2, ow Al232 cl232 3 fl_i64 l232)]) _
            refine Tr.nil (Tr.normThen ?_)
            refine Tr.cond rfl H (fun H => ?_) (fun H => ?_)
            · refine Tr.region ?_
              refine Tr.val (wn rfl) rfl (fun _ _ h1 h2 => run_move (h1.ev rfl)) ?_
              obtain ⟨l278, hl278, H⟩ := bnd H
              refine Tr.val (wn rfl) rfl (fun _ _ h1 h2 => run_cutL el_97 (h1.ev rfl) hl230.form (h1.ev rfl) hl278) ?_
              refine Tr.val (wn rfl) rfl (fun _ _ h1 h2 => run_move (h1.ev rfl)) ?_
              refine Tr.val (wn rfl) rfl (fun _ _ h1 h2 => run_not (h1.ev rfl)) ?_
              refine Tr.val (wn rfl) rfl (fun _ _ h1 h2 => run_assign (h1.ev rfl)) ?_
              refine Tr.val (wn rfl) rfl (fun _ _ h1 h2 => run_assign (h1.ev rfl)) ?_
              refine Tr.nil ?_
              exact Tr.backThen leJ258 (l278, (!x233), (cutA Al230 (1 : Int).toNat 1 cl230), (cl230 - (1 : Int).toNat)) ⟨H, (Sl.cut hl230 hl278)⟩ (.cons rfl (.cons rfl (.cons rfl (.cons rfl (.cons rfl (.cons rfl (.cons rfl (.cons rfl .nil)))))))) (.cons rfl .nil)
            · refine Tr.skip ?_
              exact Tr.backThen leJ258 (l230, x233, Al230, cl230) ⟨H, hl230⟩ (.cons rfl (.cons rfl (.cons rfl (.cons rfl (.cons rfl (.cons rfl (.cons rfl (.cons rfl .nil)))))))) (.cons rfl .nil)
        · intro w s hlJ259 hs
          obtain ⟨l256, x257, Al256, cl256⟩ := s
          obtain ⟨H, hl256⟩ := hs
          replace H : F_shape_line_J9 p2 l231 l232 x234 x235 (F_shape_line_L7 p2 mF_shape_line_L7) x249 l256 x257 = some r := H
          replace hl231 := hl231.leR hlJ259
          replace hf2 := fun w' he => hf2 w' (hlJ259.ext.trans he)
          replace leB := leB.trans hlJ259
          replace leF_shape_line_L7 := leF_shape_line_L7.trans hlJ259
          replace hl256 : Sl w.R w.W fl_i64 Al256 cl256 l256 := hl256
          unfold F_shape_line_J9 at H
          show Tr _ _ (LF [(0, (.slice Al256 (l256).length cl256)), (1, (.slice Al231 (l231).length cl231)), (2, (.func (.func fid2) #[] cap2.toArray)), (7, (.slice Al232 (l232).length cl232)), (8, (.bool x257)), (9, (.bool x234)), (10, (.bool x235)), (11, (.int .i64 x249))]) (LE [(2, ow Al232 cl232 3 fl_i64 l232)]) _
          have leJ266 := Bs.Le.refl w
          refine Tr.cutJ (σ := (List Int) × Bool × (Option Addr) × Nat) (fun w s => F_shape_line_J8 p2 l232 x235 (F_shape_line_L7 p2 mF_shape_line_L7) x249 l256 x257 s.1 s.2.1 = some r ∧ Sl w.R w.W fl_i64 s.2.2.1 s.2.2.2 s.1) (fun s => [(0, (.slice Al256 (l256).length cl256)), (1, (.slice s.2.2.1 (s.1).length s.2.2.2)), (2, (.func (.func fid2) #[] cap2.toArray)), (7, (.slice Al232 (l232).length cl232)), (8, (.bool x257)), (9, (.bool s.2.1)), (10, (.bool x235)), (11, (.int .i64 x249))]) (fun s => [(2, ow Al232 cl232 3 fl_i64 l232)]) ?_ ?_
          · refine Tr.seq ?_
            refine Tr.region ?_
            refine Tr.val (wn rfl) rfl (fun _ _ h1 h2 => run_move (h1.ev rfl)) ?_
            refine Tr.val (wn rfl) rfl (fun _ _ h1 h2 => run_len un_97 (h1.ev rfl)) ?_
            refine Tr.val (wn rfl) rfl (fun _ _ h1 h2 => run_gtr (h1.ev rfl) (h1.ev rfl)) ?_
            refine Tr.val (wn rfl) rfl (fun _ _ h1 h2 => run_move (h1.ev rfl)) ?_
            obtain ⟨g272, hg272, H⟩ := bnd H
            refine Tr.mid0 6 [(0, (.slice Al256 (l256).length cl256)), (1, (.slice Al231 (l231).length cl231)), (2, (.func (.func fid2) #[] cap2.toArray)), (7, (.slice Al232 (l232).length cl232)), (8, (.bool x257)), (9, (.bool x234)), (10, (.bool x235)), (11, (.int .i64 x249)), (67, (.bool g272))] [(2, ow Al232 cl232 3 fl_i64 l232)] ?_ ?_
            · cases hg274 : (decide (0 < (l231.length : Int)))
              · rw [hg274] at hg272
                rw [if_neg (by decide)] at hg272
                have H := hg272
                obtain rfl := Option.some.inj H
                refine Tr.pass rfl rfl rfl rfl rfl (by decide) ?_
                refine Tr.pass rfl rfl rfl rfl rfl (by decide) ?_
                refine Tr.pass rfl rfl rfl rfl rfl (by decide) ?_
                refine Tr.pass rfl rfl rfl rfl rfl (by decide) ?_
                refine Tr.pass rfl rfl rfl rfl rfl (by decide) ?_
                refine Tr.val (wn rfl) rfl (fun _ _ h1 h2 => run_pickF (h1.ev rfl) (h1.ev rfl)) ?_
                exact Tr.nil (Tr.fin0 (.cons rfl (.cons rfl (.cons rfl (.cons rfl (.cons rfl (.cons rfl (.cons rfl (.cons rfl (.cons rfl .nil))))))))) (.cons rfl .nil))
              · rw [hg274] at hg272
                rw [if_pos rfl] at hg272
                have H := hg272
                refine Tr.val (wg rfl rfl rfl) rfl (fun _ _ h1 h2 => run_move (h1.ev rfl)) ?_
                obtain ⟨x273, hx273, H⟩ := bnd H
                obtain ⟨hx2730, hx2731, hx2732⟩ := idx_some hx273
                refine Tr.val (wg rfl rfl rfl) rfl (fun _ _ h1 h2 => run_indexAddr el_97 (h1.ev rfl) hl231.form (h1.ev rfl) hx2730 hx2731) ?_
                refine Tr.val (wg rfl rfl rfl) rfl (fun _ _ h1 h2 => run_load1 ag_3 (h1.ev rfl) (rdF ef_i64 hl231 hx2732 h2) rfl) ?_
                refine Tr.val (wg rfl rfl rfl) rfl (fun _ _ h1 h2 => run_move (h1.ev rfl)) ?_
                refine Tr.val (wg rfl rfl rfl) rfl (fun _ _ h1 h2 => run_eql (h1.ev rfl) (h1.ev rfl)) ?_
                refine Tr.val (wn rfl) rfl (fun _ _ h1 h2 => run_pickT (h1.ev rfl) (h1.ev rfl)) ?_
                obtain rfl := Option.some.inj H
                exact Tr.nil (Tr.fin0 (.cons rfl (.cons rfl (.cons rfl (.cons rfl (.cons rfl (.cons rfl (.cons rfl (.cons rfl (.cons rfl .nil))))))))) (.cons rfl .nil))
            · show Tr _ _ (LF [(0, (.slice Al256 (l256).length cl256)), (1, (.slice Al231 (l231).length cl231)), (2, (.func (.func fid2) #[] cap2.toArray)), (7, (.slice Al232 (l232).length cl232)), (8, (.bool x257)), (9, (.bool x234)), (10, (.bool x235)), (11, (.int .i64 x249)), (67, (.bool g272))]) (LE [(2, ow Al232 cl232 3 fl_i64 l232)]) _
              refine Tr.nil (Tr.normThen ?_)
              refine Tr.cond rfl H (fun H => ?_) (fun H => ?_)
              · refine Tr.region ?_
                refine Tr.val (wn rfl) rfl (fun _ _ h1 h2 => run_move (h1.ev rfl)) ?_
                obtain ⟨l274, hl274, H⟩ := bnd H
                refine Tr.val (wn rfl) rfl (fun _ _ h1 h2 => run_cutL el_97 (h1.ev rfl) hl231.form (h1.ev rfl) hl274) ?_
                refine Tr.val (wn rfl) rfl (fun _ _ h1 h2 => run_move (h1.ev rfl)) ?_
                refine Tr.val (wn rfl) rfl (fun _ _ h1 h2 => run_not (h1.ev rfl)) ?_
                refine Tr.val (wn rfl) rfl (fun _ _ h1 h2 => run_assign (h1.ev rfl)) ?_
                refine Tr.val (wn rfl) rfl (fun _ _ h1 h2 => run_assign (h1.ev rfl)) ?_
                refine Tr.nil ?_
                exact Tr.backThen leJ266 (l274, (!x234), (cutA Al231 (1 : Int).toNat 1 cl231), (cl231 - (1 : Int).toNat)) ⟨H, (Sl.cut hl231 hl274)⟩ (.cons rfl (.cons rfl (.cons rfl (.cons rfl (.cons rfl (.cons rfl (.cons rfl (.cons rfl .nil)))))))) (.cons rfl .nil)
              · refine Tr.skip ?_
                exact Tr.backThen leJ266 (l231, x234, Al231, cl231) ⟨H, hl231⟩ (.cons rfl (.cons rfl (.cons rfl (.cons rfl (.cons rfl (.cons rfl (.cons rfl (.cons rfl .nil)))))))) (.cons rfl .nil)
          · intro w s hlJ267 hs
            obtain ⟨l264, x265, Al264, cl264⟩ := s
            obtain ⟨H, hl264⟩ := hs
            replace H : F_shape_line_J8 p2 l232 x235 (F_shape_line_L7 p2 mF_shape_line_L7) x249 l256 x257 l264 x265 = some r := H
            replace hl256 := hl256.leR hlJ267
            replace hf2 := fun w' he => hf2 w' (hlJ267.ext.trans he)
            replace leB := leB.trans hlJ267
            replace leF_shape_line_L7 := leF_shape_line_L7.trans hlJ267
            replace hl264 : Sl w.R w.W fl_i64 Al264 cl264 l264 := hl264
            unfold F_shape_line_J8 at H
            show Tr _ _ (LF [(0, (.slice Al256 (l256).length cl256)), (1, (.slice Al264 (l264).length cl264)), (2, (.func (.func fid2) #[] cap2.toArray)), (7, (.slice Al232 (l232).length cl232)), (8, (.bool x257)), (9, (.bool x265)), (10, (.bool x235)), (11, (.int .i64 x249))]) (LE [(2, ow Al232 cl232 3 fl_i64 l232)]) _
            refine Tr.seq ?_
            refine Tr.region ?_
            refine Tr.val (wn rfl) rfl (fun _ _ h1 h2 => run_move (h1.ev rfl)) ?_
            refine Tr.val (wn rfl) rfl (fun _ _ h1 h2 => run_move (h1.ev rfl)) ?_
            refine Tr.val (wn rfl) rfl (fun _ _ h1 h2 => run_move (h1.ev rfl)) ?_
            obtain ⟨y268, hy268, H⟩ := bnd H
            refine Tr.callF (r := (.bool y268)) (wn rfl) rfl rfl hg2 (evl_cons rfl (evl_cons rfl evl_nil)) (fun W hW => hf2 hW.all hW.extAll x257 x265 _ hy268) ?_
            refine Tr.val (wn rfl) rfl (fun _ _ h1 h2 => run_assign (h1.ev rfl)) ?_
            refine Tr.nil (Tr.normThen ?_)
            refine Tr.seq ?_
            refine Tr.region ?_
            refine Tr.val (wn rfl) rfl (fun _ _ h1 h2 => run_move (h1.ev rfl)) ?_
            refine Tr.val (wn rfl) rfl (fun _ _ h1 h2 => run_move (h1.ev rfl)) ?_
            refine Tr.val (wn rfl) rfl (fun _ _ h1 h2 => run_neqB un_4 (h1.ev rfl) (h1.ev rfl)) ?_
            refine Tr.nil (Tr.normThen ?_)
            refine Tr.cond rfl H (fun H => ?_) (fun H => ?_)
            · refine Tr.region ?_
              refine Tr.val (wn rfl) rfl (fun _ _ h1 h2 => run_move (h1.ev rfl)) ?_
              refine Tr.val (wn rfl) rfl (fun _ _ h1 h2 => run_move (h1.ev rfl)) ?_
              refine Tr.buildSlice 5 (e := 3) (vs := [(0, (.int .i64 x249))]) (cs := [(.int .i64 x249)]) (wn rfl) rfl (evs_cons rfl evs_nil) (by kernel_rfl) fun b269 => ?_
              obtain ⟨l270, hl270, H⟩ := bnd H
              refine Tr.append 2 (t := fl_i64) (l := l232) (l2 := [x249]) (wn rfl) rfl rfl rfl rfl (fun W hW => ⟨[[(.int .i64 x249)]], (.cons ⟨(), trivial, rfl⟩ .nil), rdb hW (vs := [(.int .i64 x249)]) (k := 5) rfl 0⟩) un_97 sz_3 zl_3 (by decide) by_3 rfl hl270 fun Al270 cl270 hAl270 => ?_
              refine Tr.val (wn rfl) rfl (fun _ _ h1 h2 => run_move (h1.ev rfl)) ?_
              refine Tr.val (wn rfl) rfl (fun _ _ h1 h2 => run_assign (h1.ev rfl)) ?_
              refine Tr.val (wn rfl) rfl (fun _ _ h1 h2 => run_assign (h1.ev rfl)) ?_
              refine Tr.nil (Tr.normBlock ?_)
              exact Tr.backThen leF_shape_line_L7 (l256, l264, l270, x257, x265, y268, Al256, cl256, Al264, cl264, Al270, cl270) ⟨H, hl256, hl264, hAl270⟩ (.cons rfl (.cons rfl (.cons rfl (.cons rfl (.cons rfl (.cons rfl (.cons rfl .nil))))))) (.cons rfl .nil)
            · refine Tr.skip (Tr.normBlock ?_)
              exact Tr.backThen leF_shape_line_L7 (l256, l264, l232, x257, x265, x235, Al256, cl256, Al264, cl264, Al232, cl232) ⟨H, hl256, hl264, hl232⟩ (.cons rfl (.cons rfl (.cons rfl (.cons rfl (.cons rfl (.cons rfl (.cons rfl .nil))))))) (.cons rfl .nil)
    · refine Tr.exit (Tr.exitThen (Tr.exitThen (Tr.exitBlock (Tr.normThen ?_))))
      refine Tr.seq ?_
      refine Tr.region ?_
      refine Tr.val (wn rfl) rfl (fun _ _ h1 h2 => run_move (h1.ev rfl)) ?_
      refine Tr.val (wn rfl) rfl (fun _ _ h1 h2 => run_assign (h1.ev rfl)) ?_
      refine Tr.nil (Tr.normThen ?_)
      refine Tr.ret ?_
      obtain rfl := Option.some.inj H
      exact Tr.out (m := [(.slice Al232 (l232).length cl232)]) [] (res_tmp rfl res_nil) (fun W hW => ⟨(Al232, cl232), rfl, hl232, HF.lowE leB (hW.pick (ks := [2]) (by decide) (pk_cons rfl pk_nil)) ⟨ow_any _ _ _ _ tr_i64, trivial⟩⟩)

theorem F_shape_Merge_ok (N : Nat) {w : Bs} (p0 : (List TBand)) (Ap0_0 : Option Addr) (cp0_0 : Nat) (hp0_0 : Sl w.O w.W fl_TBand Ap0_0 cp0_0 p0) (p1 : (List TBand)) (Ap1_0 : Option Addr) (cp1_0 : Nat) (hp1_0 : Sl w.O w.W fl_TBand Ap1_0 cp1_0 p1) (p2 : Bool → Bool → Option Bool) (fid2 : Nat) (cap2 : List Value) (hg2 : ∀ args W, (callFunc fid2 args).run Try.prog W = .ok (.enter fid2 args) W) (hf2 : ∀ (w' : Bs), w.Ext w' → ∀ (z0 : Bool) (z1 : Bool), ∀ y, p2 z0 z1 = some y → Calls Try.prog fid2 (([(.bool z0), (.bool z1)] : List Value) ++ cap2).toArray w'.W fun e W'' => e = .returned (.bool y) ∧ HF w' W'' E0) (r : (List TBand)) (H : F_shape_Merge N p0 p1 p2 = some r) (hE : HF w w.W (LEn [emp])) : Calls Try.prog 78 [(.slice Ap0_0 (p0).length cp0_0), (.slice Ap1_0 (p1).length cp1_0), (.func (.func fid2) #[] cap2.toArray)].toArray w.W fun e W' => ∃ (w' : Bs) (u : (Option Addr × Nat)), w.Le w' ∧ e = .returned (.slice u.1 (r).length u.2) ∧ (SlF u.1 (r).length u.2) ∧ HF w' W' (LEn [ow u.1 u.2 104 fl_TBand r]) := by
  unfold F_shape_Merge at H
  have leB := Bs.Le.refl w
  refine Tr.enter (n := 126) Try.func78 rfl rfl rfl hE ?_
  refine Tr.seq ?_
  refine Tr.region ?_
  refine Tr.val (wn rfl) rfl (fun _ _ h1 h2 => run_assign (h1.ev rfl)) ?_
  refine Tr.nilOwn 1 104 fl_TBand ?_
  show Tr _ _ (uf _ 6 (.slice none (([] : List TBand)).length 0)) _ _
  refine Tr.nil (Tr.normThen ?_)
  refine Tr.seq ?_
  refine Tr.region ?_
  refine Tr.val (wn rfl) rfl (fun _ _ h1 h2 => run_assign (h1.ev rfl)) ?_
  refine Tr.nilOwn 2 104 fl_TBand ?_
  show Tr _ _ (uf _ 7 (.slice none (([] : List TBand)).length 0)) _ _
  refine Tr.nil (Tr.normThen ?_)
  refine Tr.seq ?_
  refine Tr.seq ?_
  refine Tr.region ?_
  refine Tr.val (wn rfl) rfl (fun _ _ h1 h2 => run_move (h1.ev rfl)) ?_
  refine Tr.val (wn rfl) rfl (fun _ _ h1 h2 => run_len un_65 (h1.ev rfl)) ?_
  refine Tr.val (wn rfl) rfl (fun _ _ h1 h2 => run_move (h1.ev rfl)) ?_
  refine Tr.val (wn rfl) rfl (fun _ _ h1 h2 => run_len un_65 (h1.ev rfl)) ?_
  refine Tr.val (wn rfl) rfl (fun _ _ h1 h2 => run_add (h1.ev rfl) (h1.ev rfl)) ?_
  refine Tr.val (wn rfl) rfl (fun _ _ h1 h2 => run_eql (h1.ev rfl) (h1.ev rfl)) ?_
  refine Tr.nil (Tr.normThen ?_)
  refine Tr.cond rfl H (fun H => ?_) (fun H => ?_)
  · refine Tr.seq ?_
    refine Tr.region ?_
    refine Tr.val (wn rfl) rfl (fun _ _ h1 h2 => run_assign (h1.ev rfl)) ?_
    refine Tr.nilOwn 3 104 fl_TBand ?_
    show Tr _ _ (uf _ 6 (.slice none (([] : List TBand)).length 0)) _ _
    refine Tr.nil (Tr.normThen ?_)
    refine Tr.ret (Tr.retThen ?_)
    obtain rfl := Option.some.inj H
    exact Tr.out (m := [(.slice none (([] : List TBand)).length 0)]) [] (res_tmp rfl res_nil) (fun W hW => ⟨w, (none, 0), leB, rfl, slf_nil, hW.pick (ks := [3]) (by decide) (pk_cons rfl pk_nil)⟩)
  · refine Tr.skip (Tr.normThen ?_)
    refine Tr.seq ?_
    refine Tr.region ?_
    refine Tr.val (wn rfl) rfl (fun _ _ h1 h2 => run_assign (h1.ev rfl)) ?_
    refine Tr.val (wn rfl) rfl (fun _ _ h1 h2 => run_assign (h1.ev rfl)) ?_
    refine Tr.nil (Tr.normThen ?_)
    refine Tr.seq ?_
    refine Tr.seq ?_
    refine Tr.region ?_
    refine Tr.val (wn rfl) rfl (fun _ _ h1 h2 => run_move (h1.ev rfl)) ?_
    refine Tr.val (wn rfl) rfl (fun _ _ h1 h2 => run_move (h1.ev rfl)) ?_
    refine Tr.buildSlice 4 (e := 65) (vs := [(0, (.slice Ap0_0 (p0).length cp0_0)), (1, (.slice Ap1_0 (p1).length cp1_0))]) (cs := [(.slice Ap0_0 (p0).length cp0_0), (.slice Ap1_0 (p1).length cp1_0)]) (wn rfl) rfl (evs_cons rfl (evs_cons rfl evs_nil)) (by kernel_rfl) fun b100 => ?_
    refine Tr.val (wn rfl) rfl (fun _ _ h1 h2 => run_len un_75 (h1.ev rfl)) ?_
    refine Tr.val (wn rfl) rfl (fun _ _ h1 h2 => run_move (h1.ev rfl)) ?_
    refine Tr.nil (Tr.normThen ?_)
    refine Tr.block ?_
    refine Tr.own 4 fl_LTBand [p0, p1] (css := [[(.slice Ap0_0 (p0).length cp0_0)], [(.slice Ap1_0 (p1).length cp1_0)]]) rfl (.cons ⟨(Ap0_0, cp0_0), hp0_0, rfl⟩ (.cons ⟨(Ap1_0, cp1_0), hp1_0, rfl⟩ .nil)) rfl (by decide) (lit_max rfl) ?_
    refine Tr.ren 4 9 rfl rfl rfl ?_
    refine Tr.loop (σ := Int × Int × (List (List TBand)) × Int × (Option Addr) × Nat) (fun m w s => F_shape_Merge_L3 N p0 p1 p2 m s.1 s.2.1 s.2.2.1 s.2.2.2.1 = some r ∧ SlF s.2.2.2.2.1 (s.2.2.1).length s.2.2.2.2.2) (fun s => [(0, (.slice Ap0_0 (p0).length cp0_0)), (1, (.slice Ap1_0 (p1).length cp1_0)), (2, (.func (.func fid2) #[] cap2.toArray)), (7, (.slice none (([] : List TBand)).length 0)), (8, (.int .i64 s.1)), (9, (.int .i64 s.2.1)), (25, (.slice s.2.2.2.2.1 (s.2.2.1).length s.2.2.2.2.2)), (26, (.int .i64 2)), (27, (.int .i64 s.2.2.2.1))]) (fun s => [(2, ow none 0 104 fl_TBand ([] : List TBand)), (9, ow s.2.2.2.2.1 s.2.2.2.2.2 65 fl_LTBand s.2.2.1)]) N (0, 0, [p0, p1], 0, (some ⟨b100, 0, none⟩), 2) ⟨H, (lit_form b100 rfl)⟩ (.cons rfl (.cons rfl (.cons rfl (.cons rfl (.cons rfl (.cons rfl (.cons rfl (.cons rfl (.cons rfl .nil))))))))) (.cons rfl (.cons rfl .nil)) (fun _ _ h => noSome (h.1)) ?_
    intro w leF_shape_Merge_L3 mF_shape_Merge_L3 s hs
    obtain ⟨x150, x151, l152, x153, Al152, cl152⟩ := s
    obtain ⟨H, hl152⟩ := hs
    replace H : F_shape_Merge_L3 N p0 p1 p2 (mF_shape_Merge_L3 + 1) x150 x151 l152 x153 = some r := H
    replace hp0_0 := hp0_0.le leF_shape_Merge_L3
    replace hp1_0 := hp1_0.le leF_shape_Merge_L3
    replace hf2 := fun w' he => hf2 w' (leF_shape_Merge_L3.ext.trans he)
    replace leB := leB.trans leF_shape_Merge_L3
    replace hl152 : SlF Al152 (l152).length cl152 := hl152
    rw [F_shape_Merge_L3.eq_2] at H
    show Tr _ _ (LF [(0, (.slice Ap0_0 (p0).length cp0_0)), (1, (.slice Ap1_0 (p1).length cp1_0)), (2, (.func (.func fid2) #[] cap2.toArray)), (7, (.slice none (([] : List TBand)).length 0)), (8, (.int .i64 x150)), (9, (.int .i64 x151)), (25, (.slice Al152 (l152).length cl152)), (26, (.int .i64 2)), (27, (.int .i64 x153))]) (LE [(2, ow none 0 104 fl_TBand ([] : List TBand)), (9, ow Al152 cl152 65 fl_LTBand l152)]) _
    refine Tr.seq ?_
    refine Tr.region ?_
    refine Tr.val (wn rfl) rfl (fun _ _ h1 h2 => run_lss (h1.ev rfl) (h1.ev rfl)) ?_
    refine Tr.nil (Tr.normThen ?_)
    refine Tr.seq ?_
    refine Tr.cond rfl H (fun H => ?_) (fun H => ?_)
    · refine Tr.skip (Tr.normThen ?_)
      refine Tr.seq ?_
      refine Tr.block ?_
      refine Tr.seq ?_
      refine Tr.region ?_
      refine Tr.val (wn rfl) rfl (fun _ _ h1 h2 => run_move (h1.ev rfl)) ?_
      obtain ⟨x154, hx154, H⟩ := bnd H
      obtain ⟨hx1540, hx1541, hx1542⟩ := idx_some hx154
      refine Tr.val (wn rfl) rfl (fun _ _ h1 h2 => run_indexAddr el_75 (h1.ev rfl) hl152 (h1.ev rfl) hx1540 hx1541) ?_
      refine Tr.valE (U := (fl_LTBand).Ad) (fun u => (fl_LTBand).ok w.O w.W u x154) (fun u => (.slice u.1 (x154).length u.2)) (wn rfl) rfl (ldN (κ := 9) (t := fl_LTBand) (V := fun u => (.slice u.1 (x154).length u.2)) rfl hx1542 (fun _ _ u h1 hc => run_load1 ag_65 (h1.ev rfl) hc rfl)) ?_
      intro u155 hoku155
      obtain ⟨Au155_0, cu155_0⟩ := u155
      have hoku155_0 := hoku155
      replace hoku155_0 : Sl w.O w.W fl_TBand Au155_0 cu155_0 x154 := hoku155_0
      show Tr _ _ (uf _ 31 (.slice Au155_0 (x154).length cu155_0)) _ _
      refine Tr.val (wn rfl) rfl (fun _ _ h1 h2 => run_assign (h1.ev rfl)) ?_
      refine Tr.val (wn rfl) rfl (fun _ _ h1 h2 => run_assign (h1.ev rfl)) ?_
      refine Tr.nil (Tr.normThen ?_)
      refine Tr.seq ?_
      refine Tr.region ?_
      refine Tr.val (wn rfl) rfl (fun _ _ h1 h2 => run_move (h1.ev rfl)) ?_
      refine Tr.val (wn rfl) rfl (fun _ _ h1 h2 => run_len un_65 (h1.ev rfl)) ?_
      refine Tr.val (wn rfl) rfl (fun _ _ h1 h2 => run_gtr (h1.ev rfl) (h1.ev rfl)) ?_
      refine Tr.nil (Tr.normThen ?_)
      refine Tr.cond rfl H (fun H => ?_) (fun H => ?_)
      · have leJ162 := Bs.Le.refl w
        refine Tr.cutJ (σ := Int × Int) (fun w s => F_shape_Merge_J4 l152 x153 (F_shape_Merge_L3 N p0 p1 p2 mF_shape_Merge_L3) x154 s.1 s.2 = some r) (fun s => [(0, (.slice Ap0_0 (p0).length cp0_0)), (1, (.slice Ap1_0 (p1).length cp1_0)), (2, (.func (.func fid2) #[] cap2.toArray)), (7, (.slice none (([] : List TBand)).length 0)), (8, (.int .i64 s.1)), (9, (.int .i64 s.2)), (11, (.slice Au155_0 (x154).length cu155_0)), (25, (.slice Al152 (l152).length cl152)), (26, (.int .i64 2)), (27, (.int .i64 x153))]) (fun s => [(2, ow none 0 104 fl_TBand ([] : List TBand)), (9, ow Al152 cl152 65 fl_LTBand l152)]) ?_ ?_
        · refine Tr.seq ?_
          refine Tr.region ?_
          refine Tr.val (wn rfl) rfl (fun _ _ h1 h2 => run_move (h1.ev rfl)) ?_
          refine Tr.val (wn rfl) rfl (fun _ _ h1 h2 => run_eql (h1.ev rfl) (h1.ev rfl)) ?_
          refine Tr.val (wn rfl) rfl (fun _ _ h1 h2 => run_move (h1.ev rfl)) ?_
          refine Tr.mid0 4 [(0, (.slice Ap0_0 (p0).length cp0_0)), (1, (.slice Ap1_0 (p1).length cp1_0)), (2, (.func (.func fid2) #[] cap2.toArray)), (7, (.slice none (([] : List TBand)).length 0)), (8, (.int .i64 x150)), (9, (.int .i64 x151)), (11, (.slice Au155_0 (x154).length cu155_0)), (25, (.slice Al152 (l152).length cl152)), (26, (.int .i64 2)), (27, (.int .i64 x153)), (41, (.bool ((x153 == 0) || ((p0.length : Int) == 0))))] [(2, ow none 0 104 fl_TBand ([] : List TBand)), (9, ow Al152 cl152 65 fl_LTBand l152)] ?_ ?_
          · cases hg171 : (x153 == 0)
            · refine Tr.val (wg rfl rfl rfl) rfl (fun _ _ h1 h2 => run_move (h1.ev rfl)) ?_
              refine Tr.val (wg rfl rfl rfl) rfl (fun _ _ h1 h2 => run_len un_65 (h1.ev rfl)) ?_
              refine Tr.val (wg rfl rfl rfl) rfl (fun _ _ h1 h2 => run_eql (h1.ev rfl) (h1.ev rfl)) ?_
              refine Tr.val (wn rfl) rfl (fun _ _ h1 h2 => run_pickF (h1.ev rfl) (h1.ev rfl)) ?_
              exact Tr.nil (Tr.fin0 (.cons rfl (.cons rfl (.cons rfl (.cons rfl (.cons rfl (.cons rfl (.cons rfl (.cons rfl (.cons rfl (.cons rfl (.cons rfl .nil))))))))))) (.cons rfl (.cons rfl .nil)))
            · refine Tr.pass rfl rfl rfl rfl rfl (by decide) ?_
              refine Tr.pass rfl rfl rfl rfl rfl (by decide) ?_
              refine Tr.pass rfl rfl rfl rfl rfl (by decide) ?_
              refine Tr.val (wn rfl) rfl (fun _ _ h1 h2 => run_pickT (h1.ev rfl) (h1.ev rfl)) ?_
              exact Tr.nil (Tr.fin0 (.cons rfl (.cons rfl (.cons rfl (.cons rfl (.cons rfl (.cons rfl (.cons rfl (.cons rfl (.cons rfl (.cons rfl (.cons rfl .nil))))))))))) (.cons rfl (.cons rfl .nil)))
          · show Tr _ _ (LF [(0, (.slice Ap0_0 (p0).length cp0_0)), (1, (.slice Ap1_0 (p1).length cp1_0)), (2, (.func (.func fid2) #[] cap2.toArray)), (7, (.slice none (([] : List TBand)).length 0)), (8, (.int .i64 x150)), (9, (.int .i64 x151)), (11, (.slice Au155_0 (x154).length cu155_0)), (25, (.slice Al152 (l152).length cl152)), (26, (.int .i64 2)), (27, (.int .i64 x153)), (41, (.bool ((x153 == 0) || ((p0.length : Int) == 0))))]) (LE [(2, ow none 0 104 fl_TBand ([] : List TBand)), (9, ow Al152 cl152 65 fl_LTBand l152)]) _
            refine Tr.nil (Tr.normThen ?_)
            refine Tr.cond rfl H (fun H => ?_) (fun H => ?_)
            · refine Tr.draw (by kernel_rfl) (by kernel_rfl) ?_
              refine Tq.val (wn rfl) rfl (fun _ _ h1 h2 => run_move (h1.ev rfl)) ?_
              obtain ⟨x168, hx168, H⟩ := bnd H
              obtain ⟨hx1680, hx1681, hx1682⟩ := idx_some hx168
              obtain ⟨u169, hRu169, hoku169, hcu169⟩ := (hoku155_0).el hx1682
              obtain ⟨Au169_0, cu169_0⟩ := u169
              have hoku169_0 := hoku169
              replace hoku169_0 : Sl w.O w.W fl_i64 Au169_0 cu169_0 x168.Xs := hoku169_0
              replace hRu169 : w.R (adB Au155_0) := Or.inl hRu169
              refine Tq.val (wn rfl) rfl (fun _ _ h1 h2 => run_indexAddr el_65 (h1.ev rfl) hoku155_0.form (h1.ev rfl) hx1680 hx1681) ?_
              refine Tq.val (wn rfl) rfl (fun _ _ h1 h2 => run_fieldAddr fo_104_0 (h1.ev rfl)) ?_
              refine Tq.val (wn rfl) rfl (fun _ _ h1 h2 => run_load1 ag_3 (h1.ev rfl) (CellsAt.drop (rdR hRu169 hcu169 h2) 0) rfl) ?_
              refine Tq.val (wn rfl) rfl (fun _ _ h1 h2 => run_move (h1.ev rfl)) ?_
              refine Tq.val (wn rfl) rfl (fun _ _ h1 h2 => run_move (h1.ev rfl)) ?_
              refine Tq.val (wn rfl) rfl (fun _ _ h1 h2 => run_len un_65 (h1.ev rfl)) ?_
              refine Tq.val (wn rfl) rfl (fun _ _ h1 h2 => run_sub (h1.ev rfl) (h1.ev rfl)) ?_
              obtain ⟨x170, hx170, H⟩ := bnd H
              obtain ⟨hx1700, hx1701, hx1702⟩ := idx_some hx170
              obtain ⟨u171, hRu171, hoku171, hcu171⟩ := (hoku155_0).el hx1702
              obtain ⟨Au171_0, cu171_0⟩ := u171
              have hoku171_0 := hoku171
              replace hoku171_0 : Sl w.O w.W fl_i64 Au171_0 cu171_0 x170.Xs := hoku171_0
              replace hRu171 : w.R (adB Au155_0) := Or.inl hRu171
              refine Tq.val (wn rfl) rfl (fun _ _ h1 h2 => run_indexAddr el_65 (h1.ev rfl) hoku155_0.form (h1.ev rfl) hx1700 hx1701) ?_
              refine Tq.val (wn rfl) rfl (fun _ _ h1 h2 => run_fieldAddr fo_104_1 (h1.ev rfl)) ?_
              refine Tq.val (wn rfl) rfl (fun _ _ h1 h2 => run_load1 ag_3 (h1.ev rfl) (CellsAt.drop (rdR hRu171 hcu171 h2) 1) rfl) ?_
              refine Tq.val (wn rfl) rfl (fun _ _ h1 h2 => run_assign (h1.ev rfl)) ?_
              refine Tq.val (wn rfl) rfl (fun _ _ h1 h2 => run_assign (h1.ev rfl)) ?_
              refine Tq.nil ?_
              exact Tr.backThen leJ162 (x168.Y0, x170.Y1) H (.cons rfl (.cons rfl (.cons rfl (.cons rfl (.cons rfl (.cons rfl (.cons rfl (.cons rfl (.cons rfl (.cons rfl .nil)))))))))) (.cons rfl (.cons rfl .nil))
            · refine Tr.skip ?_
              exact Tr.backThen leJ162 (x150, x151) H (.cons rfl (.cons rfl (.cons rfl (.cons rfl (.cons rfl (.cons rfl (.cons rfl (.cons rfl (.cons rfl (.cons rfl .nil)))))))))) (.cons rfl (.cons rfl .nil))
        · intro w s hlJ163 hs
          obtain ⟨x160, x161⟩ := s
          have H := hs
          replace H : F_shape_Merge_J4 l152 x153 (F_shape_Merge_L3 N p0 p1 p2 mF_shape_Merge_L3) x154 x160 x161 = some r := H
          replace hp0_0 := hp0_0.le hlJ163
          replace hp1_0 := hp1_0.le hlJ163
          replace hf2 := fun w' he => hf2 w' (hlJ163.ext.trans he)
          replace hoku155_0 := hoku155_0.le hlJ163
          replace leB := leB.trans hlJ163
          replace leF_shape_Merge_L3 := leF_shape_Merge_L3.trans hlJ163
          unfold F_shape_Merge_J4 at H
          show Tr _ _ (LF [(0, (.slice Ap0_0 (p0).length cp0_0)), (1, (.slice Ap1_0 (p1).length cp1_0)), (2, (.func (.func fid2) #[] cap2.toArray)), (7, (.slice none (([] : List TBand)).length 0)), (8, (.int .i64 x160)), (9, (.int .i64 x161)), (11, (.slice Au155_0 (x154).length cu155_0)), (25, (.slice Al152 (l152).length cl152)), (26, (.int .i64 2)), (27, (.int .i64 x153))]) (LE [(2, ow none 0 104 fl_TBand ([] : List TBand)), (9, ow Al152 cl152 65 fl_LTBand l152)]) _
          refine Tr.draw (by kernel_rfl) (by kernel_rfl) ?_
          refine Tq.val (wn rfl) rfl (fun _ _ h1 h2 => run_move (h1.ev rfl)) ?_
          refine Tq.val (wn rfl) rfl (fun _ _ h1 h2 => run_move (h1.ev rfl)) ?_
          obtain ⟨x164, hx164, H⟩ := bnd H
          obtain ⟨hx1640, hx1641, hx1642⟩ := idx_some hx164
          obtain ⟨u165, hRu165, hoku165, hcu165⟩ := (hoku155_0).el hx1642
          obtain ⟨Au165_0, cu165_0⟩ := u165
          have hoku165_0 := hoku165
          replace hoku165_0 : Sl w.O w.W fl_i64 Au165_0 cu165_0 x164.Xs := hoku165_0
          replace hRu165 : w.R (adB Au155_0) := Or.inl hRu165
          refine Tq.val (wn rfl) rfl (fun _ _ h1 h2 => run_indexAddr el_65 (h1.ev rfl) hoku155_0.form (h1.ev rfl) hx1640 hx1641) ?_
          refine Tq.val (wn rfl) rfl (fun _ _ h1 h2 => run_fieldAddr fo_104_0 (h1.ev rfl)) ?_
          refine Tq.val (wn rfl) rfl (fun _ _ h1 h2 => run_load1 ag_3 (h1.ev rfl) (CellsAt.drop (rdR hRu165 hcu165 h2) 0) rfl) ?_
          refine Tq.val (wn rfl) rfl (fun _ _ h1 h2 => run_min (h1.ev rfl) (h1.ev rfl) _) ?_
          refine Tq.val (wn rfl) rfl (fun _ _ h1 h2 => run_move (h1.ev rfl)) ?_
          refine Tq.val (wn rfl) rfl (fun _ _ h1 h2 => run_move (h1.ev rfl)) ?_
          refine Tq.val (wn rfl) rfl (fun _ _ h1 h2 => run_move (h1.ev rfl)) ?_
          refine Tq.val (wn rfl) rfl (fun _ _ h1 h2 => run_len un_65 (h1.ev rfl)) ?_
          refine Tq.val (wn rfl) rfl (fun _ _ h1 h2 => run_sub (h1.ev rfl) (h1.ev rfl)) ?_
          obtain ⟨x166, hx166, H⟩ := bnd H
          obtain ⟨hx1660, hx1661, hx1662⟩ := idx_some hx166
          obtain ⟨u167, hRu167, hoku167, hcu167⟩ := (hoku155_0).el hx1662
          obtain ⟨Au167_0, cu167_0⟩ := u167
          have hoku167_0 := hoku167
          replace hoku167_0 : Sl w.O w.W fl_i64 Au167_0 cu167_0 x166.Xs := hoku167_0
          replace hRu167 : w.R (adB Au155_0) := Or.inl hRu167
          refine Tq.val (wn rfl) rfl (fun _ _ h1 h2 => run_indexAddr el_65 (h1.ev rfl) hoku155_0.form (h1.ev rfl) hx1660 hx1661) ?_
          refine Tq.val (wn rfl) rfl (fun _ _ h1 h2 => run_fieldAddr fo_104_1 (h1.ev rfl)) ?_
          refine Tq.val (wn rfl) rfl (fun _ _ h1 h2 => run_load1 ag_3 (h1.ev rfl) (CellsAt.drop (rdR hRu167 hcu167 h2) 1) rfl) ?_
          refine Tq.val (wn rfl) rfl (fun _ _ h1 h2 => run_max (h1.ev rfl) (h1.ev rfl) _) ?_
          refine Tq.val (wn rfl) rfl (fun _ _ h1 h2 => run_assign (h1.ev rfl)) ?_
          refine Tq.val (wn rfl) rfl (fun _ _ h1 h2 => run_assign (h1.ev rfl)) ?_
          refine Tq.nil (Tr.normBlock (Tr.normThen ?_))
          refine Tr.region ?_
          refine Tr.val (wn rfl) rfl (fun _ _ h1 h2 => run_add (h1.ev rfl) (h1.ev rfl)) ?_
          refine Tr.val (wn rfl) rfl (fun _ _ h1 h2 => run_move (h1.ev rfl)) ?_
          refine Tr.nil ?_
          exact Tr.backThen leF_shape_Merge_L3 ((min x160 x164.Y0), (max x161 x166.Y1), l152, (w64 (x153 + 1)), Al152, cl152) ⟨H, hl152⟩ (.cons rfl (.cons rfl (.cons rfl (.cons rfl (.cons rfl (.cons rfl (.cons rfl (.cons rfl (.cons rfl .nil))))))))) (.cons rfl (.cons rfl .nil))
      · refine Tr.skip (Tr.normBlock (Tr.normThen ?_))
        refine Tr.region ?_
        refine Tr.val (wn rfl) rfl (fun _ _ h1 h2 => run_add (h1.ev rfl) (h1.ev rfl)) ?_
        refine Tr.val (wn rfl) rfl (fun _ _ h1 h2 => run_move (h1.ev rfl)) ?_
        refine Tr.nil ?_
        exact Tr.backThen leF_shape_Merge_L3 (x150, x151, l152, (w64 (x153 + 1)), Al152, cl152) ⟨H, hl152⟩ (.cons rfl (.cons rfl (.cons rfl (.cons rfl (.cons rfl (.cons rfl (.cons rfl (.cons rfl (.cons rfl .nil))))))))) (.cons rfl (.cons rfl .nil))
    · refine Tr.exit (Tr.exitThen (Tr.exitThen (Tr.exitBlock (Tr.normThen ?_))))
      refine Tr.seq ?_
      refine Tr.block ?_
      refine Tr.loop (σ := (List TBand) × (List TBand) × (List TBand) × Int × (Option Addr) × Nat × (Option Addr) × Nat × (Option Addr) × Nat) (fun m w s => F_shape_Merge_L9 N p2 x151 m s.1 s.2.1 s.2.2.1 s.2.2.2.1 = some r ∧ Sl w.O w.W fl_TBand s.2.2.2.2.1 s.2.2.2.2.2.1 s.1 ∧ Sl w.O w.W fl_TBand s.2.2.2.2.2.2.1 s.2.2.2.2.2.2.2.1 s.2.1 ∧ SlF s.2.2.2.2.2.2.2.2.1 (s.2.2.1).length s.2.2.2.2.2.2.2.2.2) (fun s => [(0, (.slice s.2.2.2.2.1 (s.1).length s.2.2.2.2.2.1)), (1, (.slice s.2.2.2.2.2.2.1 (s.2.1).length s.2.2.2.2.2.2.2.1)), (2, (.func (.func fid2) #[] cap2.toArray)), (7, (.slice s.2.2.2.2.2.2.2.2.1 (s.2.2.1).length s.2.2.2.2.2.2.2.2.2)), (8, (.int .i64 s.2.2.2.1)), (9, (.int .i64 x151))]) (fun s => [(2, ow s.2.2.2.2.2.2.2.2.1 s.2.2.2.2.2.2.2.2.2 104 fl_TBand s.2.2.1)]) N (p0, p1, ([] : List TBand), x150, Ap0_0, cp0_0, Ap1_0, cp1_0, none, 0) ⟨H, hp0_0, hp1_0, slf_nil⟩ (.cons rfl (.cons rfl (.cons rfl (.cons rfl (.cons rfl (.cons rfl .nil)))))) (.cons rfl .nil) (fun _ _ h => noSome (h.1)) ?_
      intro w leF_shape_Merge_L9 mF_shape_Merge_L9 s hs
      obtain ⟨l292, l293, l294, x295, Al292, cl292, Al293, cl293, Al294, cl294⟩ := s
      obtain ⟨H, hl292, hl293, hl294⟩ := hs
      replace H : F_shape_Merge_L9 N p2 x151 (mF_shape_Merge_L9 + 1) l292 l293 l294 x295 = some r := H
      replace hf2 := fun w' he => hf2 w' (leF_shape_Merge_L9.ext.trans he)
      replace leB := leB.trans leF_shape_Merge_L9
      replace leF_shape_Merge_L3 := leF_shape_Merge_L3.trans leF_shape_Merge_L9
      replace hl292 : Sl w.O w.W fl_TBand Al292 cl292 l292 := hl292
      replace hl293 : Sl w.O w.W fl_TBand Al293 cl293 l293 := hl293
      replace hl294 : SlF Al294 (l294).length cl294 := hl294
      rw [F_shape_Merge_L9.eq_2] at H
      show Tr _ _ (LF [(0, (.slice Al292 (l292).length cl292)), (1, (.slice Al293 (l293).length cl293)), (2, (.func (.func fid2) #[] cap2.toArray)), (7, (.slice Al294 (l294).length cl294)), (8, (.int .i64 x295)), (9, (.int .i64 x151))]) (LE [(2, ow Al294 cl294 104 fl_TBand l294)]) _
      refine Tr.seq ?_
      refine Tr.seq ?_
      refine Tr.region ?_
      refine Tr.val (wn rfl) rfl (fun _ _ h1 h2 => run_move (h1.ev rfl)) ?_
      refine Tr.val (wn rfl) rfl (fun _ _ h1 h2 => run_move (h1.ev rfl)) ?_
      refine Tr.val (wn rfl) rfl (fun _ _ h1 h2 => run_lss (h1.ev rfl) (h1.ev rfl)) ?_
      refine Tr.nil (Tr.normThen ?_)
      refine Tr.cond rfl H (fun H => ?_) (fun H => ?_)
      · refine Tr.skip (Tr.normThen ?_)
        refine Tr.block ?_
        refine Tr.seq ?_
        refine Tr.block ?_
        refine Tr.loop (σ := (List TBand) × (Option Addr) × Nat) (fun m w s => F_shape_Merge_L10 N p2 x151 l293 l294 x295 (F_shape_Merge_L9 N p2 x151 mF_shape_Merge_L9) m s.1 = some r ∧ Sl w.O w.W fl_TBand s.2.1 s.2.2 s.1) (fun s => [(0, (.slice s.2.1 (s.1).length s.2.2)), (1, (.slice Al293 (l293).length cl293)), (2, (.func (.func fid2) #[] cap2.toArray)), (7, (.slice Al294 (l294).length cl294)), (8, (.int .i64 x295)), (9, (.int .i64 x151))]) (fun s => [(2, ow Al294 cl294 104 fl_TBand l294)]) N (l292, Al292, cl292) ⟨H, hl292⟩ (.cons rfl (.cons rfl (.cons rfl (.cons rfl (.cons rfl (.cons rfl .nil)))))) (.cons rfl .nil) (fun _ _ h => noSome (h.1)) ?_
        intro w leF_shape_Merge_L10 mF_shape_Merge_L10 s hs
        obtain ⟨l311, Al311, cl311⟩ := s
        obtain ⟨H, hl311⟩ := hs
        replace H : F_shape_Merge_L10 N p2 x151 l293 l294 x295 (F_shape_Merge_L9 N p2 x151 mF_shape_Merge_L9) (mF_shape_Merge_L10 + 1) l311 = some r := H
        replace hl293 := hl293.le leF_shape_Merge_L10
        replace hf2 := fun w' he => hf2 w' (leF_shape_Merge_L10.ext.trans he)
        replace leB := leB.trans leF_shape_Merge_L10
        replace leF_shape_Merge_L3 := leF_shape_Merge_L3.trans leF_shape_Merge_L10
        replace leF_shape_Merge_L9 := leF_shape_Merge_L9.trans leF_shape_Merge_L10
        replace hl311 : Sl w.O w.W fl_TBand Al311 cl311 l311 := hl311
        rw [F_shape_Merge_L10.eq_2] at H
        show Tr _ _ (LF [(0, (.slice Al311 (l311).length cl311)), (1, (.slice Al293 (l293).length cl293)), (2, (.func (.func fid2) #[] cap2.toArray)), (7, (.slice Al294 (l294).length cl294)), (8, (.int .i64 x295)), (9, (.int .i64 x151))]) (LE [(2, ow Al294 cl294 104 fl_TBand l294)]) _
        refine Tr.seq ?_
        refine Tr.seq ?_
        refine Tr.region ?_
        refine Tr.val (wn rfl) rfl (fun _ _ h1 h2 => run_move (h1.ev rfl)) ?_
        refine Tr.val (wn rfl) rfl (fun _ _ h1 h2 => run_len un_65 (h1.ev rfl)) ?_
        refine Tr.val (wn rfl) rfl (fun _ _ h1 h2 => run_gtr (h1.ev rfl) (h1.ev rfl)) ?_
        refine Tr.val (wn rfl) rfl (fun _ _ h1 h2 => run_move (h1.ev rfl)) ?_
        obtain ⟨g314, hg314, H⟩ := bnd H
        refine Tr.mid0 7 [(0, (.slice Al311 (l311).length cl311)), (1, (.slice Al293 (l293).length cl293)), (2, (.func (.func fid2) #[] cap2.toArray)), (7, (.slice Al294 (l294).length cl294)), (8, (.int .i64 x295)), (9, (.int .i64 x151)), (82, (.bool g314))] [(2, ow Al294 cl294 104 fl_TBand l294)] ?_ ?_
        · cases hg349 : (decide (0 < (l311.length : Int)))
          · rw [hg349] at hg314
            rw [if_neg (by decide)] at hg314
            have H := hg314
            obtain rfl := Option.some.inj H
            refine Tr.pass rfl rfl rfl rfl rfl (by decide) ?_
            refine Tr.pass rfl rfl rfl rfl rfl (by decide) ?_
            refine Tr.pass rfl rfl rfl rfl rfl (by decide) ?_
            refine Tr.pass rfl rfl rfl rfl rfl (by decide) ?_
            refine Tr.pass rfl rfl rfl rfl rfl (by decide) ?_
            refine Tr.pass rfl rfl rfl rfl rfl (by decide) ?_
            refine Tr.val (wn rfl) rfl (fun _ _ h1 h2 => run_pickF (h1.ev rfl) (h1.ev rfl)) ?_
            exact Tr.nil (Tr.fin0 (.cons rfl (.cons rfl (.cons rfl (.cons rfl (.cons rfl (.cons rfl (.cons rfl .nil))))))) (.cons rfl .nil))
          · rw [hg349] at hg314
            rw [if_pos rfl] at hg314
            have H := hg314
            refine Tr.val (wg rfl rfl rfl) rfl (fun _ _ h1 h2 => run_move (h1.ev rfl)) ?_
            obtain ⟨x315, hx315, H⟩ := bnd H
            obtain ⟨hx3150, hx3151, hx3152⟩ := idx_some hx315
            obtain ⟨u316, hRu316, hoku316, hcu316⟩ := (hl311).el hx3152
            obtain ⟨Au316_0, cu316_0⟩ := u316
            have hoku316_0 := hoku316
            replace hoku316_0 : Sl w.O w.W fl_i64 Au316_0 cu316_0 x315.Xs := hoku316_0
            replace hRu316 : w.R (adB Al311) := Or.inl hRu316
            refine Tr.val (wg rfl rfl rfl) rfl (fun _ _ h1 h2 => run_indexAddr el_65 (h1.ev rfl) hl311.form (h1.ev rfl) hx3150 hx3151) ?_
            refine Tr.val (wg rfl rfl rfl) rfl (fun _ _ h1 h2 => run_fieldAddr fo_104_1 (h1.ev rfl)) ?_
            refine Tr.val (wg rfl rfl rfl) rfl (fun _ _ h1 h2 => run_load1 ag_3 (h1.ev rfl) (CellsAt.drop (rdR hRu316 hcu316 h2) 1) rfl) ?_
            refine Tr.val (wg rfl rfl rfl) rfl (fun _ _ h1 h2 => run_move (h1.ev rfl)) ?_
            refine Tr.val (wg rfl rfl rfl) rfl (fun _ _ h1 h2 => run_leq (h1.ev rfl) (h1.ev rfl)) ?_
            refine Tr.val (wn rfl) rfl (fun _ _ h1 h2 => run_pickT (h1.ev rfl) (h1.ev rfl)) ?_
            obtain rfl := Option.some.inj H
            exact Tr.nil (Tr.fin0 (.cons rfl (.cons rfl (.cons rfl (.cons rfl (.cons rfl (.cons rfl (.cons rfl .nil))))))) (.cons rfl .nil))
        · show Tr _ _ (LF [(0, (.slice Al311 (l311).length cl311)), (1, (.slice Al293 (l293).length cl293)), (2, (.func (.func fid2) #[] cap2.toArray)), (7, (.slice Al294 (l294).length cl294)), (8, (.int .i64 x295)), (9, (.int .i64 x151)), (82, (.bool g314))]) (LE [(2, ow Al294 cl294 104 fl_TBand l294)]) _
          refine Tr.nil (Tr.normThen ?_)
          refine Tr.cond rfl H (fun H => ?_) (fun H => ?_)
          · refine Tr.skip (Tr.normThen ?_)
            refine Tr.block ?_
            refine Tr.region ?_
            refine Tr.val (wn rfl) rfl (fun _ _ h1 h2 => run_move (h1.ev rfl)) ?_
            obtain ⟨l317, hl317, H⟩ := bnd H
            refine Tr.val (wn rfl) rfl (fun _ _ h1 h2 => run_cutL el_65 (h1.ev rfl) hl311.form (h1.ev rfl) hl317) ?_
            refine Tr.val (wn rfl) rfl (fun _ _ h1 h2 => run_assign (h1.ev rfl)) ?_
            refine Tr.nil (Tr.normBlock ?_)
            exact Tr.backThen leF_shape_Merge_L10 (l317, (cutA Al311 (1 : Int).toNat 3 cl311), (cl311 - (1 : Int).toNat)) ⟨H, (Sl.cut hl311 hl317)⟩ (.cons rfl (.cons rfl (.cons rfl (.cons rfl (.cons rfl (.cons rfl .nil)))))) (.cons rfl .nil)
          · refine Tr.exit (Tr.exitThen (Tr.exitThen (Tr.exitBlock (Tr.normThen ?_))))
            refine Tr.seq ?_
            refine Tr.block ?_
            refine Tr.loop (σ := (List TBand) × (Option Addr) × Nat) (fun m w s => F_shape_Merge_L11 N p2 x151 l294 x295 (F_shape_Merge_L9 N p2 x151 mF_shape_Merge_L9) l311 m s.1 = some r ∧ Sl w.O w.W fl_TBand s.2.1 s.2.2 s.1) (fun s => [(0, (.slice Al311 (l311).length cl311)), (1, (.slice s.2.1 (s.1).length s.2.2)), (2, (.func (.func fid2) #[] cap2.toArray)), (7, (.slice Al294 (l294).length cl294)), (8, (.int .i64 x295)), (9, (.int .i64 x151))]) (fun s => [(2, ow Al294 cl294 104 fl_TBand l294)]) N (l293, Al293, cl293) ⟨H, hl293⟩ (.cons rfl (.cons rfl (.cons rfl (.cons rfl (.cons rfl (.cons rfl .nil)))))) (.cons rfl .nil) (fun _ _ h => noSome (h.1)) ?_
            intro w leF_shape_Merge_L11 mF_shape_Merge_L11 s hs
            obtain ⟨l333, Al333, cl333⟩ := s
            obtain ⟨H, hl333⟩ := hs
            replace H : F_shape_Merge_L11 N p2 x151 l294 x295 (F_shape_Merge_L9 N p2 x151 mF_shape_Merge_L9) l311 (mF_shape_Merge_L11 + 1) l333 = some r := H
            replace hl311 := hl311.le leF_shape_Merge_L11
            replace hf2 := fun w' he => hf2 w' (leF_shape_Merge_L11.ext.trans he)
            replace leB := leB.trans leF_shape_Merge_L11
            replace leF_shape_Merge_L3 := leF_shape_Merge_L3.trans leF_shape_Merge_L11
            replace leF_shape_Merge_L9 := leF_shape_Merge_L9.trans leF_shape_Merge_L11
            replace leF_shape_Merge_L10 := leF_shape_Merge_L10.trans leF_shape_Merge_L11
            replace hl333 : Sl w.O w.W fl_TBand Al333 cl333 l333 := hl333
            rw [F_shape_Merge_L11.eq_2] at H
            show Tr _ _ (LF [(0, (.slice Al311 (l311).length cl311)), (1, (.slice Al333 (l333).length cl333)), (2, (.func (.func fid2) #[] cap2.toArray)), (7, (.slice Al294 (l294).length cl294)), (8, (.int .i64 x295)), (9, (.int .i64 x151))]) (LE [(2, ow Al294 cl294 104 fl_TBand l294)]) _
            refine Tr.seq ?_
            refine Tr.seq ?_
            refine Tr.region ?_
            refine Tr.val (wn rfl) rfl (fun _ _ h1 h2 => run_move (h1.ev rfl)) ?_
            refine Tr.val (wn rfl) rfl (fun _ _ h1 h2 => run_len un_65 (h1.ev rfl)) ?_
            refine Tr.val (wn rfl) rfl (fun _ _ h1 h2 => run_gtr (h1.ev rfl) (h1.ev rfl)) ?_
            refine Tr.val (wn rfl) rfl (fun _ _ h1 h2 => run_move (h1.ev rfl)) ?_
            obtain ⟨g336, hg336, H⟩ := bnd H
            refine Tr.mid0 7 [(0, (.slice Al311 (l311).length cl311)), (1, (.slice Al333 (l333).length cl333)), (2, (.func (.func fid2) #[] cap2.toArray)), (7, (.slice Al294 (l294).length cl294)), (8, (.int .i64 x295)), (9, (.int .i64 x151)), (95, (.bool g336))] [(2, ow Al294 cl294 104 fl_TBand l294)] ?_ ?_
            · cases hg349 : (decide (0 < (l333.length : Int)))
              · rw [hg349] at hg336
                rw [if_neg (by decide)] at hg336
                have H := hg336
                obtain rfl := Option.some.inj H
                refine Tr.pass rfl rfl rfl rfl rfl (by decide) ?_
                refine Tr.pass rfl rfl rfl rfl rfl (by decide) ?_
                refine Tr.pass rfl rfl rfl rfl rfl (by decide) ?_
                refine Tr.pass rfl rfl rfl rfl rfl (by decide) ?_
                refine Tr.pass rfl rfl rfl rfl rfl (by decide) ?_
                refine Tr.pass rfl rfl rfl rfl rfl (by decide) ?_
                refine Tr.val (wn rfl) rfl (fun _ _ h1 h2 => run_pickF (h1.ev rfl) (h1.ev rfl)) ?_
                exact Tr.nil (Tr.fin0 (.cons rfl (.cons rfl (.cons rfl (.cons rfl (.cons rfl (.cons rfl (.cons rfl .nil))))))) (.cons rfl .nil))
              · rw [hg349] at hg336
                rw [if_pos rfl] at hg336
                have H := hg336
                refine Tr.val (wg rfl rfl rfl) rfl (fun _ _ h1 h2 => run_move (h1.ev rfl)) ?_
                obtain ⟨x337, hx337, H⟩ := bnd H
                obtain ⟨hx3370, hx3371, hx3372⟩ := idx_some hx337
                obtain ⟨u338, hRu338, hoku338, hcu338⟩ := (hl333).el hx3372
                obtain ⟨Au338_0, cu338_0⟩ := u338
                have hoku338_0 := hoku338
                replace hoku338_0 : Sl w.O w.W fl_i64 Au338_0 cu338_0 x337.Xs := hoku338_0
                replace hRu338 : w.R (adB Al333) := Or.inl hRu338
                refine Tr.val (wg rfl rfl rfl) rfl (fun _ _ h1 h2 => run_indexAddr el_65 (h1.ev rfl) hl333.form (h1.ev rfl) hx3370 hx3371) ?_
                refine Tr.val (wg rfl rfl rfl) rfl (fun _ _ h1 h2 => run_fieldAddr fo_104_1 (h1.ev rfl)) ?_
                refine Tr.val (wg rfl rfl rfl) rfl (fun _ _ h1 h2 => run_load1 ag_3 (h1.ev rfl) (CellsAt.drop (rdR hRu338 hcu338 h2) 1) rfl) ?_
                refine Tr.val (wg rfl rfl rfl) rfl (fun _ _ h1 h2 => run_move (h1.ev rfl)) ?_
                refine Tr.val (wg rfl rfl rfl) rfl (fun _ _ h1 h2 => run_leq (h1.ev rfl) (h1.ev rfl)) ?_
                refine Tr.val (wn rfl) rfl (fun _ _ h1 h2 => run_pickT (h1.ev rfl) (h1.ev rfl)) ?_
                obtain rfl := Option.some.inj H
                exact Tr.nil (Tr.fin0 (.cons rfl (.cons rfl (.cons rfl (.cons rfl (.cons rfl (.cons rfl (.cons rfl .nil))))))) (.cons rfl .nil))
            · show Tr _ _ (LF [(0, (.slice Al311 (l311).length cl311)), (1, (.slice Al333 (l333).length cl333)), (2, (.func (.func fid2) #[] cap2.toArray)), (7, (.slice Al294 (l294).length cl294)), (8, (.int .i64 x295)), (9, (.int .i64 x151)), (95, (.bool g336))]) (LE [(2, ow Al294 cl294 104 fl_TBand l294)]) _
              refine Tr.nil (Tr.normThen ?_)
              refine Tr.cond rfl H (fun H => ?_) (fun H => ?_)
              · refine Tr.skip (Tr.normThen ?_)
                refine Tr.block ?_
                refine Tr.region ?_
                refine Tr.val (wn rfl) rfl (fun _ _ h1 h2 => run_move (h1.ev rfl)) ?_
                obtain ⟨l339, hl339, H⟩ := bnd H
                refine Tr.val (wn rfl) rfl (fun _ _ h1 h2 => run_cutL el_65 (h1.ev rfl) hl333.form (h1.ev rfl) hl339) ?_
                refine Tr.val (wn rfl) rfl (fun _ _ h1 h2 => run_assign (h1.ev rfl)) ?_
                refine Tr.nil (Tr.normBlock ?_)
                exact Tr.backThen leF_shape_Merge_L11 (l339, (cutA Al333 (1 : Int).toNat 3 cl333), (cl333 - (1 : Int).toNat)) ⟨H, (Sl.cut hl333 hl339)⟩ (.cons rfl (.cons rfl (.cons rfl (.cons rfl (.cons rfl (.cons rfl .nil)))))) (.cons rfl .nil)
              · refine Tr.exit (Tr.exitThen (Tr.exitThen (Tr.exitBlock (Tr.normThen ?_))))
                refine Tr.seq ?_
                refine Tr.region ?_
                refine Tr.val (wn rfl) rfl (fun _ _ h1 h2 => run_move (h1.ev rfl)) ?_
                refine Tr.val (wn rfl) rfl (fun _ _ h1 h2 => run_move (h1.ev rfl)) ?_
                refine Tr.val (wn rfl) rfl (fun _ _ h1 h2 => run_move (h1.ev rfl)) ?_
                obtain ⟨y340, hy340, H⟩ := bnd H
                refine Tr.callG [] [] (U := (Option Addr × Nat)) (fun u => (.tuple #[(.slice u.1 (y340.1).length u.2), (.int .i64 y340.2)])) (fun O W u => Sl O W fl_i64 u.1 u.2 y340.1) (fun u => []) rfl pk_nil (fun _ => rfl) (wn rfl) rfl Try.call115 (evl_cons rfl (evl_cons rfl (evl_cons rfl evl_nil))) (fun W hW hp hE => F_shape_Set__at_ok l311 Al311 cl311 (hl311.extO (hW.extS hp)) x295 x151 y340 hy340 hE) ?_
                intro w u le341 hu
                obtain ⟨Ay340_0, cy340_0⟩ := u
                have gy340_0 := hu
                replace hl311 := hl311.le le341
                replace hl333 := hl333.le le341
                replace hf2 := fun w' he => hf2 w' (le341.ext.trans he)
                replace leB := leB.trans le341
                replace leF_shape_Merge_L3 := leF_shape_Merge_L3.trans le341
                replace leF_shape_Merge_L9 := leF_shape_Merge_L9.trans le341
                replace leF_shape_Merge_L10 := leF_shape_Merge_L10.trans le341
                replace leF_shape_Merge_L11 := leF_shape_Merge_L11.trans le341
                have hgy340_0 : Sl w.O w.W fl_i64 Ay340_0 cy340_0 y340.1 := gy340_0 --@phi
                show Tr _ _ (uf _ 102 (.tuple #[(.slice Ay340_0 (y340.1).length cy340_0), (.int .i64 y340.2)])) (_) _
                refine Tr.val (wn rfl) rfl (fun _ _ h1 h2 => run_move (h1.ev rfl)) ?_
                refine Tr.val (wn rfl) rfl (fun _ _ h1 h2 => run_extract (h1.ev rfl) rfl) ?_
                refine Tr.val (wn rfl) rfl (fun _ _ h1 h2 => run_extract (h1.ev rfl) rfl) ?_
                refine Tr.val (wn rfl) rfl (fun _ _ h1 h2 => run_assign (h1.ev rfl)) ?_
                refine Tr.val (wn rfl) rfl (fun _ _ h1 h2 => run_assign (h1.ev rfl)) ?_
                refine Tr.nil (Tr.normThen ?_)
                refine Tr.seq ?_
                refine Tr.region ?_
                refine Tr.val (wn rfl) rfl (fun _ _ h1 h2 => run_move (h1.ev rfl)) ?_
                refine Tr.val (wn rfl) rfl (fun _ _ h1 h2 => run_move (h1.ev rfl)) ?_
                refine Tr.val (wn rfl) rfl (fun _ _ h1 h2 => run_move (h1.ev rfl)) ?_
                obtain ⟨y342, hy342, H⟩ := bnd H
                refine Tr.callG [] [] (U := (Option Addr × Nat)) (fun u => (.tuple #[(.slice u.1 (y342.1).length u.2), (.int .i64 y342.2)])) (fun O W u => Sl O W fl_i64 u.1 u.2 y342.1) (fun u => []) rfl pk_nil (fun _ => rfl) (wn rfl) rfl Try.call115 (evl_cons rfl (evl_cons rfl (evl_cons rfl evl_nil))) (fun W hW hp hE => F_shape_Set__at_ok l333 Al333 cl333 (hl333.extO (hW.extS hp)) x295 x151 y342 hy342 hE) ?_
                intro w u le343 hu
                obtain ⟨Ay342_0, cy342_0⟩ := u
                have gy342_0 := hu
                replace hl311 := hl311.le le343
                replace hl333 := hl333.le le343
                replace hf2 := fun w' he => hf2 w' (le343.ext.trans he)
                replace hgy340_0 := hgy340_0.le le343
                replace leB := leB.trans le343
                replace leF_shape_Merge_L3 := leF_shape_Merge_L3.trans le343
                replace leF_shape_Merge_L9 := leF_shape_Merge_L9.trans le343
                replace leF_shape_Merge_L10 := leF_shape_Merge_L10.trans le343
                replace leF_shape_Merge_L11 := leF_shape_Merge_L11.trans le343
                have hgy342_0 : Sl w.O w.W fl_i64 Ay342_0 cy342_0 y342.1 := gy342_0 --@phi
                show Tr _ _ (uf _ 109 (.tuple #[(.slice Ay342_0 (y342.1).length cy342_0), (.int .i64 y342.2)])) (_) _
                refine Tr.val (wn rfl) rfl (fun _ _ h1 h2 => run_move (h1.ev rfl)) ?_
                refine Tr.val (wn rfl) rfl (fun _ _ h1 h2 => run_extract (h1.ev rfl) rfl) ?_
                refine Tr.val (wn rfl) rfl (fun _ _ h1 h2 => run_extract (h1.ev rfl) rfl) ?_
                refine Tr.val (wn rfl) rfl (fun _ _ h1 h2 => run_assign (h1.ev rfl)) ?_
                refine Tr.val (wn rfl) rfl (fun _ _ h1 h2 => run_assign (h1.ev rfl)) ?_
                refine Tr.nil (Tr.normThen ?_)
                refine Tr.seq ?_
                refine Tr.region ?_
                refine Tr.val (wn rfl) rfl (fun _ _ h1 h2 => run_move (h1.ev rfl)) ?_
                refine Tr.val (wn rfl) rfl (fun _ _ h1 h2 => run_move (h1.ev rfl)) ?_
                refine Tr.val (wn rfl) rfl (fun _ _ h1 h2 => run_min (h1.ev rfl) (h1.ev rfl) _) ?_
                refine Tr.val (wn rfl) rfl (fun _ _ h1 h2 => run_assign (h1.ev rfl)) ?_
                refine Tr.nil (Tr.normThen ?_)
                refine Tr.seq ?_
                refine Tr.region ?_
                refine Tr.val (wn rfl) rfl (fun _ _ h1 h2 => run_move (h1.ev rfl)) ?_
                refine Tr.val (wn rfl) rfl (fun _ _ h1 h2 => run_move (h1.ev rfl)) ?_
                refine Tr.val (wn rfl) rfl (fun _ _ h1 h2 => run_move (h1.ev rfl)) ?_
                refine Tr.val (wn rfl) rfl (fun _ _ h1 h2 => run_move (h1.ev rfl)) ?_
                refine Tr.val (wn rfl) rfl (fun _ _ h1 h2 => run_move (h1.ev rfl)) ?_
                refine Tr.val (wn rfl) rfl (fun _ _ h1 h2 => run_move (h1.ev rfl)) ?_
                obtain ⟨y344, hy344, H⟩ := bnd H
                refine Tr.callM [12] [emp] (U := (Option Addr × Nat)) (fun u => (.slice u.1 (y344).length u.2)) (fun u => SlF u.1 (y344).length u.2) (fun u => [ow u.1 u.2 3 fl_i64 y344]) rfl (pk_cons rfl pk_nil) (fun _ => rfl) (wn rfl) rfl Try.call116 (evl_cons rfl (evl_cons rfl (evl_cons rfl evl_nil))) (fun W hW hp hE => F_shape_line_ok N y340.1 Ay340_0 cy340_0 (hgy340_0.rl.ext (hW.extS hp)) y342.1 Ay342_0 cy342_0 (hgy342_0.rl.ext (hW.extS hp)) p2 fid2 cap2 hg2 (fun w' he => hf2 w' ((hW.extS hp).trans he)) y344 hy344 hE) ?_
                intro u hu
                obtain ⟨Ay344_0, cy344_0⟩ := u
                have gy344_0 := hu
                have hgy344_0 : SlF Ay344_0 (y344).length cy344_0 := gy344_0 --@phi
                show Tr _ _ (uf _ 121 (.slice Ay344_0 (y344).length cy344_0)) (up _ 12 (ow Ay344_0 cy344_0 3 fl_i64 y344)) _
                refine Tr.build (vs := [(0, (.int .i64 x295)), (1, (.int .i64 (min y340.2 y342.2))), (2, (.slice Ay344_0 (y344).length cy344_0))]) (cs := [(.int .i64 x295), (.int .i64 (min y340.2 y342.2)), (.slice Ay344_0 (y344).length cy344_0)]) (wn rfl) rfl (evs_cons rfl (evs_cons rfl (evs_cons rfl evs_nil))) (by kernel_rfl) ?_
                refine Tr.freeze 12 rfl fun w le347 hz346 => ?_
                replace hl311 := hl311.le le347
                replace hl333 := hl333.le le347
                replace hf2 := fun w' he => hf2 w' (le347.ext.trans he)
                replace hgy340_0 := hgy340_0.le le347
                replace hgy342_0 := hgy342_0.le le347
                replace leB := leB.trans le347
                replace leF_shape_Merge_L3 := leF_shape_Merge_L3.trans le347
                replace leF_shape_Merge_L9 := leF_shape_Merge_L9.trans le347
                replace leF_shape_Merge_L10 := leF_shape_Merge_L10.trans le347
                replace leF_shape_Merge_L11 := leF_shape_Merge_L11.trans le347
                obtain ⟨y348, hy348, H⟩ := bnd H
                refine Tr.callG [2] [ow Al294 cl294 104 fl_TBand l294] (U := (Option Addr × Nat)) (fun u => (.slice u.1 (y348).length u.2)) (fun O W u => SlF u.1 (y348).length u.2) (fun u => [ow u.1 u.2 104 fl_TBand y348]) rfl (pk_cons rfl pk_nil) (fun _ => rfl) (wn rfl) rfl Try.call76 (evl_cons rfl (evl_cons rfl evl_nil)) (fun W hW hp hE => F_shape_Set__push_ok l294 Al294 cl294 (TBand.mk x295 (min y340.2 y342.2) y344) Ay344_0 cy344_0 (hz346.extO (hW.extS hp)) y348 hy348 hE) ?_
                intro w u le349 hu
                obtain ⟨Ay348_0, cy348_0⟩ := u
                have gy348_0 := hu
                replace hl311 := hl311.le le349
                replace hl333 := hl333.le le349
                replace hf2 := fun w' he => hf2 w' (le349.ext.trans he)
                replace hgy340_0 := hgy340_0.le le349
                replace hgy342_0 := hgy342_0.le le349
                replace hz346 := hz346.le le349
                replace leB := leB.trans le349
                replace leF_shape_Merge_L3 := leF_shape_Merge_L3.trans le349
                replace leF_shape_Merge_L9 := leF_shape_Merge_L9.trans le349
                replace leF_shape_Merge_L10 := leF_shape_Merge_L10.trans le349
                replace leF_shape_Merge_L11 := leF_shape_Merge_L11.trans le349
                have hgy348_0 : SlF Ay348_0 (y348).length cy348_0 := gy348_0 --@phi
                show Tr _ _ (uf _ 123 (.slice Ay348_0 (y348).length cy348_0)) (up _ 2 (ow Ay348_0 cy348_0 104 fl_TBand y348)) _
                refine Tr.val (wn rfl) rfl (fun _ _ h1 h2 => run_assign (h1.ev rfl)) ?_
                refine Tr.nil (Tr.normThen ?_)
                refine Tr.region ?_
                refine Tr.val (wn rfl) rfl (fun _ _ h1 h2 => run_move (h1.ev rfl)) ?_
                refine Tr.val (wn rfl) rfl (fun _ _ h1 h2 => run_assign (h1.ev rfl)) ?_
                refine Tr.nil (Tr.normBlock ?_)
                exact Tr.backThen leF_shape_Merge_L9 (l311, l333, y348, (min y340.2 y342.2), Al311, cl311, Al333, cl333, Ay348_0, cy348_0) ⟨H, hl311, hl333, hgy348_0⟩ (.cons rfl (.cons rfl (.cons rfl (.cons rfl (.cons rfl (.cons rfl .nil)))))) (.cons rfl .nil)
      · refine Tr.exit (Tr.exitThen (Tr.exitThen (Tr.exitBlock (Tr.normThen ?_))))
        refine Tr.seq ?_
        refine Tr.region ?_
        refine Tr.val (wn rfl) rfl (fun _ _ h1 h2 => run_move (h1.ev rfl)) ?_
        refine Tr.val (wn rfl) rfl (fun _ _ h1 h2 => run_assign (h1.ev rfl)) ?_
        refine Tr.nil (Tr.normThen ?_)
        refine Tr.ret ?_
        obtain rfl := Option.some.inj H
        exact Tr.out (m := [(.slice Al294 (l294).length cl294)]) [] (res_tmp rfl res_nil) (fun W hW => ⟨w, (Al294, cl294), leB, rfl, hl294, hW.pick (ks := [2]) (by decide) (pk_cons rfl pk_nil)⟩)

theorem F_shape_Set__Less_1_ok {w : Bs} (p0 : Bool) (p1 : Bool) (r : Bool) (H : F_shape_Set__Less_1 p0 p1 = some r) (hE : HF w w.W E0) : Calls Try.prog 92 [(.bool p0), (.bool p1)].toArray w.W fun e W' => e = .returned (.bool r) ∧ HF w W' E0 := by
  unfold F_shape_Set__Less_1 at H
  have leB := Bs.Le.refl w
  refine Tr.enter (n := 10) Try.func92 rfl rfl rfl hE ?_
  refine Tr.seq ?_
  refine Tr.region ?_
  refine Tr.val (wn rfl) rfl (fun _ _ h1 h2 => run_assign (h1.ev rfl)) ?_
  refine Tr.nil (Tr.normThen ?_)
  refine Tr.seq ?_
  refine Tr.region ?_
  refine Tr.val (wn rfl) rfl (fun _ _ h1 h2 => run_move (h1.ev rfl)) ?_
  refine Tr.val (wn rfl) rfl (fun _ _ h1 h2 => run_move (h1.ev rfl)) ?_
  refine Tr.mid0 3 [(9, (.bool (p0 && (!p1))))] [] ?_ ?_
  · cases hg99 : p0
    · refine Tr.pass rfl rfl rfl rfl rfl (by decide) ?_
      refine Tr.pass rfl rfl rfl rfl rfl (by decide) ?_
      refine Tr.val (wn rfl) rfl (fun _ _ h1 h2 => run_pickF (h1.ev rfl) (h1.ev rfl)) ?_
      exact Tr.nil (Tr.fin0 (.cons rfl .nil) .nil)
    · refine Tr.val (wg rfl rfl rfl) rfl (fun _ _ h1 h2 => run_move (h1.ev rfl)) ?_
      refine Tr.val (wg rfl rfl rfl) rfl (fun _ _ h1 h2 => run_not (h1.ev rfl)) ?_
      refine Tr.val (wn rfl) rfl (fun _ _ h1 h2 => run_pickT (h1.ev rfl) (h1.ev rfl)) ?_
      exact Tr.nil (Tr.fin0 (.cons rfl .nil) .nil)
  · show Tr _ _ (LF [(9, (.bool (p0 && (!p1))))]) (LE []) _
    refine Tr.val (wn rfl) rfl (fun _ _ h1 h2 => run_assign (h1.ev rfl)) ?_
    refine Tr.nil (Tr.normThen ?_)
    refine Tr.ret ?_
    obtain rfl := Option.some.inj H
    exact Tr.out (m := [(.bool (p0 && (!p1)))]) [] (res_tmp rfl res_nil) (fun W hW => ⟨rfl, hW.low leB⟩)

theorem F_shape_Set__Less_ok (N : Nat) {w : Bs} (p0 : (List TBand)) (Ap0_0 : Option Addr) (cp0_0 : Nat) (hp0_0 : Sl w.O w.W fl_TBand Ap0_0 cp0_0 p0) (p1 : (List TBand)) (Ap1_0 : Option Addr) (cp1_0 : Nat) (hp1_0 : Sl w.O w.W fl_TBand Ap1_0 cp1_0 p1) (r : (List TBand)) (H : F_shape_Set__Less N p0 p1 = some r) (hE : HF w w.W (LEn [emp])) : Calls Try.prog 53 [(.slice Ap0_0 (p0).length cp0_0), (.slice Ap1_0 (p1).length cp1_0)].toArray w.W fun e W' => ∃ (w' : Bs) (u : (Option Addr × Nat)), w.Le w' ∧ e = .returned (.slice u.1 (r).length u.2) ∧ (SlF u.1 (r).length u.2) ∧ HF w' W' (LEn [ow u.1 u.2 104 fl_TBand r]) := by
  unfold F_shape_Set__Less at H
  have leB := Bs.Le.refl w
  refine Tr.enter (n := 8) Try.func53 rfl rfl rfl hE ?_
  refine Tr.seq ?_
  refine Tr.region ?_
  refine Tr.val (wn rfl) rfl (fun _ _ h1 h2 => run_assign (h1.ev rfl)) ?_
  refine Tr.nilOwn 1 104 fl_TBand ?_
  show Tr _ _ (uf _ 4 (.slice none (([] : List TBand)).length 0)) _ _
  refine Tr.nil (Tr.normThen ?_)
  refine Tr.seq ?_
  refine Tr.region ?_
  refine Tr.val (wn rfl) rfl (fun _ _ h1 h2 => run_move (h1.ev rfl)) ?_
  refine Tr.val (wn rfl) rfl (fun _ _ h1 h2 => run_move (h1.ev rfl)) ?_
  obtain ⟨y100, hy100, H⟩ := bnd H
  refine Tr.callG [2] [emp] (U := (Option Addr × Nat)) (fun u => (.slice u.1 (y100).length u.2)) (fun O W u => SlF u.1 (y100).length u.2) (fun u => [ow u.1 u.2 104 fl_TBand y100]) rfl (pk_cons rfl pk_nil) (fun _ => rfl) (wn rfl) rfl Try.call78 (evl_cons rfl (evl_cons rfl (evl_cons rfl evl_nil))) (fun W hW hp hE => F_shape_Merge_ok N p0 Ap0_0 cp0_0 (hp0_0.extO (hW.extS hp)) p1 Ap1_0 cp1_0 (hp1_0.extO (hW.extS hp)) (fun z0 z1 => F_shape_Set__Less_1 z0 z1) 92 [] Try.call92 (fun w' he z0 z1 y hy => F_shape_Set__Less_1_ok z0 z1 y hy (HF.start _)) y100 hy100 hE) ?_
  intro w u le101 hu
  obtain ⟨Ay100_0, cy100_0⟩ := u
  have gy100_0 := hu
  replace hp0_0 := hp0_0.le le101
  replace hp1_0 := hp1_0.le le101
  replace leB := leB.trans le101
  have hgy100_0 : SlF Ay100_0 (y100).length cy100_0 := gy100_0 --@phi
  show Tr _ _ (uf _ 7 (.slice Ay100_0 (y100).length cy100_0)) (up _ 2 (ow Ay100_0 cy100_0 104 fl_TBand y100)) _
  refine Tr.val (wn rfl) rfl (fun _ _ h1 h2 => run_assign (h1.ev rfl)) ?_
  refine Tr.nil (Tr.normThen ?_)
  refine Tr.ret ?_
  obtain rfl := Option.some.inj H
  exact Tr.out (m := [(.slice Ay100_0 (y100).length cy100_0)]) [] (res_tmp rfl res_nil) (fun W hW => ⟨w, (Ay100_0, cy100_0), leB, rfl, hgy100_0, hW.pick (ks := [2]) (by decide) (pk_cons rfl pk_nil)⟩)

theorem F_shape_Set__Parts_1_ok (N : Nat) {w : Bs} (p0 : Int) (q0 : (List Int)) (Aq0_0 : Option Addr) (cq0_0 : Nat) (bq0 : Nat) (r : (Int × (List Int))) (H : F_shape_Set__Parts_1 N p0 q0 = some r) (hE : HF w w.W (LEn [bx bq0 #[(.slice Aq0_0 (q0).length cq0_0)] 97, ow Aq0_0 cq0_0 3 fl_i64 q0])) : Calls Try.prog 84 [(.int .i64 p0), (.pointer (some ⟨bq0, 0, none⟩))].toArray w.W fun e W' => ∃ u : (Option Addr × Nat), e = .returned (.int .i64 r.1) ∧ (SlF u.1 (r.2).length u.2) ∧ HF w W' (LEn [bx bq0 #[(.slice u.1 (r.2).length u.2)] 97, ow u.1 u.2 3 fl_i64 r.2]) := by
  unfold F_shape_Set__Parts_1 at H
  have hfhq0_0 := (hE.sl (k := 1) rfl).form
  have leB := Bs.Le.refl w
  refine Tr.enter (n := 25) Try.func84 rfl rfl rfl hE ?_
  refine Tr.seq ?_
  refine Tr.region ?_
  refine Tr.val (wn rfl) rfl (fun _ _ h1 h2 => run_assign (h1.ev rfl)) ?_
  refine Tr.nil (Tr.normThen ?_)
  refine Tr.seq ?_
  refine Tr.block ?_
  refine Tr.loop (σ := (List Int) × Int) (fun m w s => F_shape_Set__Parts_1_L1 m s.1 s.2 = some r ∧ (s.1).length = (q0).length) (fun s => [(0, (.int .i64 s.2)), (1, (.pointer (some ⟨bq0, 0, none⟩)))]) (fun s => [(0, bx bq0 #[(.slice Aq0_0 (s.1).length cq0_0)] 97), (1, ow Aq0_0 cq0_0 3 fl_i64 s.1)]) N (q0, p0) ⟨H, rfl⟩ (.cons rfl (.cons rfl .nil)) (.cons rfl (.cons rfl .nil)) (fun _ _ h => noSome (h.1)) ?_
  intro w leF_shape_Set__Parts_1_L1 mF_shape_Set__Parts_1_L1 s hs
  obtain ⟨l118, x119⟩ := s
  obtain ⟨H, hl118⟩ := hs
  replace H : F_shape_Set__Parts_1_L1 (mF_shape_Set__Parts_1_L1 + 1) l118 x119 = some r := H
  replace leB := leB.trans leF_shape_Set__Parts_1_L1
  replace hl118 : (l118).length = (q0).length := hl118
  have hfl118 : SlF Aq0_0 (l118).length cq0_0 := (by rw [hl118]; exact hfhq0_0)
  rw [F_shape_Set__Parts_1_L1.eq_2] at H
  show Tr _ _ (LF [(0, (.int .i64 x119)), (1, (.pointer (some ⟨bq0, 0, none⟩)))]) (LE [(0, bx bq0 #[(.slice Aq0_0 (l118).length cq0_0)] 97), (1, ow Aq0_0 cq0_0 3 fl_i64 l118)]) _
  refine Tr.seq ?_
  refine Tr.seq ?_
  refine Tr.region ?_
  refine Tr.val (wn rfl) rfl (fun _ _ h1 h2 => run_load1 ag_97 (h1.ev rfl) (rdb h2 (vs := [(.slice Aq0_0 (l118).length cq0_0)]) (k := 0) rfl 0) rfl) ?_
  refine Tr.val (wn rfl) rfl (fun _ _ h1 h2 => run_move (h1.ev rfl)) ?_
  obtain ⟨x120, hx120, H⟩ := bnd H
  obtain ⟨hx1200, hx1201, hx1202⟩ := idx_some hx120
  refine Tr.val (wn rfl) rfl (fun _ _ h1 h2 => run_indexAddr el_97 (h1.ev rfl) hfl118 (h1.ev rfl) hx1200 hx1201) ?_
  refine Tr.val (wn rfl) rfl (fun _ _ h1 h2 => run_load1 ag_3 (h1.ev rfl) (rdo ef_i64 (k := 1) h2 rfl hx1202) rfl) ?_
  refine Tr.val (wn rfl) rfl (fun _ _ h1 h2 => run_move (h1.ev rfl)) ?_
  refine Tr.val (wn rfl) rfl (fun _ _ h1 h2 => run_neq (h1.ev rfl) (h1.ev rfl)) ?_
  refine Tr.nil (Tr.normThen ?_)
  refine Tr.cond rfl H (fun H => ?_) (fun H => ?_)
  · refine Tr.skip (Tr.normThen ?_)
    refine Tr.block ?_
    refine Tr.seq ?_
    refine Tr.drawTail 9 (by kernel_rfl) (by kernel_rfl) ?_
    refine Tq.val (wn rfl) rfl (fun _ _ h1 h2 => run_load1 ag_97 (h1.ev rfl) (rdb h2 (vs := [(.slice Aq0_0 (l118).length cq0_0)]) (k := 0) rfl 0) rfl) ?_
    refine Tq.val (wn rfl) rfl (fun _ _ h1 h2 => run_move (h1.ev rfl)) ?_
    refine Tq.val (wn rfl) rfl (fun _ _ h1 h2 => run_load1 ag_97 (h1.ev rfl) (rdb h2 (vs := [(.slice Aq0_0 (l118).length cq0_0)]) (k := 0) rfl 0) rfl) ?_
    refine Tq.val (wn rfl) rfl (fun _ _ h1 h2 => run_load1 ag_97 (h1.ev rfl) (rdb h2 (vs := [(.slice Aq0_0 (l118).length cq0_0)]) (k := 0) rfl 0) rfl) ?_
    refine Tq.val (wn rfl) rfl (fun _ _ h1 h2 => run_move (h1.ev rfl)) ?_
    obtain ⟨x121, hx121, H⟩ := bnd H
    obtain ⟨hx1210, hx1211, hx1212⟩ := idx_some hx121
    refine Tq.val (wn rfl) rfl (fun _ _ h1 h2 => run_indexAddr el_97 (h1.ev rfl) hfl118 (h1.ev rfl) hx1210 hx1211) ?_
    refine Tq.val (wn rfl) rfl (fun _ _ h1 h2 => run_load1 ag_3 (h1.ev rfl) (rdo ef_i64 (k := 1) h2 rfl hx1212) rfl) ?_
    obtain ⟨x122, hx122, H⟩ := bnd H
    obtain ⟨hx1220, hx1221, hx1222⟩ := idx_some hx122
    refine Tq.val (wn rfl) rfl (fun _ _ h1 h2 => run_indexAddr el_97 (h1.ev rfl) hfl118 (h1.ev rfl) hx1220 hx1221) ?_
    refine Tq.val (wn rfl) rfl (fun _ _ h1 h2 => run_load1 ag_3 (h1.ev rfl) (rdo ef_i64 (k := 1) h2 rfl hx1222) rfl) ?_
    refine Tq.nil ?_
    obtain ⟨x123, hx123, H⟩ := bnd H
    obtain ⟨hx1230, hx1231, hx1232⟩ := idx_some hx123
    refine Tr.val (wn rfl) rfl (fun _ _ h1 h2 => run_indexAddr el_97 (h1.ev rfl) hfl118 (h1.ev rfl) hx1230 hx1231) ?_
    obtain ⟨l124, hl124, H⟩ := bnd H
    have hnl124 := sets_len hl124
    refine Tr.storeEl 1 (t := fl_i64) (l := l118) (i := x119) (fo := 0) (cs := [(.int .i64 x122)]) x122 (wn rfl) rfl rfl rfl rfl rfl hx1232 sz_3 rfl (fun u _ => ⟨u, trivial, rfl⟩) rfl hl124 ?_
    have hfl124 : SlF Aq0_0 (l124).length cq0_0 := by rw [hnl124]; exact hfl118
    have hsl124 := hnl124.trans hl118
    refine Tr.sel (lf := [(0, (.int .i64 x119)), (1, (.pointer (some ⟨bq0, 0, none⟩))), (4, (.slice Aq0_0 (l124).length cq0_0)), (5, (.int .i64 x119)), (7, (.int .i64 x120)), (8, (.int .i64 x119)), (9, (.bool (x120 != x119))), (10, (.slice Aq0_0 (l124).length cq0_0)), (11, (.int .i64 x119)), (12, (.slice Aq0_0 (l124).length cq0_0)), (13, (.slice Aq0_0 (l124).length cq0_0)), (14, (.int .i64 x119)), (16, (.int .i64 x121)), (18, (.int .i64 x122))]) (le := [(0, bx bq0 #[(.slice Aq0_0 (l124).length cq0_0)] 97), (1, ow Aq0_0 cq0_0 3 fl_i64 l124)]) (.cons rfl (.cons rfl (.cons (slenV rfl (by rw [hnl124])) (.cons rfl (.cons rfl (.cons rfl (.cons rfl (.cons (slenV rfl (by rw [hnl124])) (.cons rfl (.cons (slenV rfl (by rw [hnl124])) (.cons (slenV rfl (by rw [hnl124])) (.cons rfl (.cons rfl (.cons rfl .nil)))))))))))))) (.cons (ebx rfl (by rw [hnl124])) (.cons rfl .nil)) ?_
    refine Tr.nil (Tr.normThen ?_)
    refine Tr.region ?_
    refine Tr.val (wn rfl) rfl (fun _ _ h1 h2 => run_load1 ag_97 (h1.ev rfl) (rdb h2 (vs := [(.slice Aq0_0 (l124).length cq0_0)]) (k := 0) rfl 0) rfl) ?_
    refine Tr.val (wn rfl) rfl (fun _ _ h1 h2 => run_move (h1.ev rfl)) ?_
    obtain ⟨x125, hx125, H⟩ := bnd H
    obtain ⟨hx1250, hx1251, hx1252⟩ := idx_some hx125
    refine Tr.val (wn rfl) rfl (fun _ _ h1 h2 => run_indexAddr el_97 (h1.ev rfl) hfl124 (h1.ev rfl) hx1250 hx1251) ?_
    refine Tr.val (wn rfl) rfl (fun _ _ h1 h2 => run_load1 ag_3 (h1.ev rfl) (rdo ef_i64 (k := 1) h2 rfl hx1252) rfl) ?_
    refine Tr.val (wn rfl) rfl (fun _ _ h1 h2 => run_assign (h1.ev rfl)) ?_
    refine Tr.nil (Tr.normBlock ?_)
    exact Tr.backThen leF_shape_Set__Parts_1_L1 (l124, x125) ⟨H, hsl124⟩ (.cons rfl (.cons rfl .nil)) (.cons rfl (.cons rfl .nil))
  · refine Tr.exit (Tr.exitThen (Tr.exitThen (Tr.exitBlock (Tr.normThen ?_))))
    refine Tr.seq ?_
    refine Tr.region ?_
    refine Tr.val (wn rfl) rfl (fun _ _ h1 h2 => run_move (h1.ev rfl)) ?_
    refine Tr.val (wn rfl) rfl (fun _ _ h1 h2 => run_assign (h1.ev rfl)) ?_
    refine Tr.nil (Tr.normThen ?_)
    refine Tr.ret ?_
    obtain rfl := Option.some.inj H
    exact Tr.out (m := [(.int .i64 x119)]) [] (res_tmp rfl res_nil) (fun W hW => ⟨(Aq0_0, cq0_0), rfl, hfl118, HF.lowE leB (hW.pick (ks := [0, 1]) (by decide) (pk_cons rfl (pk_cons rfl pk_nil))) ⟨bx_any _ _ _, ow_any _ _ _ _ tr_i64, trivial⟩⟩)

theorem F_shape_Set__Parts_ok (N : Nat) {w : Bs} (p0 : (List TBand)) (Ap0_0 : Option Addr) (cp0_0 : Nat) (hp0_0 : Sl w.R w.W fl_TBand Ap0_0 cp0_0 p0) (r : (List (List TBand))) (H : F_shape_Set__Parts N p0 = some r) (hE : HF w w.W (LEn [emp])) : Calls Try.prog 47 [(.slice Ap0_0 (p0).length cp0_0)].toArray w.W fun e W' => ∃ (w' : Bs) (u : (Option Addr × Nat)), w.Le w' ∧ e = .returned (.slice u.1 (r).length u.2) ∧ (SlF u.1 (r).length u.2) ∧ HF w' W' (LEn [ow u.1 u.2 65 fl_LTBand r]) := by
  unfold F_shape_Set__Parts at H
  have leB := Bs.Le.refl w
  refine Tr.enter (n := 187) Try.func47 rfl rfl rfl hE ?_
  refine Tr.seq ?_
  refine Tr.region ?_
  refine Tr.val (wn rfl) rfl (fun _ _ h1 h2 => run_assign (h1.ev rfl)) ?_
  refine Tr.nilOwn 1 65 fl_LTBand ?_
  show Tr _ _ (uf _ 2 (.slice none (([] : List (List TBand))).length 0)) _ _
  refine Tr.nil (Tr.normThen ?_)
  refine Tr.seq ?_
  refine Tr.region ?_
  refine Tr.val (wn rfl) rfl (fun _ _ h1 h2 => run_move (h1.ev rfl)) ?_
  obtain ⟨y100, hy100, H⟩ := bnd H
  refine Tr.callM [2] [emp] (U := (Option Addr × Nat)) (fun u => (.slice u.1 (y100).length u.2)) (fun u => SlF u.1 (y100).length u.2) (fun u => [ow u.1 u.2 29 fl_TRect y100]) rfl (pk_cons rfl pk_nil) (fun _ => rfl) (wn rfl) rfl Try.call41 (evl_cons rfl evl_nil) (fun W hW hp hE => F_shape_Set__Rects_ok N p0 Ap0_0 cp0_0 (hp0_0.ext (hW.extS hp)) y100 hy100 hE) ?_
  intro u hu
  obtain ⟨Ay100_0, cy100_0⟩ := u
  have gy100_0 := hu
  have hgy100_0 : SlF Ay100_0 (y100).length cy100_0 := gy100_0 --@phi
  show Tr _ _ (uf _ 27 (.slice Ay100_0 (y100).length cy100_0)) (up _ 2 (ow Ay100_0 cy100_0 29 fl_TRect y100)) _
  refine Tr.val (wn rfl) rfl (fun _ _ h1 h2 => run_assign (h1.ev rfl)) ?_
  refine Tr.nil (Tr.normThen ?_)
  refine Tr.seq ?_
  refine Tr.region ?_
  refine Tr.val (wn rfl) rfl (fun _ _ h1 h2 => run_move (h1.ev rfl)) ?_
  refine Tr.val (wn rfl) rfl (fun _ _ h1 h2 => run_len un_22 (h1.ev rfl)) ?_
  obtain ⟨l102, hl102, H⟩ := bnd H
  refine Tr.makeSlice 3 fl_i64 0 (wn rfl) rfl rfl rfl un_97 sz_3 rfl ze_3 by_3 rfl ⟨(), fun _ _ => tr_i64 _ _ _ _, rfl⟩ hl102 fun b103 hfl102 => ?_
  refine Tr.alloc 4 (wn rfl) rfl ze_97 fun b104 => ?_
  refine Tr.store 4 (cs := [(.slice (some ⟨b103, 0, none⟩) (l102).length (l102).length)]) [(.slice (some ⟨b103, 0, none⟩) (l102).length (l102).length)] (wn rfl) rfl rfl rfl rfl sz_97 rfl rfl rfl ?_
  refine Tr.nil (Tr.normThen ?_)
  refine Tr.seq ?_
  refine Tr.seq ?_
  refine Tr.region ?_
  refine Tr.val (wn rfl) rfl (fun _ _ h1 h2 => run_load1 ag_97 (h1.ev rfl) (rdb h2 (vs := [(.slice (some ⟨b103, 0, none⟩) (l102).length (l102).length)]) (k := 4) rfl 0) rfl) ?_
  refine Tr.val (wn rfl) rfl (fun _ _ h1 h2 => run_len un_97 (h1.ev rfl)) ?_
  refine Tr.val (wn rfl) rfl (fun _ _ h1 h2 => run_move (h1.ev rfl)) ?_
  refine Tr.nil (Tr.normThen ?_)
  refine Tr.block ?_
  refine Tr.loop (σ := (List Int) × Int × (Option Addr) × Nat) (fun m w s => F_shape_Set__Parts_L1 N p0 y100 l102 m s.1 s.2.1 = some r ∧ SlF s.2.2.1 (s.1).length s.2.2.2) (fun s => [(0, (.slice Ap0_0 (p0).length cp0_0)), (3, (.slice Ay100_0 (y100).length cy100_0)), (4, (.pointer (some ⟨b104, 0, none⟩))), (32, (.int .i64 (l102.length : Int))), (33, (.int .i64 s.2.1))]) (fun s => [(2, ow Ay100_0 cy100_0 29 fl_TRect y100), (3, ow s.2.2.1 s.2.2.2 3 fl_i64 s.1), (4, bx b104 #[(.slice s.2.2.1 (s.1).length s.2.2.2)] 97)]) N (l102, 0, (some ⟨b103, 0, none⟩), (l102).length) ⟨H, hfl102⟩ (.cons rfl (.cons rfl (.cons rfl (.cons rfl (.cons rfl .nil))))) (.cons rfl (.cons rfl (.cons rfl .nil))) (fun _ _ h => noSome (h.1)) ?_
  intro w leF_shape_Set__Parts_L1 mF_shape_Set__Parts_L1 s hs
  obtain ⟨l115, x116, Al115, cl115⟩ := s
  obtain ⟨H, hl115⟩ := hs
  replace H : F_shape_Set__Parts_L1 N p0 y100 l102 (mF_shape_Set__Parts_L1 + 1) l115 x116 = some r := H
  replace hp0_0 := hp0_0.leR leF_shape_Set__Parts_L1
  replace leB := leB.trans leF_shape_Set__Parts_L1
  replace hl115 : SlF Al115 (l115).length cl115 := hl115
  rw [F_shape_Set__Parts_L1.eq_2] at H
  show Tr _ _ (LF [(0, (.slice Ap0_0 (p0).length cp0_0)), (3, (.slice Ay100_0 (y100).length cy100_0)), (4, (.pointer (some ⟨b104, 0, none⟩))), (32, (.int .i64 (l102.length : Int))), (33, (.int .i64 x116))]) (LE [(2, ow Ay100_0 cy100_0 29 fl_TRect y100), (3, ow Al115 cl115 3 fl_i64 l115), (4, bx b104 #[(.slice Al115 (l115).length cl115)] 97)]) _
  refine Tr.seq ?_
  refine Tr.region ?_
  refine Tr.val (wn rfl) rfl (fun _ _ h1 h2 => run_lss (h1.ev rfl) (h1.ev rfl)) ?_
  refine Tr.nil (Tr.normThen ?_)
  refine Tr.seq ?_
  refine Tr.cond rfl H (fun H => ?_) (fun H => ?_)
  · refine Tr.skip (Tr.normThen ?_)
    refine Tr.seq ?_
    refine Tr.block ?_
    refine Tr.seq ?_
    refine Tr.region ?_
    refine Tr.val (wn rfl) rfl (fun _ _ h1 h2 => run_move (h1.ev rfl)) ?_
    refine Tr.val (wn rfl) rfl (fun _ _ h1 h2 => run_assign (h1.ev rfl)) ?_
    refine Tr.nil (Tr.normThen ?_)
    refine Tr.region ?_
    refine Tr.val (wn rfl) rfl (fun _ _ h1 h2 => run_load1 ag_97 (h1.ev rfl) (rdb h2 (vs := [(.slice Al115 (l115).length cl115)]) (k := 4) rfl 0) rfl) ?_
    refine Tr.val (wn rfl) rfl (fun _ _ h1 h2 => run_move (h1.ev rfl)) ?_
    refine Tr.val (wn rfl) rfl (fun _ _ h1 h2 => run_move (h1.ev rfl)) ?_
    obtain ⟨x117, hx117, H⟩ := bnd H
    obtain ⟨hx1170, hx1171, hx1172⟩ := idx_some hx117
    refine Tr.val (wn rfl) rfl (fun _ _ h1 h2 => run_indexAddr el_97 (h1.ev rfl) hl115 (h1.ev rfl) hx1170 hx1171) ?_
    obtain ⟨l118, hl118, H⟩ := bnd H
    have hnl118 := sets_len hl118
    refine Tr.storeEl 3 (t := fl_i64) (l := l115) (i := x116) (fo := 0) (cs := [(.int .i64 x116)]) x116 (wn rfl) rfl rfl rfl rfl rfl hx1172 sz_3 rfl (fun u _ => ⟨u, trivial, rfl⟩) rfl hl118 ?_
    have hfl118 : SlF Al115 (l118).length cl115 := by rw [hnl118]; exact hl115
    refine Tr.sel (lf := [(0, (.slice Ap0_0 (p0).length cp0_0)), (3, (.slice Ay100_0 (y100).length cy100_0)), (4, (.pointer (some ⟨b104, 0, none⟩))), (5, (.int .i64 x116)), (32, (.int .i64 (l102.length : Int))), (33, (.int .i64 x116)), (34, (.bool (decide (x116 < (l102.length : Int))))), (35, (.int .i64 x116)), (36, (.slice Al115 (l118).length cl115)), (37, (.int .i64 x116)), (38, (.int .i64 x116))]) (le := [(2, ow Ay100_0 cy100_0 29 fl_TRect y100), (3, ow Al115 cl115 3 fl_i64 l118), (4, bx b104 #[(.slice Al115 (l118).length cl115)] 97)]) (.cons rfl (.cons rfl (.cons rfl (.cons rfl (.cons rfl (.cons rfl (.cons rfl (.cons rfl (.cons (slenV rfl (by rw [hnl118])) (.cons rfl (.cons rfl .nil))))))))))) (.cons rfl (.cons rfl (.cons (ebx rfl (by rw [hnl118])) .nil))) ?_
    refine Tr.nil (Tr.normBlock (Tr.normThen ?_))
    refine Tr.region ?_
    refine Tr.val (wn rfl) rfl (fun _ _ h1 h2 => run_add (h1.ev rfl) (h1.ev rfl)) ?_
    refine Tr.val (wn rfl) rfl (fun _ _ h1 h2 => run_move (h1.ev rfl)) ?_
    refine Tr.nil ?_
    exact Tr.backThen leF_shape_Set__Parts_L1 (l118, (w64 (x116 + 1)), Al115, cl115) ⟨H, hfl118⟩ (.cons rfl (.cons rfl (.cons rfl (.cons rfl (.cons rfl .nil))))) (.cons rfl (.cons rfl (.cons rfl .nil)))
  · refine Tr.exit (Tr.exitThen (Tr.exitThen (Tr.exitBlock (Tr.normThen ?_))))
    refine Tr.seq ?_
    refine Tr.region ?_
    refine Tr.mkFunc (vs := [(.pointer (some ⟨b104, 0, none⟩))]) (wn rfl) rfl (evl_cons rfl evl_nil) ?_
    refine Tr.val (wn rfl) rfl (fun _ _ h1 h2 => run_assign (h1.ev rfl)) ?_
    refine Tr.nil (Tr.normThen ?_)
    refine Tr.seq ?_
    refine Tr.region ?_
    refine Tr.val (wn rfl) rfl (fun _ _ h1 h2 => run_assign (h1.ev rfl)) ?_
    refine Tr.val (wn rfl) rfl (fun _ _ h1 h2 => run_assign (h1.ev rfl)) ?_
    refine Tr.nil (Tr.normThen ?_)
    refine Tr.seq ?_
    refine Tr.seq ?_
    refine Tr.region ?_
    refine Tr.val (wn rfl) rfl (fun _ _ h1 h2 => run_move (h1.ev rfl)) ?_
    refine Tr.val (wn rfl) rfl (fun _ _ h1 h2 => run_len un_65 (h1.ev rfl)) ?_
    refine Tr.val (wn rfl) rfl (fun _ _ h1 h2 => run_move (h1.ev rfl)) ?_
    refine Tr.nil (Tr.normThen ?_)
    refine Tr.block ?_
    refine Tr.loop (σ := (List TBand) × Nat × (List Int) × Int × Int × (Option Addr) × Nat) (fun m w s => m = s.1.length + 1 ∧ s.1 = List.drop s.2.1 p0 ∧ s.2.1 ≤ p0.length ∧ F_shape_Set__Parts_L20 N p0 y100 s.1 s.2.1 s.2.2.1 s.2.2.2.1 s.2.2.2.2.1 = some r ∧ SlF s.2.2.2.2.2.1 (s.2.2.1).length s.2.2.2.2.2.2) (fun s => [(0, (.slice Ap0_0 (p0).length cp0_0)), (3, (.slice Ay100_0 (y100).length cy100_0)), (4, (.pointer (some ⟨b104, 0, none⟩))), (6, (.func (.func 84) #[] #[(.pointer (some ⟨b104, 0, none⟩))])), (7, (.int .i64 s.2.2.2.1)), (8, (.int .i64 s.2.2.2.2.1)), (42, (.slice Ap0_0 (p0).length cp0_0)), (43, (.int .i64 (p0.length : Int))), (44, (.int .i64 (s.2.1 : Int)))]) (fun s => [(2, ow Ay100_0 cy100_0 29 fl_TRect y100), (3, ow s.2.2.2.2.2.1 s.2.2.2.2.2.2 3 fl_i64 s.2.2.1), (4, bx b104 #[(.slice s.2.2.2.2.2.1 (s.2.2.1).length s.2.2.2.2.2.2)] 97)]) (p0.length + 1) (p0, 0, l115, 0, 0, Al115, cl115) ⟨rfl, rfl, Nat.zero_le _, H, hl115⟩ (.cons rfl (.cons rfl (.cons rfl (.cons rfl (.cons rfl (.cons rfl (.cons rfl (.cons rfl (.cons rfl .nil))))))))) (.cons rfl (.cons rfl (.cons rfl .nil))) (fun _ _ h => absurd h.1 (by simp)) ?_
    intro w leF_shape_Set__Parts_L20 m s hs
    obtain ⟨restF_shape_Set__Parts_L20, iF_shape_Set__Parts_L20, l581, x582, x583, Al581, cl581⟩ := s
    obtain ⟨hmF_shape_Set__Parts_L20, hdF_shape_Set__Parts_L20, hiF_shape_Set__Parts_L20, H, hl581⟩ := hs
    replace hdF_shape_Set__Parts_L20 : restF_shape_Set__Parts_L20 = List.drop iF_shape_Set__Parts_L20 p0 := hdF_shape_Set__Parts_L20
    replace H : F_shape_Set__Parts_L20 N p0 y100 restF_shape_Set__Parts_L20 iF_shape_Set__Parts_L20 l581 x582 x583 = some r := H
    replace hmF_shape_Set__Parts_L20 : m + 1 = restF_shape_Set__Parts_L20.length + 1 := hmF_shape_Set__Parts_L20
    replace hp0_0 := hp0_0.leR leF_shape_Set__Parts_L20
    replace leB := leB.trans leF_shape_Set__Parts_L20
    replace leF_shape_Set__Parts_L1 := leF_shape_Set__Parts_L1.trans leF_shape_Set__Parts_L20
    replace hl581 : SlF Al581 (l581).length cl581 := hl581
    obtain rfl : m = restF_shape_Set__Parts_L20.length := by omega
    clear hmF_shape_Set__Parts_L20
    show Tr _ _ (LF [(0, (.slice Ap0_0 (p0).length cp0_0)), (3, (.slice Ay100_0 (y100).length cy100_0)), (4, (.pointer (some ⟨b104, 0, none⟩))), (6, (.func (.func 84) #[] #[(.pointer (some ⟨b104, 0, none⟩))])), (7, (.int .i64 x582)), (8, (.int .i64 x583)), (42, (.slice Ap0_0 (p0).length cp0_0)), (43, (.int .i64 (p0.length : Int))), (44, (.int .i64 (iF_shape_Set__Parts_L20 : Int)))]) (LE [(2, ow Ay100_0 cy100_0 29 fl_TRect y100), (3, ow Al581 cl581 3 fl_i64 l581), (4, bx b104 #[(.slice Al581 (l581).length cl581)] 97)]) _
    cases restF_shape_Set__Parts_L20 with
    | nil =>
      rw [F_shape_Set__Parts_L20.eq_1] at H
      refine Tr.seq ?_
      refine Tr.region ?_
      refine Tr.val (wn rfl) rfl (fun _ _ h1 h2 => run_lss (h1.ev rfl) (h1.ev rfl)) ?_
      refine Tr.nil (Tr.normThen ?_)
      refine Tr.seq ?_
      refine Tr.condF rfl (range_nil hdF_shape_Set__Parts_L20) ?_
      refine Tr.exit (Tr.exitThen (Tr.exitThen (Tr.exitBlock (Tr.normThen ?_))))
      refine Tr.seq ?_
      refine Tr.region ?_
      refine Tr.makeMapI 7 (wn rfl) rfl fun b584 => ?_
      refine Tr.val (wn rfl) rfl (fun _ _ h1 h2 => run_assign (h1.ev rfl)) ?_
      refine Tr.nil (Tr.normThen ?_)
      refine Tr.seq ?_
      refine Tr.region ?_
      refine Tr.val (wn rfl) rfl (fun _ _ h1 h2 => run_assign (h1.ev rfl)) ?_
      refine Tr.nestNil 8 22 29 fl_TRect ?_
      show Tr _ _ (uf _ 17 (.slice none (([] : List (List TRect))).length 0)) (up _ 8 (no none ([] : List (List TRect)).length 0 22 29 fl_TRect [])) _
      refine Tr.nil (Tr.normThen ?_)
      refine Tr.seq ?_
      refine Tr.seq ?_
      refine Tr.region ?_
      refine Tr.val (wn rfl) rfl (fun _ _ h1 h2 => run_move (h1.ev rfl)) ?_
      refine Tr.val (wn rfl) rfl (fun _ _ h1 h2 => run_len un_22 (h1.ev rfl)) ?_
      refine Tr.val (wn rfl) rfl (fun _ _ h1 h2 => run_move (h1.ev rfl)) ?_
      refine Tr.nil (Tr.normThen ?_)
      refine Tr.block ?_
      refine Tr.loop (σ := (List TRect) × Nat × (List Int) × (List (Int × Int)) × (List (List TRect)) × (Option Addr) × Nat × (Option Addr) × Nat × (List (NE TRect))) (fun m w s => m = s.1.length + 1 ∧ s.1 = List.drop s.2.1 y100 ∧ s.2.1 ≤ y100.length ∧ F_shape_Set__Parts_L23 N s.1 s.2.1 s.2.2.1 s.2.2.2.1 s.2.2.2.2.1 = some r ∧ SlF s.2.2.2.2.2.1 (s.2.2.1).length s.2.2.2.2.2.2.1 ∧ (NC s.2.2.2.2.2.2.2.2.2 s.2.2.2.2.1 ∧ SlF s.2.2.2.2.2.2.2.1 (s.2.2.2.2.1).length s.2.2.2.2.2.2.2.2.1)) (fun s => [(6, (.func (.func 84) #[] #[(.pointer (some ⟨b104, 0, none⟩))])), (16, (.map (some b584))), (17, (.slice s.2.2.2.2.2.2.2.1 (s.2.2.2.2.1).length s.2.2.2.2.2.2.2.2.1)), (137, (.slice Ay100_0 (y100).length cy100_0)), (138, (.int .i64 (y100.length : Int))), (139, (.int .i64 (s.2.1 : Int)))]) (fun s => [(2, ow Ay100_0 cy100_0 29 fl_TRect y100), (3, ow s.2.2.2.2.2.1 s.2.2.2.2.2.2.1 3 fl_i64 s.2.2.1), (4, bx b104 #[(.slice s.2.2.2.2.2.1 (s.2.2.1).length s.2.2.2.2.2.2.1)] 97), (7, mi b584 s.2.2.2.1), (8, no s.2.2.2.2.2.2.2.1 (s.2.2.2.2.1).length s.2.2.2.2.2.2.2.2.1 22 29 fl_TRect s.2.2.2.2.2.2.2.2.2)]) (y100.length + 1) (y100, 0, l581, ([] : List (Int × Int)), ([] : List (List TRect)), Al581, cl581, none, 0, ([] : List (NE TRect))) ⟨rfl, rfl, Nat.zero_le _, H, hl581, ⟨NC.nil, slf_nil⟩⟩ (.cons rfl (.cons rfl (.cons rfl (.cons rfl (.cons rfl (.cons rfl .nil)))))) (.cons rfl (.cons rfl (.cons rfl (.cons rfl (.cons rfl .nil))))) (fun _ _ h => absurd h.1 (by simp)) ?_
      intro w leF_shape_Set__Parts_L23 m s hs
      obtain ⟨restF_shape_Set__Parts_L23, iF_shape_Set__Parts_L23, l647, m648, m649, Al647, cl647, Am649, cm649, msm649⟩ := s
      obtain ⟨hmF_shape_Set__Parts_L23, hdF_shape_Set__Parts_L23, hiF_shape_Set__Parts_L23, H, hl647, hm649⟩ := hs
      replace hdF_shape_Set__Parts_L23 : restF_shape_Set__Parts_L23 = List.drop iF_shape_Set__Parts_L23 y100 := hdF_shape_Set__Parts_L23
      replace H : F_shape_Set__Parts_L23 N restF_shape_Set__Parts_L23 iF_shape_Set__Parts_L23 l647 m648 m649 = some r := H
      replace hmF_shape_Set__Parts_L23 : m + 1 = restF_shape_Set__Parts_L23.length + 1 := hmF_shape_Set__Parts_L23
      replace leB := leB.trans leF_shape_Set__Parts_L23
      replace leF_shape_Set__Parts_L1 := leF_shape_Set__Parts_L1.trans leF_shape_Set__Parts_L23
      replace leF_shape_Set__Parts_L20 := leF_shape_Set__Parts_L20.trans leF_shape_Set__Parts_L23
      replace hl647 : SlF Al647 (l647).length cl647 := hl647
      replace hm649 : NC msm649 m649 ∧ SlF Am649 (m649).length cm649 := hm649
      obtain rfl : m = restF_shape_Set__Parts_L23.length := by omega
      clear hmF_shape_Set__Parts_L23
      show Tr _ _ (LF [(6, (.func (.func 84) #[] #[(.pointer (some ⟨b104, 0, none⟩))])), (16, (.map (some b584))), (17, (.slice Am649 (m649).length cm649)), (137, (.slice Ay100_0 (y100).length cy100_0)), (138, (.int .i64 (y100.length : Int))), (139, (.int .i64 (iF_shape_Set__Parts_L23 : Int)))]) (LE [(2, ow Ay100_0 cy100_0 29 fl_TRect y100), (3, ow Al647 cl647 3 fl_i64 l647), (4, bx b104 #[(.slice Al647 (l647).length cl647)] 97), (7, mi b584 m648), (8, no Am649 (m649).length cm649 22 29 fl_TRect msm649)]) _
      cases restF_shape_Set__Parts_L23 with
      | nil =>
        rw [F_shape_Set__Parts_L23.eq_1] at H
        refine Tr.seq ?_
        refine Tr.region ?_
        refine Tr.val (wn rfl) rfl (fun _ _ h1 h2 => run_lss (h1.ev rfl) (h1.ev rfl)) ?_
        refine Tr.nil (Tr.normThen ?_)
        refine Tr.seq ?_
        refine Tr.condF rfl (range_nil hdF_shape_Set__Parts_L23) ?_
        refine Tr.exit (Tr.exitThen (Tr.exitThen (Tr.exitBlock (Tr.normThen ?_))))
        refine Tr.seq ?_
        refine Tr.region ?_
        refine Tr.val (wn rfl) rfl (fun _ _ h1 h2 => run_assign (h1.ev rfl)) ?_
        refine Tr.nilOwn 25 65 fl_LTBand ?_
        show Tr _ _ (uf _ 23 (.slice none (([] : List (List TBand))).length 0)) _ _
        refine Tr.nil (Tr.normThen ?_)
        refine Tr.seq ?_
        refine Tr.seq ?_
        refine Tr.nestFreeze 8 fl_LTRect rfl hm649.1 rfl (fun A c l => ⟨(A, c), rfl, fun _ _ h => h⟩) fun w le651 hz650 => ?_
        replace leB := leB.trans le651
        replace leF_shape_Set__Parts_L1 := leF_shape_Set__Parts_L1.trans le651
        replace leF_shape_Set__Parts_L20 := leF_shape_Set__Parts_L20.trans le651
        replace leF_shape_Set__Parts_L23 := leF_shape_Set__Parts_L23.trans le651
        refine Tr.region ?_
        refine Tr.val (wn rfl) rfl (fun _ _ h1 h2 => run_move (h1.ev rfl)) ?_
        refine Tr.val (wn rfl) rfl (fun _ _ h1 h2 => run_len un_40 (h1.ev rfl)) ?_
        refine Tr.val (wn rfl) rfl (fun _ _ h1 h2 => run_move (h1.ev rfl)) ?_
        refine Tr.nil (Tr.normThen ?_)
        refine Tr.block ?_
        refine Tr.loop (σ := (List (List TRect)) × Nat × (List (List TBand)) × (Option Addr) × Nat) (fun m w s => m = s.1.length + 1 ∧ s.1 = List.drop s.2.1 m649 ∧ s.2.1 ≤ m649.length ∧ F_shape_Set__Parts_L24 N s.1 s.2.1 s.2.2.1 = some r ∧ SlF s.2.2.2.1 (s.2.2.1).length s.2.2.2.2) (fun s => [(23, (.slice s.2.2.2.1 (s.2.2.1).length s.2.2.2.2)), (174, (.slice Am649 (m649).length cm649)), (175, (.int .i64 (m649.length : Int))), (176, (.int .i64 (s.2.1 : Int)))]) (fun s => [(25, ow s.2.2.2.1 s.2.2.2.2 65 fl_LTBand s.2.2.1)]) (m649.length + 1) (m649, 0, ([] : List (List TBand)), none, 0) ⟨rfl, rfl, Nat.zero_le _, H, slf_nil⟩ (.cons rfl (.cons rfl (.cons rfl (.cons rfl .nil)))) (.cons rfl .nil) (fun _ _ h => absurd h.1 (by simp)) ?_
        intro w leF_shape_Set__Parts_L24 m s hs
        obtain ⟨restF_shape_Set__Parts_L24, iF_shape_Set__Parts_L24, l674, Al674, cl674⟩ := s
        obtain ⟨hmF_shape_Set__Parts_L24, hdF_shape_Set__Parts_L24, hiF_shape_Set__Parts_L24, H, hl674⟩ := hs
        replace hdF_shape_Set__Parts_L24 : restF_shape_Set__Parts_L24 = List.drop iF_shape_Set__Parts_L24 m649 := hdF_shape_Set__Parts_L24
        replace H : F_shape_Set__Parts_L24 N restF_shape_Set__Parts_L24 iF_shape_Set__Parts_L24 l674 = some r := H
        replace hmF_shape_Set__Parts_L24 : m + 1 = restF_shape_Set__Parts_L24.length + 1 := hmF_shape_Set__Parts_L24
        replace hz650 := hz650.le leF_shape_Set__Parts_L24
        replace leB := leB.trans leF_shape_Set__Parts_L24
        replace leF_shape_Set__Parts_L1 := leF_shape_Set__Parts_L1.trans leF_shape_Set__Parts_L24
        replace leF_shape_Set__Parts_L20 := leF_shape_Set__Parts_L20.trans leF_shape_Set__Parts_L24
        replace leF_shape_Set__Parts_L23 := leF_shape_Set__Parts_L23.trans leF_shape_Set__Parts_L24
        replace hl674 : SlF Al674 (l674).length cl674 := hl674
        obtain rfl : m = restF_shape_Set__Parts_L24.length := by omega
        clear hmF_shape_Set__Parts_L24
        show Tr _ _ (LF [(23, (.slice Al674 (l674).length cl674)), (174, (.slice Am649 (m649).length cm649)), (175, (.int .i64 (m649.length : Int))), (176, (.int .i64 (iF_shape_Set__Parts_L24 : Int)))]) (LE [(25, ow Al674 cl674 65 fl_LTBand l674)]) _
        cases restF_shape_Set__Parts_L24 with
        | nil =>
          rw [F_shape_Set__Parts_L24.eq_1] at H
          refine Tr.seq ?_
          refine Tr.region ?_
          refine Tr.val (wn rfl) rfl (fun _ _ h1 h2 => run_lss (h1.ev rfl) (h1.ev rfl)) ?_
          refine Tr.nil (Tr.normThen ?_)
          refine Tr.seq ?_
          refine Tr.condF rfl (range_nil hdF_shape_Set__Parts_L24) ?_
          refine Tr.exit (Tr.exitThen (Tr.exitThen (Tr.exitBlock (Tr.normThen ?_))))
          refine Tr.seq ?_
          refine Tr.region ?_
          refine Tr.val (wn rfl) rfl (fun _ _ h1 h2 => run_move (h1.ev rfl)) ?_
          refine Tr.val (wn rfl) rfl (fun _ _ h1 h2 => run_assign (h1.ev rfl)) ?_
          refine Tr.nil (Tr.normThen ?_)
          refine Tr.ret ?_
          obtain rfl := Option.some.inj H
          exact Tr.out (m := [(.slice Al674 (l674).length cl674)]) [] (res_tmp rfl res_nil) (fun W hW => ⟨w, (Al674, cl674), leB, rfl, hl674, hW.pick (ks := [25]) (by decide) (pk_cons rfl pk_nil)⟩)
        | cons xF_shape_Set__Parts_L24 restF_shape_Set__Parts_L24 =>
          rw [F_shape_Set__Parts_L24.eq_2] at H
          refine Tr.seq ?_
          refine Tr.region ?_
          refine Tr.val (wn rfl) rfl (fun _ _ h1 h2 => run_lss (h1.ev rfl) (h1.ev rfl)) ?_
          refine Tr.nil (Tr.normThen ?_)
          refine Tr.seq ?_
          refine Tr.condT rfl (range_on hdF_shape_Set__Parts_L24) ?_
          refine Tr.skip (Tr.normThen ?_)
          refine Tr.seq ?_
          refine Tr.block ?_
          refine Tr.seq ?_
          refine Tr.region ?_
          obtain ⟨u675, hRu675, hoku675, hcu675⟩ := (hz650).el (range_at hdF_shape_Set__Parts_L24)
          obtain ⟨Au675_0, cu675_0⟩ := u675
          have hoku675_0 := hoku675
          replace hoku675_0 : Sl w.O w.W fl_TRect Au675_0 cu675_0 xF_shape_Set__Parts_L24 := hoku675_0
          replace hRu675 : w.R (adB Am649) := Or.inl hRu675
          refine Tr.val (wn rfl) rfl (fun _ _ h1 h2 => run_indexAddr el_40 (h1.ev rfl) hz650.form (h1.ev rfl) (Int.natCast_nonneg _) (range_lt hdF_shape_Set__Parts_L24)) ?_
          refine Tr.val (wn rfl) rfl (fun _ _ h1 h2 => run_load1 ag_22 (h1.ev rfl) (rdR hRu675 hcu675 h2) rfl) ?_
          refine Tr.val (wn rfl) rfl (fun _ _ h1 h2 => run_assign (h1.ev rfl)) ?_
          refine Tr.nil (Tr.normThen ?_)
          refine Tr.region ?_
          refine Tr.val (wn rfl) rfl (fun _ _ h1 h2 => run_move (h1.ev rfl)) ?_
          refine Tr.val (wn rfl) rfl (fun _ _ h1 h2 => run_move (h1.ev rfl)) ?_
          obtain ⟨y676, hy676, H⟩ := bnd H
          refine Tr.callG [30] [emp] (U := (Option Addr × Nat)) (fun u => (.slice u.1 (y676).length u.2)) (fun O W u => SlF u.1 (y676).length u.2) (fun u => [ow u.1 u.2 104 fl_TBand y676]) rfl (pk_cons rfl pk_nil) (fun _ => rfl) (wn rfl) rfl Try.call40 (evl_cons rfl evl_nil) (fun W hW hp hE => F_shape_SetOf_ok N xF_shape_Set__Parts_L24 Au675_0 cu675_0 (hoku675_0.rl.ext (hW.extS hp)) y676 hy676 hE) ?_
          intro w u le677 hu
          obtain ⟨Ay676_0, cy676_0⟩ := u
          have gy676_0 := hu
          replace hz650 := hz650.le le677
          replace hcu675 := le677.ext.cells hRu675 hcu675
          replace hRu675 := le677.r _ hRu675
          replace hoku675_0 := hoku675_0.le le677
          replace leB := leB.trans le677
          replace leF_shape_Set__Parts_L1 := leF_shape_Set__Parts_L1.trans le677
          replace leF_shape_Set__Parts_L20 := leF_shape_Set__Parts_L20.trans le677
          replace leF_shape_Set__Parts_L23 := leF_shape_Set__Parts_L23.trans le677
          replace leF_shape_Set__Parts_L24 := leF_shape_Set__Parts_L24.trans le677
          have hgy676_0 : SlF Ay676_0 (y676).length cy676_0 := gy676_0 --@phi
          show Tr _ _ (uf _ 182 (.slice Ay676_0 (y676).length cy676_0)) (up _ 30 (ow Ay676_0 cy676_0 104 fl_TBand y676)) _
          refine Tr.freeze 30 rfl fun w le679 hz678 => ?_
          replace hz650 := hz650.le le679
          replace hcu675 := le679.ext.cells hRu675 hcu675
          replace hRu675 := le679.r _ hRu675
          replace hoku675_0 := hoku675_0.le le679
          replace leB := leB.trans le679
          replace leF_shape_Set__Parts_L1 := leF_shape_Set__Parts_L1.trans le679
          replace leF_shape_Set__Parts_L20 := leF_shape_Set__Parts_L20.trans le679
          replace leF_shape_Set__Parts_L23 := leF_shape_Set__Parts_L23.trans le679
          replace leF_shape_Set__Parts_L24 := leF_shape_Set__Parts_L24.trans le679
          refine Tr.buildSlice 31 (e := 65) (vs := [(0, (.slice Ay676_0 (y676).length cy676_0))]) (cs := [(.slice Ay676_0 (y676).length cy676_0)]) (wn rfl) rfl (evs_cons rfl evs_nil) (by kernel_rfl) fun b680 => ?_
          obtain ⟨l681, hl681, H⟩ := bnd H
          refine Tr.append 25 (t := fl_LTBand) (l := l674) (l2 := [y676]) (wn rfl) rfl rfl rfl rfl (fun W hW => ⟨[[(.slice Ay676_0 (y676).length cy676_0)]], (.cons ⟨(Ay676_0, cy676_0), hz678, rfl⟩ .nil), rdb hW (vs := [(.slice Ay676_0 (y676).length cy676_0)]) (k := 31) rfl 0⟩) un_75 sz_65 zl_65 (by decide) by_65 rfl hl681 fun Al681 cl681 hAl681 => ?_
          refine Tr.val (wn rfl) rfl (fun _ _ h1 h2 => run_assign (h1.ev rfl)) ?_
          refine Tr.nil (Tr.normBlock (Tr.normThen ?_))
          refine Tr.region ?_
          refine Tr.val (wn rfl) rfl (fun _ _ h1 h2 => run_add (h1.ev rfl) (h1.ev rfl)) ?_
          refine Tr.val (wn rfl) rfl (fun _ _ h1 h2 => run_move (h1.ev rfl)) ?_
          refine Tr.nil ?_
          exact Tr.backThen leF_shape_Set__Parts_L24 (restF_shape_Set__Parts_L24, (iF_shape_Set__Parts_L24 + 1), l681, Al681, cl681) ⟨rfl, range_tl hdF_shape_Set__Parts_L24, range_lt hdF_shape_Set__Parts_L24, H, hAl681⟩ (.cons rfl (.cons rfl (.cons rfl (.cons (congrArg (fun z => some (Value.int .i64 z)) (range_up hdF_shape_Set__Parts_L24 hz650.form)) .nil)))) (.cons rfl .nil)
      | cons xF_shape_Set__Parts_L23 restF_shape_Set__Parts_L23 =>
        rw [F_shape_Set__Parts_L23.eq_2] at H
        refine Tr.seq ?_
        refine Tr.region ?_
        refine Tr.val (wn rfl) rfl (fun _ _ h1 h2 => run_lss (h1.ev rfl) (h1.ev rfl)) ?_
        refine Tr.nil (Tr.normThen ?_)
        refine Tr.seq ?_
        refine Tr.condT rfl (range_on hdF_shape_Set__Parts_L23) ?_
        refine Tr.skip (Tr.normThen ?_)
        refine Tr.seq ?_
        refine Tr.block ?_
        refine Tr.seq ?_
        refine Tr.region ?_
        refine Tr.val (wn rfl) rfl (fun _ _ h1 h2 => run_move (h1.ev rfl)) ?_
        refine Tr.val (wn rfl) rfl (fun _ _ h1 h2 => run_indexAddr el_22 (h1.ev rfl) hgy100_0 (h1.ev rfl) (Int.natCast_nonneg _) (range_lt hdF_shape_Set__Parts_L23)) ?_
        refine Tr.val (wn rfl) rfl (fun _ _ h1 h2 => run_loadN (cs := [(.int .i64 xF_shape_Set__Parts_L23.X0), (.int .i64 xF_shape_Set__Parts_L23.Y0), (.int .i64 xF_shape_Set__Parts_L23.X1), (.int .i64 xF_shape_Set__Parts_L23.Y1)]) ag_29 sz_29 (h1.ev rfl) (CellsAt.take (rdo ef_TRect (k := 2) h2 rfl (range_at hdF_shape_Set__Parts_L23)) 4) rfl) ?_
        refine Tr.alloc 32 (wn rfl) rfl ze_29 fun b682 => ?_
        refine Tr.val (wn rfl) rfl (fun _ _ h1 h2 => run_assign (h1.ev rfl)) ?_
        refine Tr.store 32 (cs := [(.int .i64 xF_shape_Set__Parts_L23.X0), (.int .i64 xF_shape_Set__Parts_L23.Y0), (.int .i64 xF_shape_Set__Parts_L23.X1), (.int .i64 xF_shape_Set__Parts_L23.Y1)]) [(.int .i64 xF_shape_Set__Parts_L23.X0), (.int .i64 xF_shape_Set__Parts_L23.Y0), (.int .i64 xF_shape_Set__Parts_L23.X1), (.int .i64 xF_shape_Set__Parts_L23.Y1)] (wn rfl) rfl rfl rfl rfl sz_29 rfl rfl rfl ?_
        refine Tr.nil (Tr.normThen ?_)
        refine Tr.seq ?_
        refine Tr.region ?_
        refine Tr.val (wn rfl) rfl (fun _ _ h1 h2 => run_move (h1.ev rfl)) ?_
        refine Tr.val (wn rfl) rfl (fun _ _ h1 h2 => run_move (h1.ev rfl)) ?_
        obtain ⟨y683, hy683, H⟩ := bnd H
        refine Tr.callMC [4, 3] [bx b104 #[(.slice Al647 (l647).length cl647)] 97, ow Al647 cl647 3 fl_i64 l647] (U := (Option Addr × Nat)) (fun u => (.int .i64 y683.1)) (fun u => SlF u.1 (y683.2).length u.2) (fun u => [bx b104 #[(.slice u.1 (y683.2).length u.2)] 97, ow u.1 u.2 3 fl_i64 y683.2]) rfl (pk_cons rfl (pk_cons rfl pk_nil)) (fun _ => rfl) (wn rfl) rfl rfl Try.call84 (evl_cons rfl evl_nil) (fun W hW hp hE => F_shape_Set__Parts_1_ok N (iF_shape_Set__Parts_L23 : Int) l647 Al647 cl647 b104 y683 hy683 hE) ?_
        intro u hu
        obtain ⟨Ay683_0, cy683_0⟩ := u
        have gy683_0 := hu
        have hgy683_0 : SlF Ay683_0 (y683.2).length cy683_0 := gy683_0 --@phi
        show Tr _ _ (uf _ 146 (.int .i64 y683.1)) (up (up _ 3 (ow Ay683_0 cy683_0 3 fl_i64 y683.2)) 4 (bx b104 #[(.slice Ay683_0 (y683.2).length cy683_0)] 97)) _
        refine Tr.val (wn rfl) rfl (fun _ _ h1 h2 => run_assign (h1.ev rfl)) ?_
        refine Tr.nil (Tr.normThen ?_)
        refine Tr.seq ?_
        refine Tr.region ?_
        refine Tr.val (wn rfl) rfl (fun _ _ h1 h2 => run_move (h1.ev rfl)) ?_
        refine Tr.val (wn rfl) rfl (fun _ _ h1 h2 => run_move (h1.ev rfl)) ?_
        obtain ⟨g685, hg685, H⟩ := bnd H
        refine Tr.val (wn rfl) rfl (fun _ _ h1 h2 => run_lookupI un_110 un_3 zi_3 (h1.ev rfl) (h1.ev rfl) h2 (κ := 7) rfl hg685) ?_
        refine Tr.val (wn rfl) rfl (fun _ _ h1 h2 => run_move (h1.ev rfl)) ?_
        refine Tr.val (wn rfl) rfl (fun _ _ h1 h2 => run_extract (h1.ev rfl) rfl) ?_
        refine Tr.val (wn rfl) rfl (fun _ _ h1 h2 => run_extract (h1.ev rfl) rfl) ?_
        refine Tr.val (wn rfl) rfl (fun _ _ h1 h2 => run_assign (h1.ev rfl)) ?_
        refine Tr.val (wn rfl) rfl (fun _ _ h1 h2 => run_assign (h1.ev rfl)) ?_
        refine Tr.nil (Tr.normThen ?_)
        have leJ693 := Bs.Le.refl w
        refine Tr.cutJ (σ := (List (Int × Int)) × (List (List TRect)) × Int × (Option Addr) × Nat × (List (NE TRect))) (fun w s => F_shape_Set__Parts_J25 (F_shape_Set__Parts_L23 N restF_shape_Set__Parts_L23 (iF_shape_Set__Parts_L23 + 1)) xF_shape_Set__Parts_L23 y683 s.1 s.2.1 s.2.2.1 = some r ∧ (NC s.2.2.2.2.2 s.2.1 ∧ SlF s.2.2.2.1 (s.2.1).length s.2.2.2.2.1)) (fun s => [(6, (.func (.func 84) #[] #[(.pointer (some ⟨b104, 0, none⟩))])), (16, (.map (some b584))), (17, (.slice s.2.2.2.1 (s.2.1).length s.2.2.2.2.1)), (19, (.pointer (some ⟨b682, 0, none⟩))), (21, (.int .i64 s.2.2.1)), (137, (.slice Ay100_0 (y100).length cy100_0)), (138, (.int .i64 (y100.length : Int))), (139, (.int .i64 (iF_shape_Set__Parts_L23 : Int)))]) (fun s => [(2, ow Ay100_0 cy100_0 29 fl_TRect y100), (3, ow Ay683_0 cy683_0 3 fl_i64 y683.2), (4, bx b104 #[(.slice Ay683_0 (y683.2).length cy683_0)] 97), (7, mi b584 s.1), (8, no s.2.2.2.1 (s.2.1).length s.2.2.2.2.1 22 29 fl_TRect s.2.2.2.2.2), (32, bx b682 #[(.int .i64 xF_shape_Set__Parts_L23.X0), (.int .i64 xF_shape_Set__Parts_L23.Y0), (.int .i64 xF_shape_Set__Parts_L23.X1), (.int .i64 xF_shape_Set__Parts_L23.Y1)] 29)]) ?_ ?_
        · refine Tr.seq ?_
          refine Tr.region ?_
          refine Tr.val (wn rfl) rfl (fun _ _ h1 h2 => run_move (h1.ev rfl)) ?_
          refine Tr.val (wn rfl) rfl (fun _ _ h1 h2 => run_not (h1.ev rfl)) ?_
          refine Tr.nil (Tr.normThen ?_)
          refine Tr.cond rfl H (fun H => ?_) (fun H => ?_)
          · refine Tr.seq ?_
            refine Tr.region ?_
            refine Tr.val (wn rfl) rfl (fun _ _ h1 h2 => run_move (h1.ev rfl)) ?_
            refine Tr.val (wn rfl) rfl (fun _ _ h1 h2 => run_len un_40 (h1.ev rfl)) ?_
            refine Tr.val (wn rfl) rfl (fun _ _ h1 h2 => run_assign (h1.ev rfl)) ?_
            refine Tr.nil (Tr.normThen ?_)
            refine Tr.seq ?_
            refine Tr.region ?_
            refine Tr.val (wn rfl) rfl (fun _ _ h1 h2 => run_move (h1.ev rfl)) ?_
            refine Tr.val (wn rfl) rfl (fun _ _ h1 h2 => run_move (h1.ev rfl)) ?_
            refine Tr.val (wn rfl) rfl (fun _ _ h1 h2 => run_move (h1.ev rfl)) ?_
            obtain ⟨m702, hm702, H⟩ := bnd H
            refine Tr.mapPutI 7 (wn rfl) un_110 un_3 rfl rfl rfl rfl hm702 ?_
            refine Tr.nil (Tr.normThen ?_)
            refine Tr.region ?_
            refine Tr.val (wn rfl) rfl (fun _ _ h1 h2 => run_move (h1.ev rfl)) ?_
            refine Tr.buildSlice 38 (e := 22) (vs := [(0, (.slice none 0 0))]) (cs := [(.slice none 0 0)]) (wn rfl) rfl (evs_cons rfl evs_nil) (by kernel_rfl) fun b703 => ?_
            obtain ⟨l704, hl704, H⟩ := bnd H
            refine Tr.nestPush 8 39 38 rfl rfl rfl rfl (wn rfl) rfl rfl rfl hm649.1 rfl rfl un_40 sz_22 zl_22 by_22 rfl hl704 fun Al704 cl704 ms705 hmms705 hfl704 => ?_
            refine Tr.val (wn rfl) rfl (fun _ _ h1 h2 => run_assign (h1.ev rfl)) ?_
            refine Tr.nil ?_
            exact Tr.backThen leJ693 (m702, l704, (m649.length : Int), Al704, cl704, ms705) ⟨H, ⟨hmms705, hfl704⟩⟩ (.cons rfl (.cons rfl (.cons rfl (.cons rfl (.cons rfl (.cons rfl (.cons rfl (.cons rfl .nil)))))))) (.cons rfl (.cons rfl (.cons rfl (.cons rfl (.cons rfl (.cons rfl .nil))))))
          · refine Tr.skip ?_
            exact Tr.backThen leJ693 (m648, m649, g685.1, Am649, cm649, msm649) ⟨H, ⟨hm649.1, hm649.2⟩⟩ (.cons rfl (.cons rfl (.cons rfl (.cons rfl (.cons rfl (.cons rfl (.cons rfl (.cons rfl .nil)))))))) (.cons rfl (.cons rfl (.cons rfl (.cons rfl (.cons rfl (.cons rfl .nil))))))
        · intro w s hlJ694 hs
          obtain ⟨m690, m691, x692, Am691, cm691, msm691⟩ := s
          obtain ⟨H, hm691⟩ := hs
          replace H : F_shape_Set__Parts_J25 (F_shape_Set__Parts_L23 N restF_shape_Set__Parts_L23 (iF_shape_Set__Parts_L23 + 1)) xF_shape_Set__Parts_L23 y683 m690 m691 x692 = some r := H
          replace leB := leB.trans hlJ694
          replace leF_shape_Set__Parts_L1 := leF_shape_Set__Parts_L1.trans hlJ694
          replace leF_shape_Set__Parts_L20 := leF_shape_Set__Parts_L20.trans hlJ694
          replace leF_shape_Set__Parts_L23 := leF_shape_Set__Parts_L23.trans hlJ694
          replace hm691 : NC msm691 m691 ∧ SlF Am691 (m691).length cm691 := hm691
          unfold F_shape_Set__Parts_J25 at H
          show Tr _ _ (LF [(6, (.func (.func 84) #[] #[(.pointer (some ⟨b104, 0, none⟩))])), (16, (.map (some b584))), (17, (.slice Am691 (m691).length cm691)), (19, (.pointer (some ⟨b682, 0, none⟩))), (21, (.int .i64 x692)), (137, (.slice Ay100_0 (y100).length cy100_0)), (138, (.int .i64 (y100.length : Int))), (139, (.int .i64 (iF_shape_Set__Parts_L23 : Int)))]) (LE [(2, ow Ay100_0 cy100_0 29 fl_TRect y100), (3, ow Ay683_0 cy683_0 3 fl_i64 y683.2), (4, bx b104 #[(.slice Ay683_0 (y683.2).length cy683_0)] 97), (7, mi b584 m690), (8, no Am691 (m691).length cm691 22 29 fl_TRect msm691), (32, bx b682 #[(.int .i64 xF_shape_Set__Parts_L23.X0), (.int .i64 xF_shape_Set__Parts_L23.Y0), (.int .i64 xF_shape_Set__Parts_L23.X1), (.int .i64 xF_shape_Set__Parts_L23.Y1)] 29)]) _
          obtain ⟨l695, hl695, H⟩ := bnd H
          obtain ⟨hl6950, hl6951, hl6952⟩ := idx_some hl695
          refine Tr.nestTake 8 35 (i := x692) rfl rfl hm691.1 hl695 fun ms696 Al695 cl695 hMl695 hfl695 => ?_
          refine Tr.drawC 9 [(8, (ow Al695 cl695 29 fl_TRect l695).S)] [] (by kernel_rfl) (by kernel_rfl) fun sz697 hlosz697 hEsz697 => ?_
          refine Dr.quietP 0 (by kernel_rfl) rfl (wn rfl) rfl (by kernel_rfl) (fun _ _ h1 => run_move (h1.ev rfl)) rfl ?_
          refine Dr.quietP 1 (by kernel_rfl) rfl (wn rfl) rfl (by kernel_rfl) (fun _ _ h1 => run_move (h1.ev rfl)) rfl ?_
          refine Dr.quietP 2 (by kernel_rfl) rfl (wn rfl) rfl (by kernel_rfl) (fun _ _ h1 => run_move (h1.ev rfl)) rfl ?_
          refine Dr.quietP 3 (by kernel_rfl) rfl (wn rfl) rfl (by kernel_rfl) (fun _ _ h1 => run_move (h1.ev rfl)) rfl ?_
          refine Dr.quietP 4 (by kernel_rfl) rfl (wn rfl) rfl (by kernel_rfl) (fun _ _ h1 => run_indexAddr el_40 (h1.ev rfl) hm691.2 (h1.ev rfl) hl6950 hl6951) rfl ?_
          refine Dr.quiet 5 [(168, (.slice Al695 (l695).length cl695))] (by kernel_rfl) rfl rfl (by kernel_rfl) ?_ rfl rfl ?_
          · refine Tq.val (wn rfl) rfl (fun _ _ h1 h2 => run_loadNest ag_22 (h1.ev rfl) rfl h2 (κ := 8) rfl hMl695) ?_
            exact Tq.fin (.cons rfl .nil)
          refine Dr.quietZ 6 [(169, (.agg #[(.int .i64 xF_shape_Set__Parts_L23.X0), (.int .i64 xF_shape_Set__Parts_L23.Y0), (.int .i64 xF_shape_Set__Parts_L23.X1), (.int .i64 xF_shape_Set__Parts_L23.Y1)]))] [8] false (by kernel_rfl) rfl rfl (by kernel_rfl) (fun W W' h2 hsW hk => HF.keepZ (le := [(32, bx b682 #[(.int .i64 xF_shape_Set__Parts_L23.X0), (.int .i64 xF_shape_Set__Parts_L23.Y0), (.int .i64 xF_shape_Set__Parts_L23.X1), (.int .i64 xF_shape_Set__Parts_L23.Y1)] 29)]) (ks := [(35, (ow Al695 cl695 29 fl_TRect l695).S)]) (s0 := sz697) false h2 hk (fun h => absurd h (by decide)) (.cons rfl .nil) (fun b hb => hb.elim (fun ⟨p, hp, hf, hb⟩ => by simp only [List.mem_cons, List.not_mem_nil, or_false] at hp; rcases hp with rfl; exact .inl ⟨_, List.mem_cons_self, hb⟩) (fun hb => absurd hb.1 (by decide))) (List.forall_mem_cons.2 ⟨fun b hb => hb, (fun _ h => nomatch h)⟩) rfl) ?_ rfl rfl ?_
          · refine Tq.val (wn rfl) rfl (fun _ _ h1 h2 => run_loadN (cs := [(.int .i64 xF_shape_Set__Parts_L23.X0), (.int .i64 xF_shape_Set__Parts_L23.Y0), (.int .i64 xF_shape_Set__Parts_L23.X1), (.int .i64 xF_shape_Set__Parts_L23.Y1)]) ag_29 sz_29 (h1.ev rfl) (CellsAt.take (rdb h2 (vs := [(.int .i64 xF_shape_Set__Parts_L23.X0), (.int .i64 xF_shape_Set__Parts_L23.Y0), (.int .i64 xF_shape_Set__Parts_L23.X1), (.int .i64 xF_shape_Set__Parts_L23.Y1)]) (k := 32) rfl 0) 4) rfl) ?_
            exact Tq.fin (.cons rfl .nil)
          refine Dr.one 7 (by kernel_rfl) ?_
          refine St.buildSlice 7 36 (e := 29) (vs := [(0, (.agg #[(.int .i64 xF_shape_Set__Parts_L23.X0), (.int .i64 xF_shape_Set__Parts_L23.Y0), (.int .i64 xF_shape_Set__Parts_L23.X1), (.int .i64 xF_shape_Set__Parts_L23.Y1)]))]) (cs := [(.int .i64 xF_shape_Set__Parts_L23.X0), (.int .i64 xF_shape_Set__Parts_L23.Y0), (.int .i64 xF_shape_Set__Parts_L23.X1), (.int .i64 xF_shape_Set__Parts_L23.Y1)]) rfl (wn rfl) rfl (evs_cons rfl evs_nil) (by kernel_rfl) fun b698 hb698 => ?_
          obtain ⟨l699, hl699, H⟩ := bnd H
          refine Dr.one 8 (by kernel_rfl) ?_
          refine St.append 8 35 (t' := fl_TRect) (ll := l695) (l2 := [xF_shape_Set__Parts_L23]) (fun b hb => .inl ⟨_, List.mem_cons_self, rfl, hb⟩) rfl (wn rfl) rfl rfl rfl rfl (fun W hW => ⟨[[(.int .i64 xF_shape_Set__Parts_L23.X0), (.int .i64 xF_shape_Set__Parts_L23.Y0), (.int .i64 xF_shape_Set__Parts_L23.X1), (.int .i64 xF_shape_Set__Parts_L23.Y1)]], (.cons ⟨(), trivial, rfl⟩ .nil), rdb hW (vs := [(.int .i64 xF_shape_Set__Parts_L23.X0), (.int .i64 xF_shape_Set__Parts_L23.Y0), (.int .i64 xF_shape_Set__Parts_L23.X1), (.int .i64 xF_shape_Set__Parts_L23.Y1)]) (k := 36) rfl 0⟩) un_22 sz_29 zl_29 (by decide) by_29 rfl hl699 fun Al699 cl699 hAl699 => ?_
          refine Dr.tail (by kernel_rfl) ?_
          refine Tr.val (wn rfl) rfl (fun _ _ h1 h2 => run_indexAddr el_40 (h1.ev rfl) hm691.2 (h1.ev rfl) hl6950 hl6951) ?_
          obtain ⟨l700, hl700, H⟩ := bnd H
          have hnl700 := sets_len hl700
          refine Tr.nestPut 8 35 37 (i := x692) rfl rfl rfl rfl (wn rfl) rfl rfl rfl rfl rfl hMl695 hAl699 sz_22 hl700 fun ms701 hmms701 => ?_
          have hfl700 : SlF Am691 (l700).length cm691 := by rw [hnl700]; exact hm691.2
          refine Tr.sel (lf := [(6, (.func (.func 84) #[] #[(.pointer (some ⟨b104, 0, none⟩))])), (16, (.map (some b584))), (17, (.slice Am691 (l700).length cm691)), (19, (.pointer (some ⟨b682, 0, none⟩))), (21, (.int .i64 x692)), (137, (.slice Ay100_0 (y100).length cy100_0)), (138, (.int .i64 (y100.length : Int))), (139, (.int .i64 (iF_shape_Set__Parts_L23 : Int))), (163, (.slice Am691 (l700).length cm691)), (164, (.int .i64 x692)), (165, (.slice Am691 (l700).length cm691)), (166, (.int .i64 x692)), (169, (.agg #[(.int .i64 xF_shape_Set__Parts_L23.X0), (.int .i64 xF_shape_Set__Parts_L23.Y0), (.int .i64 xF_shape_Set__Parts_L23.X1), (.int .i64 xF_shape_Set__Parts_L23.Y1)]))]) (le := [(2, ow Ay100_0 cy100_0 29 fl_TRect y100), (3, ow Ay683_0 cy683_0 3 fl_i64 y683.2), (4, bx b104 #[(.slice Ay683_0 (y683.2).length cy683_0)] 97), (7, mi b584 m690), (8, no Am691 (l700).length cm691 22 29 fl_TRect ms701), (32, bx b682 #[(.int .i64 xF_shape_Set__Parts_L23.X0), (.int .i64 xF_shape_Set__Parts_L23.Y0), (.int .i64 xF_shape_Set__Parts_L23.X1), (.int .i64 xF_shape_Set__Parts_L23.Y1)] 29)]) (.cons rfl (.cons rfl (.cons (slenV rfl (by rw [hnl700])) (.cons rfl (.cons rfl (.cons rfl (.cons rfl (.cons rfl (.cons (slenV rfl (by rw [hnl700])) (.cons rfl (.cons (slenV rfl (by rw [hnl700])) (.cons rfl (.cons rfl .nil))))))))))))) (.cons rfl (.cons rfl (.cons rfl (.cons rfl (.cons rfl (.cons rfl .nil)))))) ?_
          refine Tr.nil (Tr.normBlock (Tr.normThen ?_))
          refine Tr.region ?_
          refine Tr.val (wn rfl) rfl (fun _ _ h1 h2 => run_add (h1.ev rfl) (h1.ev rfl)) ?_
          refine Tr.val (wn rfl) rfl (fun _ _ h1 h2 => run_move (h1.ev rfl)) ?_
          refine Tr.nil ?_
          exact Tr.backThen leF_shape_Set__Parts_L23 (restF_shape_Set__Parts_L23, (iF_shape_Set__Parts_L23 + 1), y683.2, m690, l700, Ay683_0, cy683_0, Am691, cm691, ms701) ⟨rfl, range_tl hdF_shape_Set__Parts_L23, range_lt hdF_shape_Set__Parts_L23, H, hgy683_0, ⟨hmms701, hfl700⟩⟩ (.cons rfl (.cons rfl (.cons rfl (.cons rfl (.cons rfl (.cons (congrArg (fun z => some (Value.int .i64 z)) (range_up hdF_shape_Set__Parts_L23 hgy100_0)) .nil)))))) (.cons rfl (.cons rfl (.cons rfl (.cons rfl (.cons rfl .nil)))))
    | cons xF_shape_Set__Parts_L20 restF_shape_Set__Parts_L20 =>
      rw [F_shape_Set__Parts_L20.eq_2] at H
      refine Tr.seq ?_
      refine Tr.region ?_
      refine Tr.val (wn rfl) rfl (fun _ _ h1 h2 => run_lss (h1.ev rfl) (h1.ev rfl)) ?_
      refine Tr.nil (Tr.normThen ?_)
      refine Tr.seq ?_
      refine Tr.condT rfl (range_on hdF_shape_Set__Parts_L20) ?_
      refine Tr.skip (Tr.normThen ?_)
      refine Tr.seq ?_
      refine Tr.block ?_
      refine Tr.seq ?_
      refine Tr.region ?_
      refine Tr.val (wn rfl) rfl (fun _ _ h1 h2 => run_move (h1.ev rfl)) ?_
      obtain ⟨u706, hRu706, hoku706, hcu706⟩ := (hp0_0).el (range_at hdF_shape_Set__Parts_L20)
      obtain ⟨Au706_0, cu706_0⟩ := u706
      have hoku706_0 := hoku706
      replace hoku706_0 : Sl w.R w.W fl_i64 Au706_0 cu706_0 xF_shape_Set__Parts_L20.Xs := hoku706_0
      refine Tr.val (wn rfl) rfl (fun _ _ h1 h2 => run_indexAddr el_65 (h1.ev rfl) hp0_0.form (h1.ev rfl) (Int.natCast_nonneg _) (range_lt hdF_shape_Set__Parts_L20)) ?_
      refine Tr.val (wn rfl) rfl (fun _ _ h1 h2 => run_loadN (cs := [(.int .i64 xF_shape_Set__Parts_L20.Y0), (.int .i64 xF_shape_Set__Parts_L20.Y1), (.slice Au706_0 (xF_shape_Set__Parts_L20.Xs).length cu706_0)]) ag_104 sz_104 (h1.ev rfl) (CellsAt.take (rdR hRu706 hcu706 h2) 3) rfl) ?_
      refine Tr.alloc 40 (wn rfl) rfl ze_104 fun b707 => ?_
      refine Tr.val (wn rfl) rfl (fun _ _ h1 h2 => run_assign (h1.ev rfl)) ?_
      refine Tr.store 40 (cs := [(.int .i64 xF_shape_Set__Parts_L20.Y0), (.int .i64 xF_shape_Set__Parts_L20.Y1), (.slice Au706_0 (xF_shape_Set__Parts_L20.Xs).length cu706_0)]) [(.int .i64 xF_shape_Set__Parts_L20.Y0), (.int .i64 xF_shape_Set__Parts_L20.Y1), (.slice Au706_0 (xF_shape_Set__Parts_L20.Xs).length cu706_0)] (wn rfl) rfl rfl rfl rfl sz_104 rfl rfl rfl ?_
      refine Tr.nil (Tr.normThen ?_)
      refine Tr.seq ?_
      refine Tr.region ?_
      refine Tr.val (wn rfl) rfl (fun _ _ h1 h2 => run_fieldAddr fo_104_2 (h1.ev rfl)) ?_
      refine Tr.val (wn rfl) rfl (fun _ _ h1 h2 => run_load1 ag_97 (h1.ev rfl) (rdb h2 (vs := [(.int .i64 xF_shape_Set__Parts_L20.Y0), (.int .i64 xF_shape_Set__Parts_L20.Y1), (.slice Au706_0 (xF_shape_Set__Parts_L20.Xs).length cu706_0)]) (k := 40) rfl 2) rfl) ?_
      refine Tr.val (wn rfl) rfl (fun _ _ h1 h2 => run_len un_97 (h1.ev rfl)) ?_
      refine Tr.val (wn rfl) rfl (fun _ _ h1 h2 => run_quo (h1.ev rfl) (h1.ev rfl) (by decide)) ?_
      refine Tr.val (wn rfl) rfl (fun _ _ h1 h2 => run_assign (h1.ev rfl)) ?_
      refine Tr.nil (Tr.normThen ?_)
      have leJ819 := Bs.Le.refl w
      refine Tr.cutJ (σ := (List Int) × (Option Addr) × Nat) (fun w s => F_shape_Set__Parts_J30 x582 (F_shape_Set__Parts_L20 N p0 y100 restF_shape_Set__Parts_L20 (iF_shape_Set__Parts_L20 + 1)) xF_shape_Set__Parts_L20 s.1 = some r ∧ SlF s.2.1 (s.1).length s.2.2) (fun s => [(0, (.slice Ap0_0 (p0).length cp0_0)), (3, (.slice Ay100_0 (y100).length cy100_0)), (4, (.pointer (some ⟨b104, 0, none⟩))), (6, (.func (.func 84) #[] #[(.pointer (some ⟨b104, 0, none⟩))])), (7, (.int .i64 x582)), (11, (.int .i64 (w64 (Int.tdiv (xF_shape_Set__Parts_L20.Xs.length : Int) 2)))), (42, (.slice Ap0_0 (p0).length cp0_0)), (43, (.int .i64 (p0.length : Int))), (44, (.int .i64 (iF_shape_Set__Parts_L20 : Int)))]) (fun s => [(2, ow Ay100_0 cy100_0 29 fl_TRect y100), (3, ow s.2.1 s.2.2 3 fl_i64 s.1), (4, bx b104 #[(.slice s.2.1 (s.1).length s.2.2)] 97)]) ?_ ?_
      · refine Tr.seq ?_
        refine Tr.draw (by kernel_rfl) (by kernel_rfl) ?_
        refine Tq.val (wn rfl) rfl (fun _ _ h1 h2 => run_move (h1.ev rfl)) ?_
        refine Tq.val (wn rfl) rfl (fun _ _ h1 h2 => run_gtr (h1.ev rfl) (h1.ev rfl)) ?_
        refine Tq.val (wn rfl) rfl (fun _ _ h1 h2 => run_move (h1.ev rfl)) ?_
        obtain ⟨g823, hg823, H⟩ := bnd H
        refine Tq.mid 10 [(0, (.slice Ap0_0 (p0).length cp0_0)), (3, (.slice Ay100_0 (y100).length cy100_0)), (4, (.pointer (some ⟨b104, 0, none⟩))), (6, (.func (.func 84) #[] #[(.pointer (some ⟨b104, 0, none⟩))])), (7, (.int .i64 x582)), (8, (.int .i64 x583)), (11, (.int .i64 (w64 (Int.tdiv (xF_shape_Set__Parts_L20.Xs.length : Int) 2)))), (42, (.slice Ap0_0 (p0).length cp0_0)), (43, (.int .i64 (p0.length : Int))), (44, (.int .i64 (iF_shape_Set__Parts_L20 : Int))), (65, (.bool g823))] ?_ ?_
        · cases hg930 : (decide (0 < (iF_shape_Set__Parts_L20 : Int)))
          · rw [hg930] at hg823
            rw [if_neg (by decide)] at hg823
            have H := hg823
            obtain rfl := Option.some.inj H
            refine Tq.pass rfl rfl rfl rfl rfl (by decide) ?_
            refine Tq.pass rfl rfl rfl rfl rfl (by decide) ?_
            refine Tq.pass rfl rfl rfl rfl rfl (by decide) ?_
            refine Tq.pass rfl rfl rfl rfl rfl (by decide) ?_
            refine Tq.pass rfl rfl rfl rfl rfl (by decide) ?_
            refine Tq.pass rfl rfl rfl rfl rfl (by decide) ?_
            refine Tq.pass rfl rfl rfl rfl rfl (by decide) ?_
            refine Tq.pass rfl rfl rfl rfl rfl (by decide) ?_
            refine Tq.pass rfl rfl rfl rfl rfl (by decide) ?_
            refine Tq.val (wn rfl) rfl (fun _ _ h1 h2 => run_pickF (h1.ev rfl) (h1.ev rfl)) ?_
            exact Tq.fin (.cons rfl (.cons rfl (.cons rfl (.cons rfl (.cons rfl (.cons rfl (.cons rfl (.cons rfl (.cons rfl (.cons rfl (.cons rfl .nil)))))))))))
          · rw [hg930] at hg823
            rw [if_pos rfl] at hg823
            have H := hg823
            refine Tq.val (wg rfl rfl rfl) rfl (fun _ _ h1 h2 => run_move (h1.ev rfl)) ?_
            refine Tq.val (wg rfl rfl rfl) rfl (fun _ _ h1 h2 => run_move (h1.ev rfl)) ?_
            refine Tq.val (wg rfl rfl rfl) rfl (fun _ _ h1 h2 => run_sub (h1.ev rfl) (h1.ev rfl)) ?_
            obtain ⟨x824, hx824, H⟩ := bnd H
            obtain ⟨hx8240, hx8241, hx8242⟩ := idx_some hx824
            obtain ⟨u825, hRu825, hoku825, hcu825⟩ := (hp0_0).el hx8242
            obtain ⟨Au825_0, cu825_0⟩ := u825
            have hoku825_0 := hoku825
            replace hoku825_0 : Sl w.R w.W fl_i64 Au825_0 cu825_0 x824.Xs := hoku825_0
            refine Tq.val (wg rfl rfl rfl) rfl (fun _ _ h1 h2 => run_indexAddr el_65 (h1.ev rfl) hp0_0.form (h1.ev rfl) hx8240 hx8241) ?_
            refine Tq.val (wg rfl rfl rfl) rfl (fun _ _ h1 h2 => run_fieldAddr fo_104_1 (h1.ev rfl)) ?_
            refine Tq.val (wg rfl rfl rfl) rfl (fun _ _ h1 h2 => run_load1 ag_3 (h1.ev rfl) (CellsAt.drop (rdR hRu825 hcu825 h2) 1) rfl) ?_
            refine Tq.val (wg rfl rfl rfl) rfl (fun _ _ h1 h2 => run_fieldAddr fo_104_0 (h1.ev rfl)) ?_
            refine Tq.val (wg rfl rfl rfl) rfl (fun _ _ h1 h2 => run_load1 ag_3 (h1.ev rfl) (rdb h2 (vs := [(.int .i64 xF_shape_Set__Parts_L20.Y0), (.int .i64 xF_shape_Set__Parts_L20.Y1), (.slice Au706_0 (xF_shape_Set__Parts_L20.Xs).length cu706_0)]) (k := 40) rfl 0) rfl) ?_
            refine Tq.val (wg rfl rfl rfl) rfl (fun _ _ h1 h2 => run_eql (h1.ev rfl) (h1.ev rfl)) ?_
            refine Tq.val (wn rfl) rfl (fun _ _ h1 h2 => run_pickT (h1.ev rfl) (h1.ev rfl)) ?_
            obtain rfl := Option.some.inj H
            exact Tq.fin (.cons rfl (.cons rfl (.cons rfl (.cons rfl (.cons rfl (.cons rfl (.cons rfl (.cons rfl (.cons rfl (.cons rfl (.cons rfl .nil)))))))))))
        · refine Tq.nil (Tr.normThen ?_)
          refine Tr.cond rfl H (fun H => ?_) (fun H => ?_)
          · refine Tr.seq ?_
            refine Tr.region ?_
            refine Tr.val (wn rfl) rfl (fun _ _ h1 h2 => run_move (h1.ev rfl)) ?_
            refine Tr.val (wn rfl) rfl (fun _ _ h1 h2 => run_move (h1.ev rfl)) ?_
            refine Tr.val (wn rfl) rfl (fun _ _ h1 h2 => run_assign (h1.ev rfl)) ?_
            refine Tr.val (wn rfl) rfl (fun _ _ h1 h2 => run_assign (h1.ev rfl)) ?_
            refine Tr.nil (Tr.normThen ?_)
            refine Tr.block ?_
            refine Tr.loop (σ := (List Int) × Int × Int × (Option Addr) × Nat) (fun m w s => F_shape_Set__Parts_L33 N y100 x582 (F_shape_Set__Parts_L20 N p0 y100 restF_shape_Set__Parts_L20 (iF_shape_Set__Parts_L20 + 1)) xF_shape_Set__Parts_L20 m s.1 s.2.1 s.2.2.1 = some r ∧ SlF s.2.2.2.1 (s.1).length s.2.2.2.2) (fun s => [(0, (.slice Ap0_0 (p0).length cp0_0)), (3, (.slice Ay100_0 (y100).length cy100_0)), (4, (.pointer (some ⟨b104, 0, none⟩))), (6, (.func (.func 84) #[] #[(.pointer (some ⟨b104, 0, none⟩))])), (7, (.int .i64 x582)), (11, (.int .i64 (w64 (Int.tdiv (xF_shape_Set__Parts_L20.Xs.length : Int) 2)))), (12, (.int .i64 s.2.1)), (13, (.int .i64 s.2.2.1)), (42, (.slice Ap0_0 (p0).length cp0_0)), (43, (.int .i64 (p0.length : Int))), (44, (.int .i64 (iF_shape_Set__Parts_L20 : Int)))]) (fun s => [(2, ow Ay100_0 cy100_0 29 fl_TRect y100), (3, ow s.2.2.2.1 s.2.2.2.2 3 fl_i64 s.1), (4, bx b104 #[(.slice s.2.2.2.1 (s.1).length s.2.2.2.2)] 97)]) N (l581, x583, x582, Al581, cl581) ⟨H, hl581⟩ (.cons rfl (.cons rfl (.cons rfl (.cons rfl (.cons rfl (.cons rfl (.cons rfl (.cons rfl (.cons rfl (.cons rfl (.cons rfl .nil))))))))))) (.cons rfl (.cons rfl (.cons rfl .nil))) (fun _ _ h => noSome (h.1)) ?_
            intro w leF_shape_Set__Parts_L33 mF_shape_Set__Parts_L33 s hs
            obtain ⟨l897, x898, x899, Al897, cl897⟩ := s
            obtain ⟨H, hl897⟩ := hs
            replace H : F_shape_Set__Parts_L33 N y100 x582 (F_shape_Set__Parts_L20 N p0 y100 restF_shape_Set__Parts_L20 (iF_shape_Set__Parts_L20 + 1)) xF_shape_Set__Parts_L20 (mF_shape_Set__Parts_L33 + 1) l897 x898 x899 = some r := H
            replace hp0_0 := hp0_0.leR leF_shape_Set__Parts_L33
            replace leB := leB.trans leF_shape_Set__Parts_L33
            replace leF_shape_Set__Parts_L1 := leF_shape_Set__Parts_L1.trans leF_shape_Set__Parts_L33
            replace leF_shape_Set__Parts_L20 := leF_shape_Set__Parts_L20.trans leF_shape_Set__Parts_L33
            replace leJ819 := leJ819.trans leF_shape_Set__Parts_L33
            replace hl897 : SlF Al897 (l897).length cl897 := hl897
            rw [F_shape_Set__Parts_L33.eq_2] at H
            show Tr _ _ (LF [(0, (.slice Ap0_0 (p0).length cp0_0)), (3, (.slice Ay100_0 (y100).length cy100_0)), (4, (.pointer (some ⟨b104, 0, none⟩))), (6, (.func (.func 84) #[] #[(.pointer (some ⟨b104, 0, none⟩))])), (7, (.int .i64 x582)), (11, (.int .i64 (w64 (Int.tdiv (xF_shape_Set__Parts_L20.Xs.length : Int) 2)))), (12, (.int .i64 x898)), (13, (.int .i64 x899)), (42, (.slice Ap0_0 (p0).length cp0_0)), (43, (.int .i64 (p0.length : Int))), (44, (.int .i64 (iF_shape_Set__Parts_L20 : Int)))]) (LE [(2, ow Ay100_0 cy100_0 29 fl_TRect y100), (3, ow Al897 cl897 3 fl_i64 l897), (4, bx b104 #[(.slice Al897 (l897).length cl897)] 97)]) _
            refine Tr.seq ?_
            refine Tr.seq ?_
            refine Tr.region ?_
            refine Tr.val (wn rfl) rfl (fun _ _ h1 h2 => run_move (h1.ev rfl)) ?_
            refine Tr.val (wn rfl) rfl (fun _ _ h1 h2 => run_move (h1.ev rfl)) ?_
            refine Tr.val (wn rfl) rfl (fun _ _ h1 h2 => run_lss (h1.ev rfl) (h1.ev rfl)) ?_
            refine Tr.val (wn rfl) rfl (fun _ _ h1 h2 => run_move (h1.ev rfl)) ?_
            refine Tr.mid0 6 [(0, (.slice Ap0_0 (p0).length cp0_0)), (3, (.slice Ay100_0 (y100).length cy100_0)), (4, (.pointer (some ⟨b104, 0, none⟩))), (6, (.func (.func 84) #[] #[(.pointer (some ⟨b104, 0, none⟩))])), (7, (.int .i64 x582)), (11, (.int .i64 (w64 (Int.tdiv (xF_shape_Set__Parts_L20.Xs.length : Int) 2)))), (12, (.int .i64 x898)), (13, (.int .i64 x899)), (42, (.slice Ap0_0 (p0).length cp0_0)), (43, (.int .i64 (p0.length : Int))), (44, (.int .i64 (iF_shape_Set__Parts_L20 : Int))), (77, (.bool ((decide (x898 < x582)) && (decide (x899 < (w64 (x582 + (w64 (Int.tdiv (xF_shape_Set__Parts_L20.Xs.length : Int) 2)))))))))] [(2, ow Ay100_0 cy100_0 29 fl_TRect y100), (3, ow Al897 cl897 3 fl_i64 l897), (4, bx b104 #[(.slice Al897 (l897).length cl897)] 97)] ?_ ?_
            · cases hg930 : (decide (x898 < x582))
              · refine Tr.pass rfl rfl rfl rfl rfl (by decide) ?_
                refine Tr.pass rfl rfl rfl rfl rfl (by decide) ?_
                refine Tr.pass rfl rfl rfl rfl rfl (by decide) ?_
                refine Tr.pass rfl rfl rfl rfl rfl (by decide) ?_
                refine Tr.pass rfl rfl rfl rfl rfl (by decide) ?_
                refine Tr.val (wn rfl) rfl (fun _ _ h1 h2 => run_pickF (h1.ev rfl) (h1.ev rfl)) ?_
                exact Tr.nil (Tr.fin0 (.cons rfl (.cons rfl (.cons rfl (.cons rfl (.cons rfl (.cons rfl (.cons rfl (.cons rfl (.cons rfl (.cons rfl (.cons rfl (.cons rfl .nil)))))))))))) (.cons rfl (.cons rfl (.cons rfl .nil))))
              · refine Tr.val (wg rfl rfl rfl) rfl (fun _ _ h1 h2 => run_move (h1.ev rfl)) ?_
                refine Tr.val (wg rfl rfl rfl) rfl (fun _ _ h1 h2 => run_move (h1.ev rfl)) ?_
                refine Tr.val (wg rfl rfl rfl) rfl (fun _ _ h1 h2 => run_move (h1.ev rfl)) ?_
                refine Tr.val (wg rfl rfl rfl) rfl (fun _ _ h1 h2 => run_add (h1.ev rfl) (h1.ev rfl)) ?_
                refine Tr.val (wg rfl rfl rfl) rfl (fun _ _ h1 h2 => run_lss (h1.ev rfl) (h1.ev rfl)) ?_
                refine Tr.val (wn rfl) rfl (fun _ _ h1 h2 => run_pickT (h1.ev rfl) (h1.ev rfl)) ?_
                exact Tr.nil (Tr.fin0 (.cons rfl (.cons rfl (.cons rfl (.cons rfl (.cons rfl (.cons rfl (.cons rfl (.cons rfl (.cons rfl (.cons rfl (.cons rfl (.cons rfl .nil)))))))))))) (.cons rfl (.cons rfl (.cons rfl .nil))))
            · show Tr _ _ (LF [(0, (.slice Ap0_0 (p0).length cp0_0)), (3, (.slice Ay100_0 (y100).length cy100_0)), (4, (.pointer (some ⟨b104, 0, none⟩))), (6, (.func (.func 84) #[] #[(.pointer (some ⟨b104, 0, none⟩))])), (7, (.int .i64 x582)), (11, (.int .i64 (w64 (Int.tdiv (xF_shape_Set__Parts_L20.Xs.length : Int) 2)))), (12, (.int .i64 x898)), (13, (.int .i64 x899)), (42, (.slice Ap0_0 (p0).length cp0_0)), (43, (.int .i64 (p0.length : Int))), (44, (.int .i64 (iF_shape_Set__Parts_L20 : Int))), (77, (.bool ((decide (x898 < x582)) && (decide (x899 < (w64 (x582 + (w64 (Int.tdiv (xF_shape_Set__Parts_L20.Xs.length : Int) 2)))))))))]) (LE [(2, ow Ay100_0 cy100_0 29 fl_TRect y100), (3, ow Al897 cl897 3 fl_i64 l897), (4, bx b104 #[(.slice Al897 (l897).length cl897)] 97)]) _
              refine Tr.nil (Tr.normThen ?_)
              refine Tr.cond rfl H (fun H => ?_) (fun H => ?_)
              · refine Tr.skip (Tr.normThen ?_)
                refine Tr.block ?_
                have leJ914 := Bs.Le.refl w
                refine Tr.cutJ (σ := (List Int) × (Option Addr) × Nat) (fun w s => F_shape_Set__Parts_J34 y100 x898 x899 (F_shape_Set__Parts_L33 N y100 x582 (F_shape_Set__Parts_L20 N p0 y100 restF_shape_Set__Parts_L20 (iF_shape_Set__Parts_L20 + 1)) xF_shape_Set__Parts_L20 mF_shape_Set__Parts_L33) s.1 = some r ∧ SlF s.2.1 (s.1).length s.2.2) (fun s => [(0, (.slice Ap0_0 (p0).length cp0_0)), (3, (.slice Ay100_0 (y100).length cy100_0)), (4, (.pointer (some ⟨b104, 0, none⟩))), (6, (.func (.func 84) #[] #[(.pointer (some ⟨b104, 0, none⟩))])), (7, (.int .i64 x582)), (11, (.int .i64 (w64 (Int.tdiv (xF_shape_Set__Parts_L20.Xs.length : Int) 2)))), (12, (.int .i64 x898)), (13, (.int .i64 x899)), (42, (.slice Ap0_0 (p0).length cp0_0)), (43, (.int .i64 (p0.length : Int))), (44, (.int .i64 (iF_shape_Set__Parts_L20 : Int)))]) (fun s => [(2, ow Ay100_0 cy100_0 29 fl_TRect y100), (3, ow s.2.1 s.2.2 3 fl_i64 s.1), (4, bx b104 #[(.slice s.2.1 (s.1).length s.2.2)] 97)]) ?_ ?_
                · refine Tr.seq ?_
                  refine Tr.draw (by kernel_rfl) (by kernel_rfl) ?_
                  refine Tq.val (wn rfl) rfl (fun _ _ h1 h2 => run_move (h1.ev rfl)) ?_
                  refine Tq.val (wn rfl) rfl (fun _ _ h1 h2 => run_move (h1.ev rfl)) ?_
                  obtain ⟨x918, hx918, H⟩ := bnd H
                  obtain ⟨hx9180, hx9181, hx9182⟩ := idx_some hx918
                  refine Tq.val (wn rfl) rfl (fun _ _ h1 h2 => run_indexAddr el_22 (h1.ev rfl) hgy100_0 (h1.ev rfl) hx9180 hx9181) ?_
                  refine Tq.val (wn rfl) rfl (fun _ _ h1 h2 => run_fieldAddr fo_29_0 (h1.ev rfl)) ?_
                  refine Tq.val (wn rfl) rfl (fun _ _ h1 h2 => run_load1 ag_3 (h1.ev rfl) (CellsAt.drop (rdo ef_TRect (k := 2) h2 rfl hx9182) 0) rfl) ?_
                  refine Tq.val (wn rfl) rfl (fun _ _ h1 h2 => run_move (h1.ev rfl)) ?_
                  refine Tq.val (wn rfl) rfl (fun _ _ h1 h2 => run_move (h1.ev rfl)) ?_
                  obtain ⟨x919, hx919, H⟩ := bnd H
                  obtain ⟨hx9190, hx9191, hx9192⟩ := idx_some hx919
                  refine Tq.val (wn rfl) rfl (fun _ _ h1 h2 => run_indexAddr el_22 (h1.ev rfl) hgy100_0 (h1.ev rfl) hx9190 hx9191) ?_
                  refine Tq.val (wn rfl) rfl (fun _ _ h1 h2 => run_fieldAddr fo_29_2 (h1.ev rfl)) ?_
                  refine Tq.val (wn rfl) rfl (fun _ _ h1 h2 => run_load1 ag_3 (h1.ev rfl) (CellsAt.drop (rdo ef_TRect (k := 2) h2 rfl hx9192) 2) rfl) ?_
                  refine Tq.val (wn rfl) rfl (fun _ _ h1 h2 => run_lss (h1.ev rfl) (h1.ev rfl)) ?_
                  refine Tq.val (wn rfl) rfl (fun _ _ h1 h2 => run_move (h1.ev rfl)) ?_
                  obtain ⟨g922, hg922, H⟩ := bnd H
                  refine Tq.mid 12 [(0, (.slice Ap0_0 (p0).length cp0_0)), (3, (.slice Ay100_0 (y100).length cy100_0)), (4, (.pointer (some ⟨b104, 0, none⟩))), (6, (.func (.func 84) #[] #[(.pointer (some ⟨b104, 0, none⟩))])), (7, (.int .i64 x582)), (11, (.int .i64 (w64 (Int.tdiv (xF_shape_Set__Parts_L20.Xs.length : Int) 2)))), (12, (.int .i64 x898)), (13, (.int .i64 x899)), (42, (.slice Ap0_0 (p0).length cp0_0)), (43, (.int .i64 (p0.length : Int))), (44, (.int .i64 (iF_shape_Set__Parts_L20 : Int))), (101, (.bool g922))] ?_ ?_
                  · cases hg930 : (decide (x918.X0 < x919.X1))
                    · rw [hg930] at hg922
                      rw [if_neg (by decide)] at hg922
                      have H := hg922
                      obtain rfl := Option.some.inj H
                      refine Tq.pass rfl rfl rfl rfl rfl (by decide) ?_
                      refine Tq.pass rfl rfl rfl rfl rfl (by decide) ?_
                      refine Tq.pass rfl rfl rfl rfl rfl (by decide) ?_
                      refine Tq.pass rfl rfl rfl rfl rfl (by decide) ?_
                      refine Tq.pass rfl rfl rfl rfl rfl (by decide) ?_
                      refine Tq.pass rfl rfl rfl rfl rfl (by decide) ?_
                      refine Tq.pass rfl rfl rfl rfl rfl (by decide) ?_
                      refine Tq.pass rfl rfl rfl rfl rfl (by decide) ?_
                      refine Tq.pass rfl rfl rfl rfl rfl (by decide) ?_
                      refine Tq.pass rfl rfl rfl rfl rfl (by decide) ?_
                      refine Tq.pass rfl rfl rfl rfl rfl (by decide) ?_
                      refine Tq.val (wn rfl) rfl (fun _ _ h1 h2 => run_pickF (h1.ev rfl) (h1.ev rfl)) ?_
                      exact Tq.fin (.cons rfl (.cons rfl (.cons rfl (.cons rfl (.cons rfl (.cons rfl (.cons rfl (.cons rfl (.cons rfl (.cons rfl (.cons rfl (.cons rfl .nil))))))))))))
                    · rw [hg930] at hg922
                      rw [if_pos rfl] at hg922
                      have H := hg922
                      refine Tq.val (wg rfl rfl rfl) rfl (fun _ _ h1 h2 => run_move (h1.ev rfl)) ?_
                      refine Tq.val (wg rfl rfl rfl) rfl (fun _ _ h1 h2 => run_move (h1.ev rfl)) ?_
                      obtain ⟨x923, hx923, H⟩ := bnd H
                      obtain ⟨hx9230, hx9231, hx9232⟩ := idx_some hx923
                      refine Tq.val (wg rfl rfl rfl) rfl (fun _ _ h1 h2 => run_indexAddr el_22 (h1.ev rfl) hgy100_0 (h1.ev rfl) hx9230 hx9231) ?_
                      refine Tq.val (wg rfl rfl rfl) rfl (fun _ _ h1 h2 => run_fieldAddr fo_29_0 (h1.ev rfl)) ?_
                      refine Tq.val (wg rfl rfl rfl) rfl (fun _ _ h1 h2 => run_load1 ag_3 (h1.ev rfl) (CellsAt.drop (rdo ef_TRect (k := 2) h2 rfl hx9232) 0) rfl) ?_
                      refine Tq.val (wg rfl rfl rfl) rfl (fun _ _ h1 h2 => run_move (h1.ev rfl)) ?_
                      refine Tq.val (wg rfl rfl rfl) rfl (fun _ _ h1 h2 => run_move (h1.ev rfl)) ?_
                      obtain ⟨x924, hx924, H⟩ := bnd H
                      obtain ⟨hx9240, hx9241, hx9242⟩ := idx_some hx924
                      refine Tq.val (wg rfl rfl rfl) rfl (fun _ _ h1 h2 => run_indexAddr el_22 (h1.ev rfl) hgy100_0 (h1.ev rfl) hx9240 hx9241) ?_
                      refine Tq.val (wg rfl rfl rfl) rfl (fun _ _ h1 h2 => run_fieldAddr fo_29_2 (h1.ev rfl)) ?_
                      refine Tq.val (wg rfl rfl rfl) rfl (fun _ _ h1 h2 => run_load1 ag_3 (h1.ev rfl) (CellsAt.drop (rdo ef_TRect (k := 2) h2 rfl hx9242) 2) rfl) ?_
                      refine Tq.val (wg rfl rfl rfl) rfl (fun _ _ h1 h2 => run_lss (h1.ev rfl) (h1.ev rfl)) ?_
                      refine Tq.val (wn rfl) rfl (fun _ _ h1 h2 => run_pickT (h1.ev rfl) (h1.ev rfl)) ?_
                      obtain rfl := Option.some.inj H
                      exact Tq.fin (.cons rfl (.cons rfl (.cons rfl (.cons rfl (.cons rfl (.cons rfl (.cons rfl (.cons rfl (.cons rfl (.cons rfl (.cons rfl (.cons rfl .nil))))))))))))
                  · refine Tq.nil (Tr.normThen ?_)
                    refine Tr.cond rfl H (fun H => ?_) (fun H => ?_)
                    · refine Tr.seq ?_
                      refine Tr.region ?_
                      refine Tr.val (wn rfl) rfl (fun _ _ h1 h2 => run_move (h1.ev rfl)) ?_
                      refine Tr.val (wn rfl) rfl (fun _ _ h1 h2 => run_move (h1.ev rfl)) ?_
                      obtain ⟨y925, hy925, H⟩ := bnd H
                      refine Tr.callMC [4, 3] [bx b104 #[(.slice Al897 (l897).length cl897)] 97, ow Al897 cl897 3 fl_i64 l897] (U := (Option Addr × Nat)) (fun u => (.int .i64 y925.1)) (fun u => SlF u.1 (y925.2).length u.2) (fun u => [bx b104 #[(.slice u.1 (y925.2).length u.2)] 97, ow u.1 u.2 3 fl_i64 y925.2]) rfl (pk_cons rfl (pk_cons rfl pk_nil)) (fun _ => rfl) (wn rfl) rfl rfl Try.call84 (evl_cons rfl evl_nil) (fun W hW hp hE => F_shape_Set__Parts_1_ok N x898 l897 Al897 cl897 b104 y925 hy925 hE) ?_
                      intro u hu
                      obtain ⟨Ay925_0, cy925_0⟩ := u
                      have gy925_0 := hu
                      have hgy925_0 : SlF Ay925_0 (y925.2).length cy925_0 := gy925_0 --@phi
                      show Tr _ _ (uf _ 104 (.int .i64 y925.1)) (up (up _ 3 (ow Ay925_0 cy925_0 3 fl_i64 y925.2)) 4 (bx b104 #[(.slice Ay925_0 (y925.2).length cy925_0)] 97)) _
                      refine Tr.val (wn rfl) rfl (fun _ _ h1 h2 => run_move (h1.ev rfl)) ?_
                      refine Tr.val (wn rfl) rfl (fun _ _ h1 h2 => run_move (h1.ev rfl)) ?_
                      obtain ⟨y927, hy927, H⟩ := bnd H
                      refine Tr.callMC [4, 3] [bx b104 #[(.slice Ay925_0 (y925.2).length cy925_0)] 97, ow Ay925_0 cy925_0 3 fl_i64 y925.2] (U := (Option Addr × Nat)) (fun u => (.int .i64 y927.1)) (fun u => SlF u.1 (y927.2).length u.2) (fun u => [bx b104 #[(.slice u.1 (y927.2).length u.2)] 97, ow u.1 u.2 3 fl_i64 y927.2]) rfl (pk_cons rfl (pk_cons rfl pk_nil)) (fun _ => rfl) (wn rfl) rfl rfl Try.call84 (evl_cons rfl evl_nil) (fun W hW hp hE => F_shape_Set__Parts_1_ok N x899 y925.2 Ay925_0 cy925_0 b104 y927 hy927 hE) ?_
                      intro u hu
                      obtain ⟨Ay927_0, cy927_0⟩ := u
                      have gy927_0 := hu
                      have hgy927_0 : SlF Ay927_0 (y927.2).length cy927_0 := gy927_0 --@phi
                      show Tr _ _ (uf _ 107 (.int .i64 y927.1)) (up (up _ 3 (ow Ay927_0 cy927_0 3 fl_i64 y927.2)) 4 (bx b104 #[(.slice Ay927_0 (y927.2).length cy927_0)] 97)) _
                      refine Tr.val (wn rfl) rfl (fun _ _ h1 h2 => run_assign (h1.ev rfl)) ?_
                      refine Tr.val (wn rfl) rfl (fun _ _ h1 h2 => run_assign (h1.ev rfl)) ?_
                      refine Tr.nil (Tr.normThen ?_)
                      refine Tr.region ?_
                      refine Tr.val (wn rfl) rfl (fun _ _ h1 h2 => run_load1 ag_97 (h1.ev rfl) (rdb h2 (vs := [(.slice Ay927_0 (y927.2).length cy927_0)]) (k := 4) rfl 0) rfl) ?_
                      refine Tr.val (wn rfl) rfl (fun _ _ h1 h2 => run_move (h1.ev rfl)) ?_
                      refine Tr.val (wn rfl) rfl (fun _ _ h1 h2 => run_move (h1.ev rfl)) ?_
                      refine Tr.val (wn rfl) rfl (fun _ _ h1 h2 => run_max (h1.ev rfl) (h1.ev rfl) _) ?_
                      refine Tr.val (wn rfl) rfl (fun _ _ h1 h2 => run_move (h1.ev rfl)) ?_
                      refine Tr.val (wn rfl) rfl (fun _ _ h1 h2 => run_move (h1.ev rfl)) ?_
                      refine Tr.val (wn rfl) rfl (fun _ _ h1 h2 => run_min (h1.ev rfl) (h1.ev rfl) _) ?_
                      obtain ⟨x929, hx929, H⟩ := bnd H
                      obtain ⟨hx9290, hx9291, hx9292⟩ := idx_some hx929
                      refine Tr.val (wn rfl) rfl (fun _ _ h1 h2 => run_indexAddr el_97 (h1.ev rfl) hgy927_0 (h1.ev rfl) hx9290 hx9291) ?_
                      obtain ⟨l930, hl930, H⟩ := bnd H
                      have hnl930 := sets_len hl930
                      refine Tr.storeEl 3 (t := fl_i64) (l := y927.2) (i := (max y925.1 y927.1)) (fo := 0) (cs := [(.int .i64 (min y925.1 y927.1))]) (min y925.1 y927.1) (wn rfl) rfl rfl rfl rfl rfl hx9292 sz_3 rfl (fun u _ => ⟨u, trivial, rfl⟩) rfl hl930 ?_
                      have hfl930 : SlF Ay927_0 (l930).length cy927_0 := by rw [hnl930]; exact hgy927_0
                      refine Tr.sel (lf := [(0, (.slice Ap0_0 (p0).length cp0_0)), (3, (.slice Ay100_0 (y100).length cy100_0)), (4, (.pointer (some ⟨b104, 0, none⟩))), (6, (.func (.func 84) #[] #[(.pointer (some ⟨b104, 0, none⟩))])), (7, (.int .i64 x582)), (11, (.int .i64 (w64 (Int.tdiv (xF_shape_Set__Parts_L20.Xs.length : Int) 2)))), (12, (.int .i64 x898)), (13, (.int .i64 x899)), (14, (.int .i64 y925.1)), (15, (.int .i64 y927.1)), (42, (.slice Ap0_0 (p0).length cp0_0)), (43, (.int .i64 (p0.length : Int))), (44, (.int .i64 (iF_shape_Set__Parts_L20 : Int))), (101, (.bool g922)), (102, (.func (.func 84) #[] #[(.pointer (some ⟨b104, 0, none⟩))])), (103, (.int .i64 x898)), (104, (.int .i64 y925.1)), (105, (.func (.func 84) #[] #[(.pointer (some ⟨b104, 0, none⟩))])), (106, (.int .i64 x899)), (107, (.int .i64 y927.1)), (108, (.slice Ay927_0 (l930).length cy927_0)), (109, (.int .i64 y925.1)), (110, (.int .i64 y927.1)), (111, (.int .i64 (max y925.1 y927.1))), (112, (.int .i64 y925.1)), (113, (.int .i64 y927.1)), (114, (.int .i64 (min y925.1 y927.1)))]) (le := [(2, ow Ay100_0 cy100_0 29 fl_TRect y100), (3, ow Ay927_0 cy927_0 3 fl_i64 l930), (4, bx b104 #[(.slice Ay927_0 (l930).length cy927_0)] 97)]) (.cons rfl (.cons rfl (.cons rfl (.cons rfl (.cons rfl (.cons rfl (.cons rfl (.cons rfl (.cons rfl (.cons rfl (.cons rfl (.cons rfl (.cons rfl (.cons rfl (.cons rfl (.cons rfl (.cons rfl (.cons rfl (.cons rfl (.cons rfl (.cons (slenV rfl (by rw [hnl930])) (.cons rfl (.cons rfl (.cons rfl (.cons rfl (.cons rfl (.cons rfl .nil))))))))))))))))))))))))))) (.cons rfl (.cons rfl (.cons (ebx rfl (by rw [hnl930])) .nil))) ?_
                      refine Tr.nil ?_
                      exact Tr.backThen leJ914 (l930, Ay927_0, cy927_0) ⟨H, hfl930⟩ (.cons rfl (.cons rfl (.cons rfl (.cons rfl (.cons rfl (.cons rfl (.cons rfl (.cons rfl (.cons rfl (.cons rfl (.cons rfl .nil))))))))))) (.cons rfl (.cons rfl (.cons rfl .nil)))
                    · refine Tr.skip ?_
                      exact Tr.backThen leJ914 (l897, Al897, cl897) ⟨H, hl897⟩ (.cons rfl (.cons rfl (.cons rfl (.cons rfl (.cons rfl (.cons rfl (.cons rfl (.cons rfl (.cons rfl (.cons rfl (.cons rfl .nil))))))))))) (.cons rfl (.cons rfl (.cons rfl .nil)))
                · intro w s hlJ915 hs
                  obtain ⟨l913, Al913, cl913⟩ := s
                  obtain ⟨H, hl913⟩ := hs
                  replace H : F_shape_Set__Parts_J34 y100 x898 x899 (F_shape_Set__Parts_L33 N y100 x582 (F_shape_Set__Parts_L20 N p0 y100 restF_shape_Set__Parts_L20 (iF_shape_Set__Parts_L20 + 1)) xF_shape_Set__Parts_L20 mF_shape_Set__Parts_L33) l913 = some r := H
                  replace hp0_0 := hp0_0.leR hlJ915
                  replace leB := leB.trans hlJ915
                  replace leF_shape_Set__Parts_L1 := leF_shape_Set__Parts_L1.trans hlJ915
                  replace leF_shape_Set__Parts_L20 := leF_shape_Set__Parts_L20.trans hlJ915
                  replace leJ819 := leJ819.trans hlJ915
                  replace leF_shape_Set__Parts_L33 := leF_shape_Set__Parts_L33.trans hlJ915
                  replace hl913 : SlF Al913 (l913).length cl913 := hl913
                  unfold F_shape_Set__Parts_J34 at H
                  show Tr _ _ (LF [(0, (.slice Ap0_0 (p0).length cp0_0)), (3, (.slice Ay100_0 (y100).length cy100_0)), (4, (.pointer (some ⟨b104, 0, none⟩))), (6, (.func (.func 84) #[] #[(.pointer (some ⟨b104, 0, none⟩))])), (7, (.int .i64 x582)), (11, (.int .i64 (w64 (Int.tdiv (xF_shape_Set__Parts_L20.Xs.length : Int) 2)))), (12, (.int .i64 x898)), (13, (.int .i64 x899)), (42, (.slice Ap0_0 (p0).length cp0_0)), (43, (.int .i64 (p0.length : Int))), (44, (.int .i64 (iF_shape_Set__Parts_L20 : Int)))]) (LE [(2, ow Ay100_0 cy100_0 29 fl_TRect y100), (3, ow Al913 cl913 3 fl_i64 l913), (4, bx b104 #[(.slice Al913 (l913).length cl913)] 97)]) _
                  refine Tr.seq ?_
                  refine Tr.draw (by kernel_rfl) (by kernel_rfl) ?_
                  refine Tq.val (wn rfl) rfl (fun _ _ h1 h2 => run_move (h1.ev rfl)) ?_
                  refine Tq.val (wn rfl) rfl (fun _ _ h1 h2 => run_move (h1.ev rfl)) ?_
                  obtain ⟨x916, hx916, H⟩ := bnd H
                  obtain ⟨hx9160, hx9161, hx9162⟩ := idx_some hx916
                  refine Tq.val (wn rfl) rfl (fun _ _ h1 h2 => run_indexAddr el_22 (h1.ev rfl) hgy100_0 (h1.ev rfl) hx9160 hx9161) ?_
                  refine Tq.val (wn rfl) rfl (fun _ _ h1 h2 => run_fieldAddr fo_29_2 (h1.ev rfl)) ?_
                  refine Tq.val (wn rfl) rfl (fun _ _ h1 h2 => run_load1 ag_3 (h1.ev rfl) (CellsAt.drop (rdo ef_TRect (k := 2) h2 rfl hx9162) 2) rfl) ?_
                  refine Tq.val (wn rfl) rfl (fun _ _ h1 h2 => run_move (h1.ev rfl)) ?_
                  refine Tq.val (wn rfl) rfl (fun _ _ h1 h2 => run_move (h1.ev rfl)) ?_
                  obtain ⟨x917, hx917, H⟩ := bnd H
                  obtain ⟨hx9170, hx9171, hx9172⟩ := idx_some hx917
                  refine Tq.val (wn rfl) rfl (fun _ _ h1 h2 => run_indexAddr el_22 (h1.ev rfl) hgy100_0 (h1.ev rfl) hx9170 hx9171) ?_
                  refine Tq.val (wn rfl) rfl (fun _ _ h1 h2 => run_fieldAddr fo_29_2 (h1.ev rfl)) ?_
                  refine Tq.val (wn rfl) rfl (fun _ _ h1 h2 => run_load1 ag_3 (h1.ev rfl) (CellsAt.drop (rdo ef_TRect (k := 2) h2 rfl hx9172) 2) rfl) ?_
                  refine Tq.val (wn rfl) rfl (fun _ _ h1 h2 => run_lss (h1.ev rfl) (h1.ev rfl)) ?_
                  refine Tq.nil (Tr.normThen ?_)
                  refine Tr.cond rfl H (fun H => ?_) (fun H => ?_)
                  · refine Tr.region ?_
                    refine Tr.val (wn rfl) rfl (fun _ _ h1 h2 => run_move (h1.ev rfl)) ?_
                    refine Tr.val (wn rfl) rfl (fun _ _ h1 h2 => run_add (h1.ev rfl) (h1.ev rfl)) ?_
                    refine Tr.val (wn rfl) rfl (fun _ _ h1 h2 => run_assign (h1.ev rfl)) ?_
                    refine Tr.nil (Tr.normBlock ?_)
                    exact Tr.backThen leF_shape_Set__Parts_L33 (l913, (w64 (x898 + 1)), x899, Al913, cl913) ⟨H, hl913⟩ (.cons rfl (.cons rfl (.cons rfl (.cons rfl (.cons rfl (.cons rfl (.cons rfl (.cons rfl (.cons rfl (.cons rfl (.cons rfl .nil))))))))))) (.cons rfl (.cons rfl (.cons rfl .nil)))
                  · refine Tr.region ?_
                    refine Tr.val (wn rfl) rfl (fun _ _ h1 h2 => run_move (h1.ev rfl)) ?_
                    refine Tr.val (wn rfl) rfl (fun _ _ h1 h2 => run_add (h1.ev rfl) (h1.ev rfl)) ?_
                    refine Tr.val (wn rfl) rfl (fun _ _ h1 h2 => run_assign (h1.ev rfl)) ?_
                    refine Tr.nil (Tr.normBlock ?_)
                    exact Tr.backThen leF_shape_Set__Parts_L33 (l913, x898, (w64 (x899 + 1)), Al913, cl913) ⟨H, hl913⟩ (.cons rfl (.cons rfl (.cons rfl (.cons rfl (.cons rfl (.cons rfl (.cons rfl (.cons rfl (.cons rfl (.cons rfl (.cons rfl .nil))))))))))) (.cons rfl (.cons rfl (.cons rfl .nil)))
              · refine Tr.exit (Tr.exitThen (Tr.exitThen (Tr.exitBlock ?_)))
                exact Tr.backThen leJ819 (l897, Al897, cl897) ⟨H, hl897⟩ (.cons rfl (.cons rfl (.cons rfl (.cons rfl (.cons rfl (.cons rfl (.cons rfl (.cons rfl (.cons rfl .nil))))))))) (.cons rfl (.cons rfl (.cons rfl .nil)))
          · refine Tr.skip ?_
            exact Tr.backThen leJ819 (l581, Al581, cl581) ⟨H, hl581⟩ (.cons rfl (.cons rfl (.cons rfl (.cons rfl (.cons rfl (.cons rfl (.cons rfl (.cons rfl (.cons rfl .nil))))))))) (.cons rfl (.cons rfl (.cons rfl .nil)))
      · intro w s hlJ820 hs
        obtain ⟨l818, Al818, cl818⟩ := s
        obtain ⟨H, hl818⟩ := hs
        replace H : F_shape_Set__Parts_J30 x582 (F_shape_Set__Parts_L20 N p0 y100 restF_shape_Set__Parts_L20 (iF_shape_Set__Parts_L20 + 1)) xF_shape_Set__Parts_L20 l818 = some r := H
        replace hp0_0 := hp0_0.leR hlJ820
        replace leB := leB.trans hlJ820
        replace leF_shape_Set__Parts_L1 := leF_shape_Set__Parts_L1.trans hlJ820
        replace leF_shape_Set__Parts_L20 := leF_shape_Set__Parts_L20.trans hlJ820
        replace hl818 : SlF Al818 (l818).length cl818 := hl818
        unfold F_shape_Set__Parts_J30 at H
        show Tr _ _ (LF [(0, (.slice Ap0_0 (p0).length cp0_0)), (3, (.slice Ay100_0 (y100).length cy100_0)), (4, (.pointer (some ⟨b104, 0, none⟩))), (6, (.func (.func 84) #[] #[(.pointer (some ⟨b104, 0, none⟩))])), (7, (.int .i64 x582)), (11, (.int .i64 (w64 (Int.tdiv (xF_shape_Set__Parts_L20.Xs.length : Int) 2)))), (42, (.slice Ap0_0 (p0).length cp0_0)), (43, (.int .i64 (p0.length : Int))), (44, (.int .i64 (iF_shape_Set__Parts_L20 : Int)))]) (LE [(2, ow Ay100_0 cy100_0 29 fl_TRect y100), (3, ow Al818 cl818 3 fl_i64 l818), (4, bx b104 #[(.slice Al818 (l818).length cl818)] 97)]) _
        refine Tr.region ?_
        refine Tr.val (wn rfl) rfl (fun _ _ h1 h2 => run_move (h1.ev rfl)) ?_
        refine Tr.val (wn rfl) rfl (fun _ _ h1 h2 => run_move (h1.ev rfl)) ?_
        refine Tr.val (wn rfl) rfl (fun _ _ h1 h2 => run_move (h1.ev rfl)) ?_
        refine Tr.val (wn rfl) rfl (fun _ _ h1 h2 => run_add (h1.ev rfl) (h1.ev rfl)) ?_
        refine Tr.val (wn rfl) rfl (fun _ _ h1 h2 => run_assign (h1.ev rfl)) ?_
        refine Tr.val (wn rfl) rfl (fun _ _ h1 h2 => run_assign (h1.ev rfl)) ?_
        refine Tr.nil (Tr.normBlock (Tr.normThen ?_))
        refine Tr.region ?_
        refine Tr.val (wn rfl) rfl (fun _ _ h1 h2 => run_add (h1.ev rfl) (h1.ev rfl)) ?_
        refine Tr.val (wn rfl) rfl (fun _ _ h1 h2 => run_move (h1.ev rfl)) ?_
        refine Tr.nil ?_
        exact Tr.backThen leF_shape_Set__Parts_L20 (restF_shape_Set__Parts_L20, (iF_shape_Set__Parts_L20 + 1), l818, (w64 (x582 + (w64 (Int.tdiv (xF_shape_Set__Parts_L20.Xs.length : Int) 2)))), x582, Al818, cl818) ⟨rfl, range_tl hdF_shape_Set__Parts_L20, range_lt hdF_shape_Set__Parts_L20, H, hl818⟩ (.cons rfl (.cons rfl (.cons rfl (.cons rfl (.cons rfl (.cons rfl (.cons rfl (.cons rfl (.cons (congrArg (fun z => some (Value.int .i64 z)) (range_up hdF_shape_Set__Parts_L20 hp0_0.form)) .nil))))))))) (.cons rfl (.cons rfl (.cons rfl .nil)))

theorem F_shape_Set__First_ok {w : Bs} (p0 : (List TBand)) (Ap0_0 : Option Addr) (cp0_0 : Nat) (hp0_0 : Sl w.R w.W fl_TBand Ap0_0 cp0_0 p0) (r : TPoint) (H : F_shape_Set__First p0 = some r) (hE : HF w w.W E0) : Calls Try.prog 54 [(.slice Ap0_0 (p0).length cp0_0)].toArray w.W fun e W' => e = .returned (.agg #[(.int .i64 r.X), (.int .i64 r.Y)]) ∧ HF w W' E0 := by
  unfold F_shape_Set__First at H
  have leB := Bs.Le.refl w
  refine Tr.enter (n := 14) Try.func54 rfl rfl rfl hE ?_
  refine Tr.seq ?_
  refine Tr.region ?_
  refine Tr.alloc 1 (wn rfl) rfl ze_32 fun b100 => ?_
  refine Tr.nil (Tr.normThen ?_)
  refine Tr.seq ?_
  refine Tr.drawTail 10 (by kernel_rfl) (by kernel_rfl) ?_
  refine Tq.val (wn rfl) rfl (fun _ _ h1 h2 => run_move (h1.ev rfl)) ?_
  obtain ⟨x101, hx101, H⟩ := bnd H
  obtain ⟨hx1010, hx1011, hx1012⟩ := idx_some hx101
  obtain ⟨u102, hRu102, hoku102, hcu102⟩ := (hp0_0).el hx1012
  obtain ⟨Au102_0, cu102_0⟩ := u102
  have hoku102_0 := hoku102
  replace hoku102_0 : Sl w.R w.W fl_i64 Au102_0 cu102_0 x101.Xs := hoku102_0
  refine Tq.val (wn rfl) rfl (fun _ _ h1 h2 => run_indexAddr el_65 (h1.ev rfl) hp0_0.form (h1.ev rfl) hx1010 hx1011) ?_
  refine Tq.val (wn rfl) rfl (fun _ _ h1 h2 => run_fieldAddr fo_104_2 (h1.ev rfl)) ?_
  refine Tq.val (wn rfl) rfl (fun _ _ h1 h2 => run_load1 ag_97 (h1.ev rfl) (CellsAt.drop (rdR hRu102 hcu102 h2) 2) rfl) ?_
  obtain ⟨x103, hx103, H⟩ := bnd H
  obtain ⟨hx1030, hx1031, hx1032⟩ := idx_some hx103
  refine Tq.val (wn rfl) rfl (fun _ _ h1 h2 => run_indexAddr el_97 (h1.ev rfl) hoku102_0.form (h1.ev rfl) hx1030 hx1031) ?_
  refine Tq.val (wn rfl) rfl (fun _ _ h1 h2 => run_load1 ag_3 (h1.ev rfl) (rdF ef_i64 hoku102_0 hx1032 h2) rfl) ?_
  refine Tq.val (wn rfl) rfl (fun _ _ h1 h2 => run_move (h1.ev rfl)) ?_
  obtain ⟨x104, hx104, H⟩ := bnd H
  obtain ⟨hx1040, hx1041, hx1042⟩ := idx_some hx104
  obtain ⟨u105, hRu105, hoku105, hcu105⟩ := (hp0_0).el hx1042
  obtain ⟨Au105_0, cu105_0⟩ := u105
  have hoku105_0 := hoku105
  replace hoku105_0 : Sl w.R w.W fl_i64 Au105_0 cu105_0 x104.Xs := hoku105_0
  refine Tq.val (wn rfl) rfl (fun _ _ h1 h2 => run_indexAddr el_65 (h1.ev rfl) hp0_0.form (h1.ev rfl) hx1040 hx1041) ?_
  refine Tq.val (wn rfl) rfl (fun _ _ h1 h2 => run_fieldAddr fo_104_0 (h1.ev rfl)) ?_
  refine Tq.val (wn rfl) rfl (fun _ _ h1 h2 => run_load1 ag_3 (h1.ev rfl) (CellsAt.drop (rdR hRu105 hcu105 h2) 0) rfl) ?_
  refine Tq.nil ?_
  refine Tr.build (vs := [(0, (.int .i64 x103)), (1, (.int .i64 x104.Y0))]) (cs := [(.int .i64 x103), (.int .i64 x104.Y0)]) (wn rfl) rfl (evs_cons rfl (evs_cons rfl evs_nil)) (by kernel_rfl) ?_
  refine Tr.store 1 (cs := [(.int .i64 x103), (.int .i64 x104.Y0)]) [(.int .i64 x103), (.int .i64 x104.Y0)] (wn rfl) rfl rfl rfl rfl sz_32 rfl rfl rfl ?_
  refine Tr.nil (Tr.normThen ?_)
  refine Tr.ret ?_
  obtain rfl := Option.some.inj H
  exact Tr.out (m := [(.agg #[(.int .i64 x103), (.int .i64 x104.Y0)])]) [1] (res_cell rfl rfl ag_32 sz_32 res_nil) (fun W hW => ⟨rfl, hW.low leB⟩)

theorem F_shape_Holes_ok (N : Nat) {w : Bs} (p0 : (List TRect)) (Ap0_0 : Option Addr) (cp0_0 : Nat) (hp0_0 : Sl w.R w.W fl_TRect Ap0_0 cp0_0 p0) (r : ((List (List TRect)) × Int)) (H : F_shape_Holes N p0 = some r) (hE : HF w w.W (LEn [emp])) : Calls Try.prog 26 [(.slice Ap0_0 (p0).length cp0_0)].toArray w.W fun e W' => ∃ (w' : Bs) (u : (Option Addr × Nat)), w.Le w' ∧ e = .returned (.tuple #[(.slice u.1 (r.1).length u.2), (.int .i64 r.2)]) ∧ (SlF u.1 (r.1).length u.2) ∧ HF w' W' (LEn [ow u.1 u.2 22 fl_LTRect r.1]) := by
  unfold F_shape_Holes at H
  have leB := Bs.Le.refl w
  refine Tr.enter (n := 50) Try.func26 rfl rfl rfl hE ?_
  refine Tr.seq ?_
  refine Tr.region ?_
  refine Tr.val (wn rfl) rfl (fun _ _ h1 h2 => run_assign (h1.ev rfl)) ?_
  refine Tr.nilOwn 1 22 fl_LTRect ?_
  show Tr _ _ (uf _ 2 (.slice none (([] : List (List TRect))).length 0)) _ _
  refine Tr.val (wn rfl) rfl (fun _ _ h1 h2 => run_assign (h1.ev rfl)) ?_
  refine Tr.nil (Tr.normThen ?_)
  refine Tr.seq ?_
  refine Tr.seq ?_
  refine Tr.region ?_
  refine Tr.val (wn rfl) rfl (fun _ _ h1 h2 => run_move (h1.ev rfl)) ?_
  obtain ⟨y100, hy100, H⟩ := bnd H
  refine Tr.call0 (r := (.int .i64 y100)) (wn rfl) rfl Try.call18 (evl_cons rfl evl_nil) (fun W hW => F_shape_CheckRegion_ok N p0 Ap0_0 cp0_0 (hp0_0.ext hW.extAll) y100 hy100 (HF.start _)) ?_
  refine Tr.val (wn rfl) rfl (fun _ _ h1 h2 => run_assign (h1.ev rfl)) ?_
  refine Tr.nil (Tr.normThen ?_)
  refine Tr.seq ?_
  refine Tr.region ?_
  refine Tr.val (wn rfl) rfl (fun _ _ h1 h2 => run_move (h1.ev rfl)) ?_
  refine Tr.val (wn rfl) rfl (fun _ _ h1 h2 => run_neq (h1.ev rfl) (h1.ev rfl)) ?_
  refine Tr.val (wn rfl) rfl (fun _ _ h1 h2 => run_move (h1.ev rfl)) ?_
  refine Tr.mid0 4 [(0, (.slice Ap0_0 (p0).length cp0_0)), (4, (.int .i64 y100)), (19, (.bool ((y100 != 0) || ((p0.length : Int) == 0))))] [(1, ow none 0 22 fl_LTRect ([] : List (List TRect)))] ?_ ?_
  · cases hg153 : (y100 != 0)
    · refine Tr.val (wg rfl rfl rfl) rfl (fun _ _ h1 h2 => run_move (h1.ev rfl)) ?_
      refine Tr.val (wg rfl rfl rfl) rfl (fun _ _ h1 h2 => run_len un_22 (h1.ev rfl)) ?_
      refine Tr.val (wg rfl rfl rfl) rfl (fun _ _ h1 h2 => run_eql (h1.ev rfl) (h1.ev rfl)) ?_
      refine Tr.val (wn rfl) rfl (fun _ _ h1 h2 => run_pickF (h1.ev rfl) (h1.ev rfl)) ?_
      exact Tr.nil (Tr.fin0 (.cons rfl (.cons rfl (.cons rfl .nil))) (.cons rfl .nil))
    · refine Tr.pass rfl rfl rfl rfl rfl (by decide) ?_
      refine Tr.pass rfl rfl rfl rfl rfl (by decide) ?_
      refine Tr.pass rfl rfl rfl rfl rfl (by decide) ?_
      refine Tr.val (wn rfl) rfl (fun _ _ h1 h2 => run_pickT (h1.ev rfl) (h1.ev rfl)) ?_
      exact Tr.nil (Tr.fin0 (.cons rfl (.cons rfl (.cons rfl .nil))) (.cons rfl .nil))
  · show Tr _ _ (LF [(0, (.slice Ap0_0 (p0).length cp0_0)), (4, (.int .i64 y100)), (19, (.bool ((y100 != 0) || ((p0.length : Int) == 0))))]) (LE [(1, ow none 0 22 fl_LTRect ([] : List (List TRect)))]) _
    refine Tr.nil (Tr.normThen ?_)
    refine Tr.cond rfl H (fun H => ?_) (fun H => ?_)
    · refine Tr.seq ?_
      refine Tr.region ?_
      refine Tr.val (wn rfl) rfl (fun _ _ h1 h2 => run_move (h1.ev rfl)) ?_
      refine Tr.val (wn rfl) rfl (fun _ _ h1 h2 => run_assign (h1.ev rfl)) ?_
      refine Tr.nilOwn 2 22 fl_LTRect ?_
      show Tr _ _ (uf _ 2 (.slice none (([] : List (List TRect))).length 0)) _ _
      refine Tr.val (wn rfl) rfl (fun _ _ h1 h2 => run_assign (h1.ev rfl)) ?_
      refine Tr.nil (Tr.normThen ?_)
      refine Tr.ret (Tr.retThen ?_)
      obtain rfl := Option.some.inj H
      exact Tr.out (m := [(.slice none (([] : List (List TRect))).length 0), (.int .i64 y100)]) [] (res_tmp rfl (res_tmp rfl res_nil)) (fun W hW => ⟨w, (none, 0), leB, rfl, slf_nil, hW.pick (ks := [2]) (by decide) (pk_cons rfl pk_nil)⟩)
    · refine Tr.skip (Tr.normThen ?_)
      refine Tr.seq ?_
      refine Tr.region ?_
      refine Tr.val (wn rfl) rfl (fun _ _ h1 h2 => run_move (h1.ev rfl)) ?_
      obtain ⟨y101, hy101, H⟩ := bnd H
      refine Tr.callG [3] [emp] (U := (Option Addr × Nat)) (fun u => (.slice u.1 (y101).length u.2)) (fun O W u => SlF u.1 (y101).length u.2) (fun u => [ow u.1 u.2 104 fl_TBand y101]) rfl (pk_cons rfl pk_nil) (fun _ => rfl) (wn rfl) rfl Try.call40 (evl_cons rfl evl_nil) (fun W hW hp hE => F_shape_SetOf_ok N p0 Ap0_0 cp0_0 (hp0_0.ext (hW.extS hp)) y101 hy101 hE) ?_
      intro w u le102 hu
      obtain ⟨Ay101_0, cy101_0⟩ := u
      have gy101_0 := hu
      replace hp0_0 := hp0_0.leR le102
      replace leB := leB.trans le102
      have hgy101_0 : SlF Ay101_0 (y101).length cy101_0 := gy101_0 --@phi
      show Tr _ _ (uf _ 22 (.slice Ay101_0 (y101).length cy101_0)) (up _ 3 (ow Ay101_0 cy101_0 104 fl_TBand y101)) _
      refine Tr.val (wn rfl) rfl (fun _ _ h1 h2 => run_assign (h1.ev rfl)) ?_
      refine Tr.nil (Tr.normThen ?_)
      refine Tr.seq ?_
      refine Tr.region ?_
      refine Tr.val (wn rfl) rfl (fun _ _ h1 h2 => run_move (h1.ev rfl)) ?_
      obtain ⟨y103, hy103, H⟩ := bnd H
      refine Tr.call0 (r := (.agg #[(.int .i64 y103.X0), (.int .i64 y103.Y0), (.int .i64 y103.X1), (.int .i64 y103.Y1)])) (wn rfl) rfl Try.call51 (evl_cons rfl evl_nil) (fun W hW => F_shape_Set__Around_ok y101 Ay101_0 cy101_0 (hW.slCall (k := 3) rfl) y103 hy103 (HF.start _)) ?_
      refine Tr.alloc 4 (wn rfl) rfl ze_29 fun b104 => ?_
      refine Tr.store 4 (cs := [(.int .i64 y103.X0), (.int .i64 y103.Y0), (.int .i64 y103.X1), (.int .i64 y103.Y1)]) [(.int .i64 y103.X0), (.int .i64 y103.Y0), (.int .i64 y103.X1), (.int .i64 y103.Y1)] (wn rfl) rfl rfl rfl rfl sz_29 rfl rfl rfl ?_
      refine Tr.nil (Tr.normThen ?_)
      refine Tr.seq ?_
      refine Tr.region ?_
      refine Tr.val (wn rfl) rfl (fun _ _ h1 h2 => run_loadN (cs := [(.int .i64 y103.X0), (.int .i64 y103.Y0), (.int .i64 y103.X1), (.int .i64 y103.Y1)]) ag_29 sz_29 (h1.ev rfl) (CellsAt.take (rdb h2 (vs := [(.int .i64 y103.X0), (.int .i64 y103.Y0), (.int .i64 y103.X1), (.int .i64 y103.Y1)]) (k := 4) rfl 0) 4) rfl) ?_
      refine Tr.buildSlice 5 (e := 29) (vs := [(0, (.agg #[(.int .i64 y103.X0), (.int .i64 y103.Y0), (.int .i64 y103.X1), (.int .i64 y103.Y1)]))]) (cs := [(.int .i64 y103.X0), (.int .i64 y103.Y0), (.int .i64 y103.X1), (.int .i64 y103.Y1)]) (wn rfl) rfl (evs_cons rfl evs_nil) (by kernel_rfl) fun b105 => ?_
      refine Tr.own 5 fl_TRect [y103] (css := [[(.int .i64 y103.X0), (.int .i64 y103.Y0), (.int .i64 y103.X1), (.int .i64 y103.Y1)]]) rfl (.cons ⟨(), trivial, rfl⟩ .nil) rfl (by decide) (lit_max rfl) ?_
      obtain ⟨y106, hy106, H⟩ := bnd H
      refine Tr.callG [6] [emp] (U := (Option Addr × Nat)) (fun u => (.slice u.1 (y106).length u.2)) (fun O W u => SlF u.1 (y106).length u.2) (fun u => [ow u.1 u.2 104 fl_TBand y106]) rfl (pk_cons rfl pk_nil) (fun _ => rfl) (wn rfl) rfl Try.call40 (evl_cons rfl evl_nil) (fun W hW hp hE => F_shape_SetOf_ok N [y103] (some ⟨b105, 0, none⟩) 1 (hW.slS (k := 5) rfl hp rfl) y106 hy106 hE) ?_
      intro w u le107 hu
      obtain ⟨Ay106_0, cy106_0⟩ := u
      have gy106_0 := hu
      replace hp0_0 := hp0_0.leR le107
      replace leB := leB.trans le107
      have hgy106_0 : SlF Ay106_0 (y106).length cy106_0 := gy106_0 --@phi
      show Tr _ _ (uf _ 27 (.slice Ay106_0 (y106).length cy106_0)) (up _ 6 (ow Ay106_0 cy106_0 104 fl_TBand y106)) _
      obtain ⟨y108, hy108, H⟩ := bnd H
      refine Tr.callG [7] [emp] (U := (Option Addr × Nat)) (fun u => (.slice u.1 (y108).length u.2)) (fun O W u => SlF u.1 (y108).length u.2) (fun u => [ow u.1 u.2 104 fl_TBand y108]) rfl (pk_cons rfl pk_nil) (fun _ => rfl) (wn rfl) rfl Try.call52 (evl_cons rfl (evl_cons rfl evl_nil)) (fun W hW hp hE => F_shape_Set__Wide_ok N y106 Ay106_0 cy106_0 (hW.slS (k := 6) rfl hp rfl) 1 y108 hy108 hE) ?_
      intro w u le109 hu
      obtain ⟨Ay108_0, cy108_0⟩ := u
      have gy108_0 := hu
      replace hp0_0 := hp0_0.leR le109
      replace leB := leB.trans le109
      have hgy108_0 : SlF Ay108_0 (y108).length cy108_0 := gy108_0 --@phi
      show Tr _ _ (uf _ 28 (.slice Ay108_0 (y108).length cy108_0)) (up _ 7 (ow Ay108_0 cy108_0 104 fl_TBand y108)) _
      refine Tr.val (wn rfl) rfl (fun _ _ h1 h2 => run_assign (h1.ev rfl)) ?_
      refine Tr.nil (Tr.normThen ?_)
      refine Tr.seq ?_
      refine Tr.region ?_
      refine Tr.val (wn rfl) rfl (fun _ _ h1 h2 => run_assign (h1.ev rfl)) ?_
      refine Tr.nilOwn 8 22 fl_LTRect ?_
      show Tr _ _ (uf _ 8 (.slice none (([] : List (List TRect))).length 0)) _ _
      refine Tr.nil (Tr.normThen ?_)
      refine Tr.seq ?_
      refine Tr.seq ?_
      refine Tr.region ?_
      refine Tr.val (wn rfl) rfl (fun _ _ h1 h2 => run_move (h1.ev rfl)) ?_
      refine Tr.val (wn rfl) rfl (fun _ _ h1 h2 => run_move (h1.ev rfl)) ?_
      refine Tr.freeze 7 rfl fun w le111 hz110 => ?_
      replace hp0_0 := hp0_0.leR le111
      replace leB := leB.trans le111
      refine Tr.freeze 3 rfl fun w le113 hz112 => ?_
      replace hp0_0 := hp0_0.leR le113
      replace hz110 := hz110.le le113
      replace leB := leB.trans le113
      obtain ⟨y114, hy114, H⟩ := bnd H
      refine Tr.callG [9] [emp] (U := (Option Addr × Nat)) (fun u => (.slice u.1 (y114).length u.2)) (fun O W u => SlF u.1 (y114).length u.2) (fun u => [ow u.1 u.2 104 fl_TBand y114]) rfl (pk_cons rfl pk_nil) (fun _ => rfl) (wn rfl) rfl Try.call53 (evl_cons rfl (evl_cons rfl evl_nil)) (fun W hW hp hE => F_shape_Set__Less_ok N y108 Ay108_0 cy108_0 (hz110.extO (hW.extS hp)) y101 Ay101_0 cy101_0 (hz112.extO (hW.extS hp)) y114 hy114 hE) ?_
      intro w u le115 hu
      obtain ⟨Ay114_0, cy114_0⟩ := u
      have gy114_0 := hu
      replace hp0_0 := hp0_0.leR le115
      replace hz112 := hz112.le le115
      replace hz110 := hz110.le le115
      replace leB := leB.trans le115
      have hgy114_0 : SlF Ay114_0 (y114).length cy114_0 := gy114_0 --@phi
      show Tr _ _ (uf _ 31 (.slice Ay114_0 (y114).length cy114_0)) (up _ 9 (ow Ay114_0 cy114_0 104 fl_TBand y114)) _
      obtain ⟨y116, hy116, H⟩ := bnd H
      refine Tr.callG [10] [emp] (U := (Option Addr × Nat)) (fun u => (.slice u.1 (y116).length u.2)) (fun O W u => SlF u.1 (y116).length u.2) (fun u => [ow u.1 u.2 65 fl_LTBand y116]) rfl (pk_cons rfl pk_nil) (fun _ => rfl) (wn rfl) rfl Try.call47 (evl_cons rfl evl_nil) (fun W hW hp hE => F_shape_Set__Parts_ok N y114 Ay114_0 cy114_0 (hW.slS (k := 9) rfl hp rfl) y116 hy116 hE) ?_
      intro w u le117 hu
      obtain ⟨Ay116_0, cy116_0⟩ := u
      have gy116_0 := hu
      replace hp0_0 := hp0_0.leR le117
      replace hz112 := hz112.le le117
      replace hz110 := hz110.le le117
      replace leB := leB.trans le117
      have hgy116_0 : SlF Ay116_0 (y116).length cy116_0 := gy116_0 --@phi
      show Tr _ _ (uf _ 32 (.slice Ay116_0 (y116).length cy116_0)) (up _ 10 (ow Ay116_0 cy116_0 65 fl_LTBand y116)) _
      refine Tr.val (wn rfl) rfl (fun _ _ h1 h2 => run_len un_75 (h1.ev rfl)) ?_
      refine Tr.val (wn rfl) rfl (fun _ _ h1 h2 => run_move (h1.ev rfl)) ?_
      refine Tr.nil (Tr.normThen ?_)
      refine Tr.block ?_
      refine Tr.loop (σ := (List (List TBand)) × Nat × (List (List TRect)) × (Option Addr) × Nat) (fun m w s => m = s.1.length + 1 ∧ s.1 = List.drop s.2.1 y116 ∧ s.2.1 ≤ y116.length ∧ F_shape_Holes_L1 N y108 s.1 s.2.1 s.2.2.1 = some r ∧ SlF s.2.2.2.1 (s.2.2.1).length s.2.2.2.2) (fun s => [(7, (.slice Ay108_0 (y108).length cy108_0)), (8, (.slice s.2.2.2.1 (s.2.2.1).length s.2.2.2.2)), (32, (.slice Ay116_0 (y116).length cy116_0)), (33, (.int .i64 (y116.length : Int))), (34, (.int .i64 (s.2.1 : Int)))]) (fun s => [(8, ow s.2.2.2.1 s.2.2.2.2 22 fl_LTRect s.2.2.1), (10, ow Ay116_0 cy116_0 65 fl_LTBand y116)]) (y116.length + 1) (y116, 0, ([] : List (List TRect)), none, 0) ⟨rfl, rfl, Nat.zero_le _, H, slf_nil⟩ (.cons rfl (.cons rfl (.cons rfl (.cons rfl (.cons rfl .nil))))) (.cons rfl (.cons rfl .nil)) (fun _ _ h => absurd h.1 (by simp)) ?_
      intro w leF_shape_Holes_L1 m s hs
      obtain ⟨restF_shape_Holes_L1, iF_shape_Holes_L1, l144, Al144, cl144⟩ := s
      obtain ⟨hmF_shape_Holes_L1, hdF_shape_Holes_L1, hiF_shape_Holes_L1, H, hl144⟩ := hs
      replace hdF_shape_Holes_L1 : restF_shape_Holes_L1 = List.drop iF_shape_Holes_L1 y116 := hdF_shape_Holes_L1
      replace H : F_shape_Holes_L1 N y108 restF_shape_Holes_L1 iF_shape_Holes_L1 l144 = some r := H
      replace hmF_shape_Holes_L1 : m + 1 = restF_shape_Holes_L1.length + 1 := hmF_shape_Holes_L1
      replace hz110 := hz110.le leF_shape_Holes_L1
      replace leB := leB.trans leF_shape_Holes_L1
      replace hl144 : SlF Al144 (l144).length cl144 := hl144
      obtain rfl : m = restF_shape_Holes_L1.length := by omega
      clear hmF_shape_Holes_L1
      show Tr _ _ (LF [(7, (.slice Ay108_0 (y108).length cy108_0)), (8, (.slice Al144 (l144).length cl144)), (32, (.slice Ay116_0 (y116).length cy116_0)), (33, (.int .i64 (y116.length : Int))), (34, (.int .i64 (iF_shape_Holes_L1 : Int)))]) (LE [(8, ow Al144 cl144 22 fl_LTRect l144), (10, ow Ay116_0 cy116_0 65 fl_LTBand y116)]) _
      cases restF_shape_Holes_L1 with
      | nil =>
        rw [F_shape_Holes_L1.eq_1] at H
        refine Tr.seq ?_
        refine Tr.region ?_
        refine Tr.val (wn rfl) rfl (fun _ _ h1 h2 => run_lss (h1.ev rfl) (h1.ev rfl)) ?_
        refine Tr.nil (Tr.normThen ?_)
        refine Tr.seq ?_
        refine Tr.condF rfl (range_nil hdF_shape_Holes_L1) ?_
        refine Tr.exit (Tr.exitThen (Tr.exitThen (Tr.exitBlock (Tr.normThen ?_))))
        refine Tr.seq ?_
        refine Tr.region ?_
        refine Tr.val (wn rfl) rfl (fun _ _ h1 h2 => run_move (h1.ev rfl)) ?_
        refine Tr.val (wn rfl) rfl (fun _ _ h1 h2 => run_assign (h1.ev rfl)) ?_
        refine Tr.val (wn rfl) rfl (fun _ _ h1 h2 => run_assign (h1.ev rfl)) ?_
        refine Tr.nil (Tr.normThen ?_)
        refine Tr.ret ?_
        obtain rfl := Option.some.inj H
        exact Tr.out (m := [(.slice Al144 (l144).length cl144), (.int .i64 0)]) [] (res_tmp rfl (res_tmp rfl res_nil)) (fun W hW => ⟨w, (Al144, cl144), leB, rfl, hl144, hW.pick (ks := [8]) (by decide) (pk_cons rfl pk_nil)⟩)
      | cons xF_shape_Holes_L1 restF_shape_Holes_L1 =>
        rw [F_shape_Holes_L1.eq_2] at H
        refine Tr.seq ?_
        refine Tr.region ?_
        refine Tr.val (wn rfl) rfl (fun _ _ h1 h2 => run_lss (h1.ev rfl) (h1.ev rfl)) ?_
        refine Tr.nil (Tr.normThen ?_)
        refine Tr.seq ?_
        refine Tr.condT rfl (range_on hdF_shape_Holes_L1) ?_
        refine Tr.skip (Tr.normThen ?_)
        refine Tr.seq ?_
        refine Tr.block ?_
        refine Tr.seq ?_
        refine Tr.region ?_
        refine Tr.val (wn rfl) rfl (fun _ _ h1 h2 => run_indexAddr el_75 (h1.ev rfl) hgy116_0 (h1.ev rfl) (Int.natCast_nonneg _) (range_lt hdF_shape_Holes_L1)) ?_
        refine Tr.valE (U := (fl_LTBand).Ad) (fun u => (fl_LTBand).ok w.O w.W u xF_shape_Holes_L1) (fun u => (.slice u.1 (xF_shape_Holes_L1).length u.2)) (wn rfl) rfl (ldN (κ := 10) (t := fl_LTBand) (V := fun u => (.slice u.1 (xF_shape_Holes_L1).length u.2)) rfl (range_at hdF_shape_Holes_L1) (fun _ _ u h1 hc => run_load1 ag_65 (h1.ev rfl) hc rfl)) ?_
        intro u145 hoku145
        obtain ⟨Au145_0, cu145_0⟩ := u145
        have hoku145_0 := hoku145
        replace hoku145_0 : Sl w.O w.W fl_TBand Au145_0 cu145_0 xF_shape_Holes_L1 := hoku145_0
        show Tr _ _ (uf _ 37 (.slice Au145_0 (xF_shape_Holes_L1).length cu145_0)) _ _
        refine Tr.val (wn rfl) rfl (fun _ _ h1 h2 => run_assign (h1.ev rfl)) ?_
        refine Tr.nil (Tr.normThen ?_)
        refine Tr.seq ?_
        refine Tr.region ?_
        refine Tr.val (wn rfl) rfl (fun _ _ h1 h2 => run_move (h1.ev rfl)) ?_
        obtain ⟨y146, hy146, H⟩ := bnd H
        refine Tr.call0 (r := (.agg #[(.int .i64 y146.X), (.int .i64 y146.Y)])) (wn rfl) rfl Try.call54 (evl_cons rfl evl_nil) (fun W hW => F_shape_Set__First_ok xF_shape_Holes_L1 Au145_0 cu145_0 (hoku145_0.rl.ext hW.extAll) y146 hy146 (HF.start _)) ?_
        refine Tr.val (wn rfl) rfl (fun _ _ h1 h2 => run_move (h1.ev rfl)) ?_
        obtain ⟨y147, hy147, H⟩ := bnd H
        refine Tr.call0 (r := (.agg #[(.int .i64 y147.X), (.int .i64 y147.Y)])) (wn rfl) rfl Try.call54 (evl_cons rfl evl_nil) (fun W hW => F_shape_Set__First_ok y108 Ay108_0 cy108_0 (hz110.rl.ext hW.extAll) y147 hy147 (HF.start _)) ?_
        refine Tr.val (wn rfl) rfl (fun _ _ h1 h2 => run_neq_32 y146 y147 (h1.ev rfl) (h1.ev rfl)) ?_
        refine Tr.nil (Tr.normThen ?_)
        refine Tr.cond rfl H (fun H => ?_) (fun H => ?_)
        · refine Tr.region ?_
          refine Tr.val (wn rfl) rfl (fun _ _ h1 h2 => run_move (h1.ev rfl)) ?_
          refine Tr.val (wn rfl) rfl (fun _ _ h1 h2 => run_move (h1.ev rfl)) ?_
          obtain ⟨y148, hy148, H⟩ := bnd H
          refine Tr.callM [15] [emp] (U := (Option Addr × Nat)) (fun u => (.slice u.1 (y148).length u.2)) (fun u => SlF u.1 (y148).length u.2) (fun u => [ow u.1 u.2 29 fl_TRect y148]) rfl (pk_cons rfl pk_nil) (fun _ => rfl) (wn rfl) rfl Try.call41 (evl_cons rfl evl_nil) (fun W hW hp hE => F_shape_Set__Rects_ok N xF_shape_Holes_L1 Au145_0 cu145_0 (hoku145_0.rl.ext (hW.extS hp)) y148 hy148 hE) ?_
          intro u hu
          obtain ⟨Ay148_0, cy148_0⟩ := u
          have gy148_0 := hu
          have hgy148_0 : SlF Ay148_0 (y148).length cy148_0 := gy148_0 --@phi
          show Tr _ _ (uf _ 45 (.slice Ay148_0 (y148).length cy148_0)) (up _ 15 (ow Ay148_0 cy148_0 29 fl_TRect y148)) _
          refine Tr.freeze 15 rfl fun w le151 hz150 => ?_
          replace hz110 := hz110.le le151
          replace hoku145_0 := hoku145_0.le le151
          replace leB := leB.trans le151
          replace leF_shape_Holes_L1 := leF_shape_Holes_L1.trans le151
          refine Tr.buildSlice 16 (e := 22) (vs := [(0, (.slice Ay148_0 (y148).length cy148_0))]) (cs := [(.slice Ay148_0 (y148).length cy148_0)]) (wn rfl) rfl (evs_cons rfl evs_nil) (by kernel_rfl) fun b152 => ?_
          obtain ⟨l153, hl153, H⟩ := bnd H
          refine Tr.append 8 (t := fl_LTRect) (l := l144) (l2 := [y148]) (wn rfl) rfl rfl rfl rfl (fun W hW => ⟨[[(.slice Ay148_0 (y148).length cy148_0)]], (.cons ⟨(Ay148_0, cy148_0), hz150, rfl⟩ .nil), rdb hW (vs := [(.slice Ay148_0 (y148).length cy148_0)]) (k := 16) rfl 0⟩) un_40 sz_22 zl_22 (by decide) by_22 rfl hl153 fun Al153 cl153 hAl153 => ?_
          refine Tr.val (wn rfl) rfl (fun _ _ h1 h2 => run_assign (h1.ev rfl)) ?_
          refine Tr.nil (Tr.normBlock (Tr.normThen ?_))
          refine Tr.region ?_
          refine Tr.val (wn rfl) rfl (fun _ _ h1 h2 => run_add (h1.ev rfl) (h1.ev rfl)) ?_
          refine Tr.val (wn rfl) rfl (fun _ _ h1 h2 => run_move (h1.ev rfl)) ?_
          refine Tr.nil ?_
          exact Tr.backThen leF_shape_Holes_L1 (restF_shape_Holes_L1, (iF_shape_Holes_L1 + 1), l153, Al153, cl153) ⟨rfl, range_tl hdF_shape_Holes_L1, range_lt hdF_shape_Holes_L1, H, hAl153⟩ (.cons rfl (.cons rfl (.cons rfl (.cons rfl (.cons (congrArg (fun z => some (Value.int .i64 z)) (range_up hdF_shape_Holes_L1 hgy116_0)) .nil))))) (.cons rfl (.cons rfl .nil))
        · refine Tr.skip (Tr.normBlock (Tr.normThen ?_))
          refine Tr.region ?_
          refine Tr.val (wn rfl) rfl (fun _ _ h1 h2 => run_add (h1.ev rfl) (h1.ev rfl)) ?_
          refine Tr.val (wn rfl) rfl (fun _ _ h1 h2 => run_move (h1.ev rfl)) ?_
          refine Tr.nil ?_
          exact Tr.backThen leF_shape_Holes_L1 (restF_shape_Holes_L1, (iF_shape_Holes_L1 + 1), l144, Al144, cl144) ⟨rfl, range_tl hdF_shape_Holes_L1, range_lt hdF_shape_Holes_L1, H, hl144⟩ (.cons rfl (.cons rfl (.cons rfl (.cons rfl (.cons (congrArg (fun z => some (Value.int .i64 z)) (range_up hdF_shape_Holes_L1 hgy116_0)) .nil))))) (.cons rfl (.cons rfl .nil))

theorem F_shape_AreaOf_ok {w : Bs} (p0 : (List TRect)) (Ap0_0 : Option Addr) (cp0_0 : Nat) (hp0_0 : Sl w.R w.W fl_TRect Ap0_0 cp0_0 p0) (r : Int) (H : F_shape_AreaOf p0 = some r) (hE : HF w w.W E0) : Calls Try.prog 67 [(.slice Ap0_0 (p0).length cp0_0)].toArray w.W fun e W' => e = .returned (.int .i64 r) ∧ HF w W' E0 := by
  unfold F_shape_AreaOf at H
  have leB := Bs.Le.refl w
  refine Tr.enter (n := 27) Try.func67 rfl rfl rfl hE ?_
  refine Tr.seq ?_
  refine Tr.region ?_
  refine Tr.val (wn rfl) rfl (fun _ _ h1 h2 => run_assign (h1.ev rfl)) ?_
  refine Tr.nil (Tr.normThen ?_)
  refine Tr.seq ?_
  refine Tr.region ?_
  refine Tr.val (wn rfl) rfl (fun _ _ h1 h2 => run_assign (h1.ev rfl)) ?_
  refine Tr.nil (Tr.normThen ?_)
  refine Tr.seq ?_
  refine Tr.seq ?_
  refine Tr.region ?_
  refine Tr.val (wn rfl) rfl (fun _ _ h1 h2 => run_move (h1.ev rfl)) ?_
  refine Tr.val (wn rfl) rfl (fun _ _ h1 h2 => run_len un_22 (h1.ev rfl)) ?_
  refine Tr.val (wn rfl) rfl (fun _ _ h1 h2 => run_move (h1.ev rfl)) ?_
  refine Tr.nil (Tr.normThen ?_)
  refine Tr.block ?_
  refine Tr.loop (σ := (List TRect) × Nat × Int) (fun m w s => m = s.1.length + 1 ∧ s.1 = List.drop s.2.1 p0 ∧ s.2.1 ≤ p0.length ∧ F_shape_AreaOf_L1 s.1 s.2.1 s.2.2 = some r) (fun s => [(3, (.int .i64 s.2.2)), (6, (.slice Ap0_0 (p0).length cp0_0)), (7, (.int .i64 (p0.length : Int))), (8, (.int .i64 (s.2.1 : Int)))]) (fun s => []) (p0.length + 1) (p0, 0, 0) ⟨rfl, rfl, Nat.zero_le _, H⟩ (.cons rfl (.cons rfl (.cons rfl (.cons rfl .nil)))) .nil (fun _ _ h => absurd h.1 (by simp)) ?_
  intro w leF_shape_AreaOf_L1 m s hs
  obtain ⟨restF_shape_AreaOf_L1, iF_shape_AreaOf_L1, x110⟩ := s
  obtain ⟨hmF_shape_AreaOf_L1, hdF_shape_AreaOf_L1, hiF_shape_AreaOf_L1, H⟩ := hs
  replace hdF_shape_AreaOf_L1 : restF_shape_AreaOf_L1 = List.drop iF_shape_AreaOf_L1 p0 := hdF_shape_AreaOf_L1
  replace H : F_shape_AreaOf_L1 restF_shape_AreaOf_L1 iF_shape_AreaOf_L1 x110 = some r := H
  replace hmF_shape_AreaOf_L1 : m + 1 = restF_shape_AreaOf_L1.length + 1 := hmF_shape_AreaOf_L1
  replace hp0_0 := hp0_0.leR leF_shape_AreaOf_L1
  replace leB := leB.trans leF_shape_AreaOf_L1
  obtain rfl : m = restF_shape_AreaOf_L1.length := by omega
  clear hmF_shape_AreaOf_L1
  show Tr _ _ (LF [(3, (.int .i64 x110)), (6, (.slice Ap0_0 (p0).length cp0_0)), (7, (.int .i64 (p0.length : Int))), (8, (.int .i64 (iF_shape_AreaOf_L1 : Int)))]) (LE []) _
  cases restF_shape_AreaOf_L1 with
  | nil =>
    rw [F_shape_AreaOf_L1.eq_1] at H
    refine Tr.seq ?_
    refine Tr.region ?_
    refine Tr.val (wn rfl) rfl (fun _ _ h1 h2 => run_lss (h1.ev rfl) (h1.ev rfl)) ?_
    refine Tr.nil (Tr.normThen ?_)
    refine Tr.seq ?_
    refine Tr.condF rfl (range_nil hdF_shape_AreaOf_L1) ?_
    refine Tr.exit (Tr.exitThen (Tr.exitThen (Tr.exitBlock (Tr.normThen ?_))))
    refine Tr.seq ?_
    refine Tr.region ?_
    refine Tr.val (wn rfl) rfl (fun _ _ h1 h2 => run_move (h1.ev rfl)) ?_
    refine Tr.val (wn rfl) rfl (fun _ _ h1 h2 => run_assign (h1.ev rfl)) ?_
    refine Tr.nil (Tr.normThen ?_)
    refine Tr.ret ?_
    obtain rfl := Option.some.inj H
    exact Tr.out (m := [(.int .i64 x110)]) [] (res_tmp rfl res_nil) (fun W hW => ⟨rfl, hW.low leB⟩)
  | cons xF_shape_AreaOf_L1 restF_shape_AreaOf_L1 =>
    rw [F_shape_AreaOf_L1.eq_2] at H
    refine Tr.seq ?_
    refine Tr.region ?_
    refine Tr.val (wn rfl) rfl (fun _ _ h1 h2 => run_lss (h1.ev rfl) (h1.ev rfl)) ?_
    refine Tr.nil (Tr.normThen ?_)
    refine Tr.seq ?_
    refine Tr.condT rfl (range_on hdF_shape_AreaOf_L1) ?_
    refine Tr.skip (Tr.normThen ?_)
    refine Tr.seq ?_
    refine Tr.block ?_
    refine Tr.seq ?_
    refine Tr.region ?_
    refine Tr.val (wn rfl) rfl (fun _ _ h1 h2 => run_indexAddr el_22 (h1.ev rfl) hp0_0.form (h1.ev rfl) (Int.natCast_nonneg _) (range_lt hdF_shape_AreaOf_L1)) ?_
    refine Tr.val (wn rfl) rfl (fun _ _ h1 h2 => run_loadN (cs := [(.int .i64 xF_shape_AreaOf_L1.X0), (.int .i64 xF_shape_AreaOf_L1.Y0), (.int .i64 xF_shape_AreaOf_L1.X1), (.int .i64 xF_shape_AreaOf_L1.Y1)]) ag_29 sz_29 (h1.ev rfl) (CellsAt.take (rdF ef_TRect hp0_0 (range_at hdF_shape_AreaOf_L1) h2) 4) rfl) ?_
    refine Tr.alloc 3 (wn rfl) rfl ze_29 fun b111 => ?_
    refine Tr.store 3 (cs := [(.int .i64 xF_shape_AreaOf_L1.X0), (.int .i64 xF_shape_AreaOf_L1.Y0), (.int .i64 xF_shape_AreaOf_L1.X1), (.int .i64 xF_shape_AreaOf_L1.Y1)]) [(.int .i64 xF_shape_AreaOf_L1.X0), (.int .i64 xF_shape_AreaOf_L1.Y0), (.int .i64 xF_shape_AreaOf_L1.X1), (.int .i64 xF_shape_AreaOf_L1.Y1)] (wn rfl) rfl rfl rfl rfl sz_29 rfl rfl rfl ?_
    refine Tr.nil (Tr.normThen ?_)
    refine Tr.region ?_
    refine Tr.val (wn rfl) rfl (fun _ _ h1 h2 => run_move (h1.ev rfl)) ?_
    refine Tr.val (wn rfl) rfl (fun _ _ h1 h2 => run_fieldAddr fo_29_2 (h1.ev rfl)) ?_
    refine Tr.val (wn rfl) rfl (fun _ _ h1 h2 => run_load1 ag_3 (h1.ev rfl) (rdb h2 (vs := [(.int .i64 xF_shape_AreaOf_L1.X0), (.int .i64 xF_shape_AreaOf_L1.Y0), (.int .i64 xF_shape_AreaOf_L1.X1), (.int .i64 xF_shape_AreaOf_L1.Y1)]) (k := 3) rfl 2) rfl) ?_
    refine Tr.val (wn rfl) rfl (fun _ _ h1 h2 => run_fieldAddr fo_29_0 (h1.ev rfl)) ?_
    refine Tr.val (wn rfl) rfl (fun _ _ h1 h2 => run_load1 ag_3 (h1.ev rfl) (rdb h2 (vs := [(.int .i64 xF_shape_AreaOf_L1.X0), (.int .i64 xF_shape_AreaOf_L1.Y0), (.int .i64 xF_shape_AreaOf_L1.X1), (.int .i64 xF_shape_AreaOf_L1.Y1)]) (k := 3) rfl 0) rfl) ?_
    refine Tr.val (wn rfl) rfl (fun _ _ h1 h2 => run_sub (h1.ev rfl) (h1.ev rfl)) ?_
    refine Tr.val (wn rfl) rfl (fun _ _ h1 h2 => run_fieldAddr fo_29_3 (h1.ev rfl)) ?_
    refine Tr.val (wn rfl) rfl (fun _ _ h1 h2 => run_load1 ag_3 (h1.ev rfl) (rdb h2 (vs := [(.int .i64 xF_shape_AreaOf_L1.X0), (.int .i64 xF_shape_AreaOf_L1.Y0), (.int .i64 xF_shape_AreaOf_L1.X1), (.int .i64 xF_shape_AreaOf_L1.Y1)]) (k := 3) rfl 3) rfl) ?_
    refine Tr.val (wn rfl) rfl (fun _ _ h1 h2 => run_fieldAddr fo_29_1 (h1.ev rfl)) ?_
    refine Tr.val (wn rfl) rfl (fun _ _ h1 h2 => run_load1 ag_3 (h1.ev rfl) (rdb h2 (vs := [(.int .i64 xF_shape_AreaOf_L1.X0), (.int .i64 xF_shape_AreaOf_L1.Y0), (.int .i64 xF_shape_AreaOf_L1.X1), (.int .i64 xF_shape_AreaOf_L1.Y1)]) (k := 3) rfl 1) rfl) ?_
    refine Tr.val (wn rfl) rfl (fun _ _ h1 h2 => run_sub (h1.ev rfl) (h1.ev rfl)) ?_
    refine Tr.val (wn rfl) rfl (fun _ _ h1 h2 => run_mul (h1.ev rfl) (h1.ev rfl)) ?_
    refine Tr.val (wn rfl) rfl (fun _ _ h1 h2 => run_add (h1.ev rfl) (h1.ev rfl)) ?_
    refine Tr.val (wn rfl) rfl (fun _ _ h1 h2 => run_assign (h1.ev rfl)) ?_
    refine Tr.nil (Tr.normBlock (Tr.normThen ?_))
    refine Tr.region ?_
    refine Tr.val (wn rfl) rfl (fun _ _ h1 h2 => run_add (h1.ev rfl) (h1.ev rfl)) ?_
    refine Tr.val (wn rfl) rfl (fun _ _ h1 h2 => run_move (h1.ev rfl)) ?_
    refine Tr.nil ?_
    exact Tr.backThen leF_shape_AreaOf_L1 (restF_shape_AreaOf_L1, (iF_shape_AreaOf_L1 + 1), (w64 (x110 + (w64 ((w64 (xF_shape_AreaOf_L1.X1 - xF_shape_AreaOf_L1.X0)) * (w64 (xF_shape_AreaOf_L1.Y1 - xF_shape_AreaOf_L1.Y0))))))) ⟨rfl, range_tl hdF_shape_AreaOf_L1, range_lt hdF_shape_AreaOf_L1, H⟩ (.cons rfl (.cons rfl (.cons rfl (.cons (congrArg (fun z => some (Value.int .i64 z)) (range_up hdF_shape_AreaOf_L1 hp0_0.form)) .nil)))) .nil

theorem F_shape_Area_ok (N : Nat) {w : Bs} (p0 : (List TRect)) (Ap0_0 : Option Addr) (cp0_0 : Nat) (hp0_0 : Sl w.R w.W fl_TRect Ap0_0 cp0_0 p0) (r : (Int × Int)) (H : F_shape_Area N p0 = some r) (hE : HF w w.W E0) : Calls Try.prog 36 [(.slice Ap0_0 (p0).length cp0_0)].toArray w.W fun e W' => e = .returned (.tuple #[(.int .i64 r.1), (.int .i64 r.2)]) ∧ HF w W' E0 := by
  unfold F_shape_Area at H
  have leB := Bs.Le.refl w
  refine Tr.enter (n := 12) Try.func36 rfl rfl rfl hE ?_
  refine Tr.seq ?_
  refine Tr.region ?_
  refine Tr.val (wn rfl) rfl (fun _ _ h1 h2 => run_assign (h1.ev rfl)) ?_
  refine Tr.val (wn rfl) rfl (fun _ _ h1 h2 => run_assign (h1.ev rfl)) ?_
  refine Tr.nil (Tr.normThen ?_)
  refine Tr.seq ?_
  refine Tr.seq ?_
  refine Tr.region ?_
  refine Tr.val (wn rfl) rfl (fun _ _ h1 h2 => run_move (h1.ev rfl)) ?_
  obtain ⟨y100, hy100, H⟩ := bnd H
  refine Tr.call0 (r := (.int .i64 y100)) (wn rfl) rfl Try.call18 (evl_cons rfl evl_nil) (fun W hW => F_shape_CheckRegion_ok N p0 Ap0_0 cp0_0 (hp0_0.ext hW.extAll) y100 hy100 (HF.start _)) ?_
  refine Tr.val (wn rfl) rfl (fun _ _ h1 h2 => run_assign (h1.ev rfl)) ?_
  refine Tr.nil (Tr.normThen ?_)
  refine Tr.seq ?_
  refine Tr.region ?_
  refine Tr.val (wn rfl) rfl (fun _ _ h1 h2 => run_move (h1.ev rfl)) ?_
  refine Tr.val (wn rfl) rfl (fun _ _ h1 h2 => run_neq (h1.ev rfl) (h1.ev rfl)) ?_
  refine Tr.nil (Tr.normThen ?_)
  refine Tr.cond rfl H (fun H => ?_) (fun H => ?_)
  · refine Tr.seq ?_
    refine Tr.region ?_
    refine Tr.val (wn rfl) rfl (fun _ _ h1 h2 => run_move (h1.ev rfl)) ?_
    refine Tr.val (wn rfl) rfl (fun _ _ h1 h2 => run_assign (h1.ev rfl)) ?_
    refine Tr.val (wn rfl) rfl (fun _ _ h1 h2 => run_assign (h1.ev rfl)) ?_
    refine Tr.nil (Tr.normThen ?_)
    refine Tr.ret (Tr.retThen ?_)
    obtain rfl := Option.some.inj H
    exact Tr.out (m := [(.int .i64 0), (.int .i64 y100)]) [] (res_tmp rfl (res_tmp rfl res_nil)) (fun W hW => ⟨rfl, hW.low leB⟩)
  · refine Tr.skip (Tr.normThen ?_)
    refine Tr.seq ?_
    refine Tr.region ?_
    refine Tr.val (wn rfl) rfl (fun _ _ h1 h2 => run_move (h1.ev rfl)) ?_
    obtain ⟨y101, hy101, H⟩ := bnd H
    refine Tr.call0 (r := (.int .i64 y101)) (wn rfl) rfl Try.call67 (evl_cons rfl evl_nil) (fun W hW => F_shape_AreaOf_ok p0 Ap0_0 cp0_0 (hp0_0.ext hW.extAll) y101 hy101 (HF.start _)) ?_
    refine Tr.val (wn rfl) rfl (fun _ _ h1 h2 => run_assign (h1.ev rfl)) ?_
    refine Tr.val (wn rfl) rfl (fun _ _ h1 h2 => run_assign (h1.ev rfl)) ?_
    refine Tr.nil (Tr.normThen ?_)
    refine Tr.ret ?_
    obtain rfl := Option.some.inj H
    exact Tr.out (m := [(.int .i64 y101), (.int .i64 0)]) [] (res_tmp rfl (res_tmp rfl res_nil)) (fun W hW => ⟨rfl, hW.low leB⟩)

theorem F_etchhouselaw1_awake_ok (N : Nat) {w : Bs}  (r : Bool) (H : F_etchhouselaw1_awake N = some r) (hE : HF w w.W E0) : Calls Try.prog 12 [].toArray w.W fun e W' => e = .returned (.bool r) ∧ HF w W' E0 := by
  unfold F_etchhouselaw1_awake at H
  have leB := Bs.Le.refl w
  refine Tr.enter (n := 15) Try.func12 rfl rfl rfl hE ?_
  refine Tr.seq ?_
  refine Tr.region ?_
  refine Tr.val (wn rfl) rfl (fun _ _ h1 h2 => run_assign (h1.ev rfl)) ?_
  refine Tr.nil (Tr.normThen ?_)
  refine Tr.seq ?_
  refine Tr.region ?_
  refine Tr.build (vs := [(2, (.int .i64 2)), (3, (.int .i64 3))]) (cs := [(.int .i64 0), (.int .i64 0), (.int .i64 2), (.int .i64 3)]) (wn rfl) rfl (evs_cons rfl (evs_cons rfl evs_nil)) (by kernel_rfl) ?_
  refine Tr.buildSlice 1 (e := 29) (vs := [(0, (.agg #[(.int .i64 0), (.int .i64 0), (.int .i64 2), (.int .i64 3)]))]) (cs := [(.int .i64 0), (.int .i64 0), (.int .i64 2), (.int .i64 3)]) (wn rfl) rfl (evs_cons rfl evs_nil) (by kernel_rfl) fun b100 => ?_
  refine Tr.own 1 fl_TRect [(TRect.mk 0 0 2 3)] (css := [[(.int .i64 0), (.int .i64 0), (.int .i64 2), (.int .i64 3)]]) rfl (.cons ⟨(), trivial, rfl⟩ .nil) rfl (by decide) (lit_max rfl) ?_
  obtain ⟨y101, hy101, H⟩ := bnd H
  refine Tr.call0 (r := (.tuple #[(.int .i64 y101.1), (.int .i64 y101.2)])) (wn rfl) rfl Try.call36 (evl_cons rfl evl_nil) (fun W hW => F_shape_Area_ok N [(TRect.mk 0 0 2 3)] (some ⟨b100, 0, none⟩) 1 (hW.slCall (k := 1) rfl) y101 hy101 (HF.start _)) ?_
  refine Tr.val (wn rfl) rfl (fun _ _ h1 h2 => run_move (h1.ev rfl)) ?_
  refine Tr.val (wn rfl) rfl (fun _ _ h1 h2 => run_extract (h1.ev rfl) rfl) ?_
  refine Tr.val (wn rfl) rfl (fun _ _ h1 h2 => run_extract (h1.ev rfl) rfl) ?_
  refine Tr.val (wn rfl) rfl (fun _ _ h1 h2 => run_assign (h1.ev rfl)) ?_
  refine Tr.val (wn rfl) rfl (fun _ _ h1 h2 => run_assign (h1.ev rfl)) ?_
  refine Tr.nil (Tr.normThen ?_)
  refine Tr.seq ?_
  refine Tr.region ?_
  refine Tr.val (wn rfl) rfl (fun _ _ h1 h2 => run_move (h1.ev rfl)) ?_
  refine Tr.val (wn rfl) rfl (fun _ _ h1 h2 => run_eql (h1.ev rfl) (h1.ev rfl)) ?_
  refine Tr.val (wn rfl) rfl (fun _ _ h1 h2 => run_move (h1.ev rfl)) ?_
  refine Tr.mid0 3 [(14, (.bool ((y101.2 == 0) && (y101.1 == 6))))] [(1, ow (some ⟨b100, 0, none⟩) 1 29 fl_TRect [(TRect.mk 0 0 2 3)])] ?_ ?_
  · cases hg101 : (y101.2 == 0)
    · refine Tr.pass rfl rfl rfl rfl rfl (by decide) ?_
      refine Tr.pass rfl rfl rfl rfl rfl (by decide) ?_
      refine Tr.val (wn rfl) rfl (fun _ _ h1 h2 => run_pickF (h1.ev rfl) (h1.ev rfl)) ?_
      exact Tr.nil (Tr.fin0 (.cons rfl .nil) (.cons rfl .nil))
    · refine Tr.val (wg rfl rfl rfl) rfl (fun _ _ h1 h2 => run_move (h1.ev rfl)) ?_
      refine Tr.val (wg rfl rfl rfl) rfl (fun _ _ h1 h2 => run_eql (h1.ev rfl) (h1.ev rfl)) ?_
      refine Tr.val (wn rfl) rfl (fun _ _ h1 h2 => run_pickT (h1.ev rfl) (h1.ev rfl)) ?_
      exact Tr.nil (Tr.fin0 (.cons rfl .nil) (.cons rfl .nil))
  · show Tr _ _ (LF [(14, (.bool ((y101.2 == 0) && (y101.1 == 6))))]) (LE [(1, ow (some ⟨b100, 0, none⟩) 1 29 fl_TRect [(TRect.mk 0 0 2 3)])]) _
    refine Tr.val (wn rfl) rfl (fun _ _ h1 h2 => run_assign (h1.ev rfl)) ?_
    refine Tr.nil (Tr.normThen ?_)
    refine Tr.ret ?_
    obtain rfl := Option.some.inj H
    exact Tr.out (m := [(.bool ((y101.2 == 0) && (y101.1 == 6)))]) [] (res_tmp rfl res_nil) (fun W hW => ⟨rfl, hW.low leB⟩)

theorem F_etchhouselaw1_area_ok (N : Nat) {w : Bs} (p0 : (List TRect)) (Ap0_0 : Option Addr) (cp0_0 : Nat) (hp0_0 : Sl w.R w.W fl_TRect Ap0_0 cp0_0 p0) (r : Int) (H : F_etchhouselaw1_area N p0 = some r) (hE : HF w w.W E0) : Calls Try.prog 23 [(.slice Ap0_0 (p0).length cp0_0)].toArray w.W fun e W' => e = .returned (.int .i64 r) ∧ HF w W' E0 := by
  unfold F_etchhouselaw1_area at H
  have leB := Bs.Le.refl w
  refine Tr.enter (n := 13) Try.func23 rfl rfl rfl hE ?_
  refine Tr.seq ?_
  refine Tr.region ?_
  refine Tr.val (wn rfl) rfl (fun _ _ h1 h2 => run_assign (h1.ev rfl)) ?_
  refine Tr.nil (Tr.normThen ?_)
  refine Tr.seq ?_
  refine Tr.region ?_
  refine Tr.val (wn rfl) rfl (fun _ _ h1 h2 => run_move (h1.ev rfl)) ?_
  obtain ⟨y100, hy100, H⟩ := bnd H
  refine Tr.call0 (r := (.tuple #[(.int .i64 y100.1), (.int .i64 y100.2)])) (wn rfl) rfl Try.call36 (evl_cons rfl evl_nil) (fun W hW => F_shape_Area_ok N p0 Ap0_0 cp0_0 (hp0_0.ext hW.extAll) y100 hy100 (HF.start _)) ?_
  refine Tr.val (wn rfl) rfl (fun _ _ h1 h2 => run_move (h1.ev rfl)) ?_
  refine Tr.val (wn rfl) rfl (fun _ _ h1 h2 => run_extract (h1.ev rfl) rfl) ?_
  refine Tr.val (wn rfl) rfl (fun _ _ h1 h2 => run_extract (h1.ev rfl) rfl) ?_
  refine Tr.val (wn rfl) rfl (fun _ _ h1 h2 => run_assign (h1.ev rfl)) ?_
  refine Tr.val (wn rfl) rfl (fun _ _ h1 h2 => run_assign (h1.ev rfl)) ?_
  refine Tr.nil (Tr.normThen ?_)
  refine Tr.seq ?_
  refine Tr.seq ?_
  refine Tr.region ?_
  refine Tr.val (wn rfl) rfl (fun _ _ h1 h2 => run_move (h1.ev rfl)) ?_
  refine Tr.val (wn rfl) rfl (fun _ _ h1 h2 => run_neq (h1.ev rfl) (h1.ev rfl)) ?_
  refine Tr.nil (Tr.normThen ?_)
  refine Tr.cond rfl H (fun H => ?_) (fun H => ?_)
  · refine Tr.seq ?_
    refine Tr.region ?_
    refine Tr.val (wn rfl) rfl (fun _ _ h1 h2 => run_assign (h1.ev rfl)) ?_
    refine Tr.nil (Tr.normThen ?_)
    refine Tr.ret (Tr.retThen ?_)
    obtain rfl := Option.some.inj H
    exact Tr.out (m := [(.int .i64 (-1))]) [] (res_tmp rfl res_nil) (fun W hW => ⟨rfl, hW.low leB⟩)
  · refine Tr.skip (Tr.normThen ?_)
    refine Tr.seq ?_
    refine Tr.region ?_
    refine Tr.val (wn rfl) rfl (fun _ _ h1 h2 => run_move (h1.ev rfl)) ?_
    refine Tr.val (wn rfl) rfl (fun _ _ h1 h2 => run_assign (h1.ev rfl)) ?_
    refine Tr.nil (Tr.normThen ?_)
    refine Tr.ret ?_
    obtain rfl := Option.some.inj H
    exact Tr.out (m := [(.int .i64 y100.1)]) [] (res_tmp rfl res_nil) (fun W hW => ⟨rfl, hW.low leB⟩)

theorem F_shape_Set__Many_ok {w : Bs} (p0 : (List TBand)) (Ap0_0 : Option Addr) (cp0_0 : Nat) (hp0_0 : Sl w.R w.W fl_TBand Ap0_0 cp0_0 p0) (r : Int) (H : F_shape_Set__Many p0 = some r) (hE : HF w w.W E0) : Calls Try.prog 66 [(.slice Ap0_0 (p0).length cp0_0)].toArray w.W fun e W' => e = .returned (.int .i64 r) ∧ HF w W' E0 := by
  unfold F_shape_Set__Many at H
  have leB := Bs.Le.refl w
  refine Tr.enter (n := 20) Try.func66 rfl rfl rfl hE ?_
  refine Tr.seq ?_
  refine Tr.region ?_
  refine Tr.val (wn rfl) rfl (fun _ _ h1 h2 => run_assign (h1.ev rfl)) ?_
  refine Tr.nil (Tr.normThen ?_)
  refine Tr.seq ?_
  refine Tr.region ?_
  refine Tr.val (wn rfl) rfl (fun _ _ h1 h2 => run_assign (h1.ev rfl)) ?_
  refine Tr.nil (Tr.normThen ?_)
  refine Tr.seq ?_
  refine Tr.seq ?_
  refine Tr.region ?_
  refine Tr.val (wn rfl) rfl (fun _ _ h1 h2 => run_move (h1.ev rfl)) ?_
  refine Tr.val (wn rfl) rfl (fun _ _ h1 h2 => run_len un_65 (h1.ev rfl)) ?_
  refine Tr.val (wn rfl) rfl (fun _ _ h1 h2 => run_move (h1.ev rfl)) ?_
  refine Tr.nil (Tr.normThen ?_)
  refine Tr.block ?_
  refine Tr.loop (σ := (List TBand) × Nat × Int) (fun m w s => m = s.1.length + 1 ∧ s.1 = List.drop s.2.1 p0 ∧ s.2.1 ≤ p0.length ∧ F_shape_Set__Many_L1 s.1 s.2.1 s.2.2 = some r) (fun s => [(3, (.int .i64 s.2.2)), (6, (.slice Ap0_0 (p0).length cp0_0)), (7, (.int .i64 (p0.length : Int))), (8, (.int .i64 (s.2.1 : Int)))]) (fun s => []) (p0.length + 1) (p0, 0, 0) ⟨rfl, rfl, Nat.zero_le _, H⟩ (.cons rfl (.cons rfl (.cons rfl (.cons rfl .nil)))) .nil (fun _ _ h => absurd h.1 (by simp)) ?_
  intro w leF_shape_Set__Many_L1 m s hs
  obtain ⟨restF_shape_Set__Many_L1, iF_shape_Set__Many_L1, x112⟩ := s
  obtain ⟨hmF_shape_Set__Many_L1, hdF_shape_Set__Many_L1, hiF_shape_Set__Many_L1, H⟩ := hs
  replace hdF_shape_Set__Many_L1 : restF_shape_Set__Many_L1 = List.drop iF_shape_Set__Many_L1 p0 := hdF_shape_Set__Many_L1
  replace H : F_shape_Set__Many_L1 restF_shape_Set__Many_L1 iF_shape_Set__Many_L1 x112 = some r := H
  replace hmF_shape_Set__Many_L1 : m + 1 = restF_shape_Set__Many_L1.length + 1 := hmF_shape_Set__Many_L1
  replace hp0_0 := hp0_0.leR leF_shape_Set__Many_L1
  replace leB := leB.trans leF_shape_Set__Many_L1
  obtain rfl : m = restF_shape_Set__Many_L1.length := by omega
  clear hmF_shape_Set__Many_L1
  show Tr _ _ (LF [(3, (.int .i64 x112)), (6, (.slice Ap0_0 (p0).length cp0_0)), (7, (.int .i64 (p0.length : Int))), (8, (.int .i64 (iF_shape_Set__Many_L1 : Int)))]) (LE []) _
  cases restF_shape_Set__Many_L1 with
  | nil =>
    rw [F_shape_Set__Many_L1.eq_1] at H
    refine Tr.seq ?_
    refine Tr.region ?_
    refine Tr.val (wn rfl) rfl (fun _ _ h1 h2 => run_lss (h1.ev rfl) (h1.ev rfl)) ?_
    refine Tr.nil (Tr.normThen ?_)
    refine Tr.seq ?_
    refine Tr.condF rfl (range_nil hdF_shape_Set__Many_L1) ?_
    refine Tr.exit (Tr.exitThen (Tr.exitThen (Tr.exitBlock (Tr.normThen ?_))))
    refine Tr.seq ?_
    refine Tr.region ?_
    refine Tr.val (wn rfl) rfl (fun _ _ h1 h2 => run_move (h1.ev rfl)) ?_
    refine Tr.val (wn rfl) rfl (fun _ _ h1 h2 => run_assign (h1.ev rfl)) ?_
    refine Tr.nil (Tr.normThen ?_)
    refine Tr.ret ?_
    obtain rfl := Option.some.inj H
    exact Tr.out (m := [(.int .i64 x112)]) [] (res_tmp rfl res_nil) (fun W hW => ⟨rfl, hW.low leB⟩)
  | cons xF_shape_Set__Many_L1 restF_shape_Set__Many_L1 =>
    rw [F_shape_Set__Many_L1.eq_2] at H
    refine Tr.seq ?_
    refine Tr.region ?_
    refine Tr.val (wn rfl) rfl (fun _ _ h1 h2 => run_lss (h1.ev rfl) (h1.ev rfl)) ?_
    refine Tr.nil (Tr.normThen ?_)
    refine Tr.seq ?_
    refine Tr.condT rfl (range_on hdF_shape_Set__Many_L1) ?_
    refine Tr.skip (Tr.normThen ?_)
    refine Tr.seq ?_
    refine Tr.block ?_
    refine Tr.seq ?_
    refine Tr.region ?_
    obtain ⟨u113, hRu113, hoku113, hcu113⟩ := (hp0_0).el (range_at hdF_shape_Set__Many_L1)
    obtain ⟨Au113_0, cu113_0⟩ := u113
    have hoku113_0 := hoku113
    replace hoku113_0 : Sl w.R w.W fl_i64 Au113_0 cu113_0 xF_shape_Set__Many_L1.Xs := hoku113_0
    refine Tr.val (wn rfl) rfl (fun _ _ h1 h2 => run_indexAddr el_65 (h1.ev rfl) hp0_0.form (h1.ev rfl) (Int.natCast_nonneg _) (range_lt hdF_shape_Set__Many_L1)) ?_
    refine Tr.val (wn rfl) rfl (fun _ _ h1 h2 => run_loadN (cs := [(.int .i64 xF_shape_Set__Many_L1.Y0), (.int .i64 xF_shape_Set__Many_L1.Y1), (.slice Au113_0 (xF_shape_Set__Many_L1.Xs).length cu113_0)]) ag_104 sz_104 (h1.ev rfl) (CellsAt.take (rdR hRu113 hcu113 h2) 3) rfl) ?_
    refine Tr.alloc 3 (wn rfl) rfl ze_104 fun b114 => ?_
    refine Tr.store 3 (cs := [(.int .i64 xF_shape_Set__Many_L1.Y0), (.int .i64 xF_shape_Set__Many_L1.Y1), (.slice Au113_0 (xF_shape_Set__Many_L1.Xs).length cu113_0)]) [(.int .i64 xF_shape_Set__Many_L1.Y0), (.int .i64 xF_shape_Set__Many_L1.Y1), (.slice Au113_0 (xF_shape_Set__Many_L1.Xs).length cu113_0)] (wn rfl) rfl rfl rfl rfl sz_104 rfl rfl rfl ?_
    refine Tr.nil (Tr.normThen ?_)
    refine Tr.region ?_
    refine Tr.val (wn rfl) rfl (fun _ _ h1 h2 => run_move (h1.ev rfl)) ?_
    refine Tr.val (wn rfl) rfl (fun _ _ h1 h2 => run_fieldAddr fo_104_2 (h1.ev rfl)) ?_
    refine Tr.val (wn rfl) rfl (fun _ _ h1 h2 => run_load1 ag_97 (h1.ev rfl) (rdb h2 (vs := [(.int .i64 xF_shape_Set__Many_L1.Y0), (.int .i64 xF_shape_Set__Many_L1.Y1), (.slice Au113_0 (xF_shape_Set__Many_L1.Xs).length cu113_0)]) (k := 3) rfl 2) rfl) ?_
    refine Tr.val (wn rfl) rfl (fun _ _ h1 h2 => run_len un_97 (h1.ev rfl)) ?_
    refine Tr.val (wn rfl) rfl (fun _ _ h1 h2 => run_quo (h1.ev rfl) (h1.ev rfl) (by decide)) ?_
    refine Tr.val (wn rfl) rfl (fun _ _ h1 h2 => run_add (h1.ev rfl) (h1.ev rfl)) ?_
    refine Tr.val (wn rfl) rfl (fun _ _ h1 h2 => run_assign (h1.ev rfl)) ?_
    refine Tr.nil (Tr.normBlock (Tr.normThen ?_))
    refine Tr.region ?_
    refine Tr.val (wn rfl) rfl (fun _ _ h1 h2 => run_add (h1.ev rfl) (h1.ev rfl)) ?_
    refine Tr.val (wn rfl) rfl (fun _ _ h1 h2 => run_move (h1.ev rfl)) ?_
    refine Tr.nil ?_
    exact Tr.backThen leF_shape_Set__Many_L1 (restF_shape_Set__Many_L1, (iF_shape_Set__Many_L1 + 1), (w64 (x112 + (w64 (Int.tdiv (xF_shape_Set__Many_L1.Xs.length : Int) 2))))) ⟨rfl, range_tl hdF_shape_Set__Many_L1, range_lt hdF_shape_Set__Many_L1, H⟩ (.cons rfl (.cons rfl (.cons rfl (.cons (congrArg (fun z => some (Value.int .i64 z)) (range_up hdF_shape_Set__Many_L1 hp0_0.form)) .nil)))) .nil

theorem F_shape_Set__Told_ok (N : Nat) {w : Bs} (p0 : (List TBand)) (Ap0_0 : Option Addr) (cp0_0 : Nat) (hp0_0 : Sl w.R w.W fl_TBand Ap0_0 cp0_0 p0) (r : ((List TRect) × Int)) (H : F_shape_Set__Told N p0 = some r) (hE : HF w w.W (LEn [emp])) : Calls Try.prog 48 [(.slice Ap0_0 (p0).length cp0_0)].toArray w.W fun e W' => ∃ u : (Option Addr × Nat), e = .returned (.tuple #[(.slice u.1 (r.1).length u.2), (.int .i64 r.2)]) ∧ (SlF u.1 (r.1).length u.2) ∧ HF w W' (LEn [ow u.1 u.2 29 fl_TRect r.1]) := by
  unfold F_shape_Set__Told at H
  have leB := Bs.Le.refl w
  refine Tr.enter (n := 9) Try.func48 rfl rfl rfl hE ?_
  refine Tr.seq ?_
  refine Tr.region ?_
  refine Tr.val (wn rfl) rfl (fun _ _ h1 h2 => run_assign (h1.ev rfl)) ?_
  refine Tr.nilOwn 1 29 fl_TRect ?_
  show Tr _ _ (uf _ 2 (.slice none (([] : List TRect)).length 0)) _ _
  refine Tr.val (wn rfl) rfl (fun _ _ h1 h2 => run_assign (h1.ev rfl)) ?_
  refine Tr.nil (Tr.normThen ?_)
  refine Tr.seq ?_
  refine Tr.seq ?_
  refine Tr.region ?_
  refine Tr.val (wn rfl) rfl (fun _ _ h1 h2 => run_move (h1.ev rfl)) ?_
  obtain ⟨y100, hy100, H⟩ := bnd H
  refine Tr.call0 (r := (.int .i64 y100)) (wn rfl) rfl Try.call66 (evl_cons rfl evl_nil) (fun W hW => F_shape_Set__Many_ok p0 Ap0_0 cp0_0 (hp0_0.ext hW.extAll) y100 hy100 (HF.start _)) ?_
  refine Tr.val (wn rfl) rfl (fun _ _ h1 h2 => run_gtr (h1.ev rfl) (h1.ev rfl)) ?_
  refine Tr.nil (Tr.normThen ?_)
  refine Tr.cond rfl H (fun H => ?_) (fun H => ?_)
  · refine Tr.seq ?_
    refine Tr.region ?_
    refine Tr.val (wn rfl) rfl (fun _ _ h1 h2 => run_assign (h1.ev rfl)) ?_
    refine Tr.nilOwn 2 29 fl_TRect ?_
    show Tr _ _ (uf _ 2 (.slice none (([] : List TRect)).length 0)) _ _
    refine Tr.val (wn rfl) rfl (fun _ _ h1 h2 => run_assign (h1.ev rfl)) ?_
    refine Tr.nil (Tr.normThen ?_)
    refine Tr.ret (Tr.retThen ?_)
    obtain rfl := Option.some.inj H
    exact Tr.out (m := [(.slice none (([] : List TRect)).length 0), (.int .i64 2)]) [] (res_tmp rfl (res_tmp rfl res_nil)) (fun W hW => ⟨(none, 0), rfl, slf_nil, HF.lowE leB (hW.pick (ks := [2]) (by decide) (pk_cons rfl pk_nil)) ⟨ow_any _ _ _ _ tr_TRect, trivial⟩⟩)
  · refine Tr.skip (Tr.normThen ?_)
    refine Tr.seq ?_
    refine Tr.region ?_
    refine Tr.val (wn rfl) rfl (fun _ _ h1 h2 => run_move (h1.ev rfl)) ?_
    obtain ⟨y101, hy101, H⟩ := bnd H
    refine Tr.callM [3] [emp] (U := (Option Addr × Nat)) (fun u => (.slice u.1 (y101).length u.2)) (fun u => SlF u.1 (y101).length u.2) (fun u => [ow u.1 u.2 29 fl_TRect y101]) rfl (pk_cons rfl pk_nil) (fun _ => rfl) (wn rfl) rfl Try.call41 (evl_cons rfl evl_nil) (fun W hW hp hE => F_shape_Set__Rects_ok N p0 Ap0_0 cp0_0 (hp0_0.ext (hW.extS hp)) y101 hy101 hE) ?_
    intro u hu
    obtain ⟨Ay101_0, cy101_0⟩ := u
    have gy101_0 := hu
    have hgy101_0 : SlF Ay101_0 (y101).length cy101_0 := gy101_0 --@phi
    show Tr _ _ (uf _ 8 (.slice Ay101_0 (y101).length cy101_0)) (up _ 3 (ow Ay101_0 cy101_0 29 fl_TRect y101)) _
    refine Tr.val (wn rfl) rfl (fun _ _ h1 h2 => run_assign (h1.ev rfl)) ?_
    refine Tr.val (wn rfl) rfl (fun _ _ h1 h2 => run_assign (h1.ev rfl)) ?_
    refine Tr.nil (Tr.normThen ?_)
    refine Tr.ret ?_
    obtain rfl := Option.some.inj H
    exact Tr.out (m := [(.slice Ay101_0 (y101).length cy101_0), (.int .i64 0)]) [] (res_tmp rfl (res_tmp rfl res_nil)) (fun W hW => ⟨(Ay101_0, cy101_0), rfl, hgy101_0, HF.lowE leB (hW.pick (ks := [3]) (by decide) (pk_cons rfl pk_nil)) ⟨ow_any _ _ _ _ tr_TRect, trivial⟩⟩)

theorem F_shape_Set__And_1_ok {w : Bs} (p0 : Bool) (p1 : Bool) (r : Bool) (H : F_shape_Set__And_1 p0 p1 = some r) (hE : HF w w.W E0) : Calls Try.prog 79 [(.bool p0), (.bool p1)].toArray w.W fun e W' => e = .returned (.bool r) ∧ HF w W' E0 := by
  unfold F_shape_Set__And_1 at H
  have leB := Bs.Le.refl w
  refine Tr.enter (n := 9) Try.func79 rfl rfl rfl hE ?_
  refine Tr.seq ?_
  refine Tr.region ?_
  refine Tr.val (wn rfl) rfl (fun _ _ h1 h2 => run_assign (h1.ev rfl)) ?_
  refine Tr.nil (Tr.normThen ?_)
  refine Tr.seq ?_
  refine Tr.region ?_
  refine Tr.val (wn rfl) rfl (fun _ _ h1 h2 => run_move (h1.ev rfl)) ?_
  refine Tr.val (wn rfl) rfl (fun _ _ h1 h2 => run_move (h1.ev rfl)) ?_
  refine Tr.mid0 2 [(8, (.bool (p0 && p1)))] [] ?_ ?_
  · cases hg99 : p0
    · refine Tr.pass rfl rfl rfl rfl rfl (by decide) ?_
      refine Tr.val (wn rfl) rfl (fun _ _ h1 h2 => run_pickF (h1.ev rfl) (h1.ev rfl)) ?_
      exact Tr.nil (Tr.fin0 (.cons rfl .nil) .nil)
    · refine Tr.val (wg rfl rfl rfl) rfl (fun _ _ h1 h2 => run_move (h1.ev rfl)) ?_
      refine Tr.val (wn rfl) rfl (fun _ _ h1 h2 => run_pickT (h1.ev rfl) (h1.ev rfl)) ?_
      exact Tr.nil (Tr.fin0 (.cons rfl .nil) .nil)
  · show Tr _ _ (LF [(8, (.bool (p0 && p1)))]) (LE []) _
    refine Tr.val (wn rfl) rfl (fun _ _ h1 h2 => run_assign (h1.ev rfl)) ?_
    refine Tr.nil (Tr.normThen ?_)
    refine Tr.ret ?_
    obtain rfl := Option.some.inj H
    exact Tr.out (m := [(.bool (p0 && p1))]) [] (res_tmp rfl res_nil) (fun W hW => ⟨rfl, hW.low leB⟩)

theorem F_shape_Set__And_ok (N : Nat) {w : Bs} (p0 : (List TBand)) (Ap0_0 : Option Addr) (cp0_0 : Nat) (hp0_0 : Sl w.O w.W fl_TBand Ap0_0 cp0_0 p0) (p1 : (List TBand)) (Ap1_0 : Option Addr) (cp1_0 : Nat) (hp1_0 : Sl w.O w.W fl_TBand Ap1_0 cp1_0 p1) (r : (List TBand)) (H : F_shape_Set__And N p0 p1 = some r) (hE : HF w w.W (LEn [emp])) : Calls Try.prog 43 [(.slice Ap0_0 (p0).length cp0_0), (.slice Ap1_0 (p1).length cp1_0)].toArray w.W fun e W' => ∃ (w' : Bs) (u : (Option Addr × Nat)), w.Le w' ∧ e = .returned (.slice u.1 (r).length u.2) ∧ (SlF u.1 (r).length u.2) ∧ HF w' W' (LEn [ow u.1 u.2 104 fl_TBand r]) := by
  unfold F_shape_Set__And at H
  have leB := Bs.Le.refl w
  refine Tr.enter (n := 8) Try.func43 rfl rfl rfl hE ?_
  refine Tr.seq ?_
  refine Tr.region ?_
  refine Tr.val (wn rfl) rfl (fun _ _ h1 h2 => run_assign (h1.ev rfl)) ?_
  refine Tr.nilOwn 1 104 fl_TBand ?_
  show Tr _ _ (uf _ 4 (.slice none (([] : List TBand)).length 0)) _ _
  refine Tr.nil (Tr.normThen ?_)
  refine Tr.seq ?_
  refine Tr.region ?_
  refine Tr.val (wn rfl) rfl (fun _ _ h1 h2 => run_move (h1.ev rfl)) ?_
  refine Tr.val (wn rfl) rfl (fun _ _ h1 h2 => run_move (h1.ev rfl)) ?_
  obtain ⟨y100, hy100, H⟩ := bnd H
  refine Tr.callG [2] [emp] (U := (Option Addr × Nat)) (fun u => (.slice u.1 (y100).length u.2)) (fun O W u => SlF u.1 (y100).length u.2) (fun u => [ow u.1 u.2 104 fl_TBand y100]) rfl (pk_cons rfl pk_nil) (fun _ => rfl) (wn rfl) rfl Try.call78 (evl_cons rfl (evl_cons rfl (evl_cons rfl evl_nil))) (fun W hW hp hE => F_shape_Merge_ok N p0 Ap0_0 cp0_0 (hp0_0.extO (hW.extS hp)) p1 Ap1_0 cp1_0 (hp1_0.extO (hW.extS hp)) (fun z0 z1 => F_shape_Set__And_1 z0 z1) 79 [] Try.call79 (fun w' he z0 z1 y hy => F_shape_Set__And_1_ok z0 z1 y hy (HF.start _)) y100 hy100 hE) ?_
  intro w u le101 hu
  obtain ⟨Ay100_0, cy100_0⟩ := u
  have gy100_0 := hu
  replace hp0_0 := hp0_0.le le101
  replace hp1_0 := hp1_0.le le101
  replace leB := leB.trans le101
  have hgy100_0 : SlF Ay100_0 (y100).length cy100_0 := gy100_0 --@phi
  show Tr _ _ (uf _ 7 (.slice Ay100_0 (y100).length cy100_0)) (up _ 2 (ow Ay100_0 cy100_0 104 fl_TBand y100)) _
  refine Tr.val (wn rfl) rfl (fun _ _ h1 h2 => run_assign (h1.ev rfl)) ?_
  refine Tr.nil (Tr.normThen ?_)
  refine Tr.ret ?_
  obtain rfl := Option.some.inj H
  exact Tr.out (m := [(.slice Ay100_0 (y100).length cy100_0)]) [] (res_tmp rfl res_nil) (fun W hW => ⟨w, (Ay100_0, cy100_0), leB, rfl, hgy100_0, hW.pick (ks := [2]) (by decide) (pk_cons rfl pk_nil)⟩)

end Go.Proofs.Ytnlhigfglfahiaa
