/- The walks: each function computes its plain function. -/
import Derived.Test.YtpkicpnbpldkpaaXF
namespace Go.Proofs.Ytpkicpnbpldkpaa
open Go.RowKit
set_option maxRecDepth 100000
set_option maxHeartbeats 1000000
theorem F_panel_within_ok {w : World} (p0 : Int) (p1 : Int) (p2 : Int) (r : Bool) (H : F_panel_within p0 p1 p2 = some r) : Calls Try.prog 46 [(.int .i64 p0), (.int .i64 p1), (.int .i64 p2)].toArray w fun e W' => e = .returned (.bool r) ∧ Below w.heap.size w W' := by
  unfold F_panel_within at H
  refine Tr.enter (n := 15) Try.func46 rfl rfl rfl ?_
  refine Tr.seq ?_
  refine Tr.region ?_
  refine Tr.val (wn rfl) rfl (fun _ _ h1 h2 => run_assign (h1.ev rfl)) ?_
  refine Tr.nil (Tr.normThen ?_)
  refine Tr.seq ?_
  refine Tr.region ?_
  refine Tr.val (wn rfl) rfl (fun _ _ h1 h2 => run_move (h1.ev rfl)) ?_
  refine Tr.val (wn rfl) rfl (fun _ _ h1 h2 => run_move (h1.ev rfl)) ?_
  refine Tr.val (wn rfl) rfl (fun _ _ h1 h2 => run_geq (h1.ev rfl) (h1.ev rfl)) ?_
  refine Tr.val (wn rfl) rfl (fun _ _ h1 h2 => run_move (h1.ev rfl)) ?_
  refine Tr.mid (σ := Unit) 4 (fun _ => True) (fun _ => [(14, (.bool ((decide (p1 ≤ p0)) && (decide (p0 ≤ p2)))))]) (fun _ => []) ?_ ?_
  · cases hg0 : (decide (p1 ≤ p0))
    · refine Tr.pass rfl rfl rfl rfl rfl (by decide) ?_
      refine Tr.pass rfl rfl rfl rfl rfl (by decide) ?_
      refine Tr.pass rfl rfl rfl rfl rfl (by decide) ?_
      refine Tr.val (wn rfl) rfl (fun _ _ h1 h2 => run_pickF (h1.ev rfl) (h1.ev rfl)) ?_
      exact Tr.nil (Tr.backThen () trivial (.cons rfl .nil) .nil)
    · refine Tr.val (wg rfl rfl rfl) rfl (fun _ _ h1 h2 => run_move (h1.ev rfl)) ?_
      refine Tr.val (wg rfl rfl rfl) rfl (fun _ _ h1 h2 => run_move (h1.ev rfl)) ?_
      refine Tr.val (wg rfl rfl rfl) rfl (fun _ _ h1 h2 => run_leq (h1.ev rfl) (h1.ev rfl)) ?_
      refine Tr.val (wn rfl) rfl (fun _ _ h1 h2 => run_pickT (h1.ev rfl) (h1.ev rfl)) ?_
      exact Tr.nil (Tr.backThen () trivial (.cons rfl .nil) .nil)
  · intro _ _
    show Tr _ _ (LF [(14, (.bool ((decide (p1 ≤ p0)) && (decide (p0 ≤ p2)))))]) (LE []) _
    refine Tr.val (wn rfl) rfl (fun _ _ h1 h2 => run_assign (h1.ev rfl)) ?_
    refine Tr.nil (Tr.normThen ?_)
    refine Tr.ret ?_
    obtain rfl := Option.some.inj H
    exact Tr.out (m := [(.bool ((decide (p1 ≤ p0)) && (decide (p0 ≤ p2))))]) [] (res_tmp rfl res_nil) (fun W hW => ⟨rfl, hW.below⟩)

theorem F_plot_IsName_ok (N : Nat) {w : World} (p0 : ByteArray) (r : Bool) (H : F_plot_IsName N p0 = some r) : Calls Try.prog 113 [(.string p0)].toArray w fun e W' => e = .returned (.bool r) ∧ Below w.heap.size w W' := by
  unfold F_plot_IsName at H
  refine Tr.enter (n := 59) Try.func113 rfl rfl rfl ?_
  refine Tr.seq ?_
  refine Tr.region ?_
  refine Tr.val (wn rfl) rfl (fun _ _ h1 h2 => run_assign (h1.ev rfl)) ?_
  refine Tr.nil (Tr.normThen ?_)
  refine Tr.seq ?_
  refine Tr.seq ?_
  refine Tr.region ?_
  refine Tr.val (wn rfl) rfl (fun _ _ h1 h2 => run_move (h1.ev rfl)) ?_
  refine Tr.val (wn rfl) rfl (fun _ _ h1 h2 => run_lenS un_9 (h1.ev rfl)) ?_
  refine Tr.val (wn rfl) rfl (fun _ _ h1 h2 => run_move (h1.ev rfl)) ?_
  refine Tr.nil (Tr.normThen ?_)
  refine Tr.block ?_
  refine Tr.loop (σ := Int) (fun m s => F_plot_IsName_L1 p0 m s = some r) (fun s => [(0, (.string p0)), (7, (.int .i64 (p0.size : Int))), (8, (.int .i64 s))]) (fun s => []) N 0 H (.cons rfl (.cons rfl (.cons rfl .nil))) .nil (fun _ h => noSome (h)) ?_
  intro mF_plot_IsName_L1 x6 hs
  have H := hs
  replace H : F_plot_IsName_L1 p0 (mF_plot_IsName_L1 + 1) x6 = some r := H
  rw [F_plot_IsName_L1.eq_2] at H
  show Tr _ _ (LF [(0, (.string p0)), (7, (.int .i64 (p0.size : Int))), (8, (.int .i64 x6))]) (LE []) _
  refine Tr.seq ?_
  refine Tr.region ?_
  refine Tr.val (wn rfl) rfl (fun _ _ h1 h2 => run_lss (h1.ev rfl) (h1.ev rfl)) ?_
  refine Tr.nil (Tr.normThen ?_)
  refine Tr.seq ?_
  refine Tr.cond rfl H (fun H => ?_) (fun H => ?_)
  · refine Tr.skip (Tr.normThen ?_)
    refine Tr.seq ?_
    refine Tr.block ?_
    refine Tr.seq ?_
    refine Tr.region ?_
    refine Tr.val (wn rfl) rfl (fun _ _ h1 h2 => run_move (h1.ev rfl)) ?_
    refine Tr.val (wn rfl) rfl (fun _ _ h1 h2 => run_assign (h1.ev rfl)) ?_
    refine Tr.nil (Tr.normThen ?_)
    refine Tr.seq ?_
    refine Tr.region ?_
    refine Tr.val (wn rfl) rfl (fun _ _ h1 h2 => run_move (h1.ev rfl)) ?_
    refine Tr.val (wn rfl) rfl (fun _ _ h1 h2 => run_move (h1.ev rfl)) ?_
    obtain ⟨c7, hc7, H⟩ := bnd H
    refine Tr.val (wn rfl) rfl (fun _ _ h1 h2 => run_indexS un_9 (h1.ev rfl) (h1.ev rfl) hc7) ?_
    refine Tr.val (wn rfl) rfl (fun _ _ h1 h2 => run_assign (h1.ev rfl)) ?_
    refine Tr.nil (Tr.normThen ?_)
    refine Tr.seq ?_
    refine Tr.region ?_
    refine Tr.val (wn rfl) rfl (fun _ _ h1 h2 => run_move (h1.ev rfl)) ?_
    refine Tr.val (wn rfl) rfl (fun _ _ h1 h2 => run_geq (h1.ev rfl) (h1.ev rfl)) ?_
    refine Tr.val (wn rfl) rfl (fun _ _ h1 h2 => run_move (h1.ev rfl)) ?_
    refine Tr.mid (σ := Unit) 3 (fun _ => True) (fun _ => [(0, (.string p0)), (3, (.int .i64 x6)), (4, (.int .u8 c7)), (7, (.int .i64 (p0.size : Int))), (8, (.int .i64 x6)), (19, (.bool ((decide (97 ≤ c7)) && (decide (c7 ≤ 122)))))]) (fun _ => []) ?_ ?_
    · cases hg7 : (decide (97 ≤ c7))
      · refine Tr.pass rfl rfl rfl rfl rfl (by decide) ?_
        refine Tr.pass rfl rfl rfl rfl rfl (by decide) ?_
        refine Tr.val (wn rfl) rfl (fun _ _ h1 h2 => run_pickF (h1.ev rfl) (h1.ev rfl)) ?_
        exact Tr.nil (Tr.backThen () trivial (.cons rfl (.cons rfl (.cons rfl (.cons rfl (.cons rfl (.cons rfl .nil)))))) .nil)
      · refine Tr.val (wg rfl rfl rfl) rfl (fun _ _ h1 h2 => run_move (h1.ev rfl)) ?_
        refine Tr.val (wg rfl rfl rfl) rfl (fun _ _ h1 h2 => run_leq (h1.ev rfl) (h1.ev rfl)) ?_
        refine Tr.val (wn rfl) rfl (fun _ _ h1 h2 => run_pickT (h1.ev rfl) (h1.ev rfl)) ?_
        exact Tr.nil (Tr.backThen () trivial (.cons rfl (.cons rfl (.cons rfl (.cons rfl (.cons rfl (.cons rfl .nil)))))) .nil)
    · intro _ _
      show Tr _ _ (LF [(0, (.string p0)), (3, (.int .i64 x6)), (4, (.int .u8 c7)), (7, (.int .i64 (p0.size : Int))), (8, (.int .i64 x6)), (19, (.bool ((decide (97 ≤ c7)) && (decide (c7 ≤ 122)))))]) (LE []) _
      refine Tr.val (wn rfl) rfl (fun _ _ h1 h2 => run_move (h1.ev rfl)) ?_
      refine Tr.mid (σ := Unit) 7 (fun _ => True) (fun _ => [(0, (.string p0)), (3, (.int .i64 x6)), (4, (.int .u8 c7)), (7, (.int .i64 (p0.size : Int))), (8, (.int .i64 x6)), (27, (.bool (((decide (97 ≤ c7)) && (decide (c7 ≤ 122))) || ((decide (65 ≤ c7)) && (decide (c7 ≤ 90))))))]) (fun _ => []) ?_ ?_
      · cases hg7 : ((decide (97 ≤ c7)) && (decide (c7 ≤ 122)))
        · refine Tr.val (wg rfl rfl rfl) rfl (fun _ _ h1 h2 => run_move (h1.ev rfl)) ?_
          refine Tr.val (wg rfl rfl rfl) rfl (fun _ _ h1 h2 => run_geq (h1.ev rfl) (h1.ev rfl)) ?_
          refine Tr.val (wg rfl rfl rfl) rfl (fun _ _ h1 h2 => run_move (h1.ev rfl)) ?_
          refine Tr.mid (σ := Unit) 3 (fun _ => True) (fun _ => [(0, (.string p0)), (3, (.int .i64 x6)), (4, (.int .u8 c7)), (7, (.int .i64 (p0.size : Int))), (8, (.int .i64 x6)), (20, (.bool false)), (26, (.bool ((decide (65 ≤ c7)) && (decide (c7 ≤ 90)))))]) (fun _ => []) ?_ ?_
          · cases hg7 : (decide (65 ≤ c7))
            · refine Tr.pass rfl rfl rfl rfl rfl (by decide) ?_
              refine Tr.pass rfl rfl rfl rfl rfl (by decide) ?_
              refine Tr.val (wg rfl rfl rfl) rfl (fun _ _ h1 h2 => run_pickF (h1.ev rfl) (h1.ev rfl)) ?_
              exact Tr.nil (Tr.backThen () trivial (.cons rfl (.cons rfl (.cons rfl (.cons rfl (.cons rfl (.cons rfl (.cons rfl .nil))))))) .nil)
            · refine Tr.val (wg rfl rfl rfl) rfl (fun _ _ h1 h2 => run_move (h1.ev rfl)) ?_
              refine Tr.val (wg rfl rfl rfl) rfl (fun _ _ h1 h2 => run_leq (h1.ev rfl) (h1.ev rfl)) ?_
              refine Tr.val (wg rfl rfl rfl) rfl (fun _ _ h1 h2 => run_pickT (h1.ev rfl) (h1.ev rfl)) ?_
              exact Tr.nil (Tr.backThen () trivial (.cons rfl (.cons rfl (.cons rfl (.cons rfl (.cons rfl (.cons rfl (.cons rfl .nil))))))) .nil)
          · intro _ _
            show Tr _ _ (LF [(0, (.string p0)), (3, (.int .i64 x6)), (4, (.int .u8 c7)), (7, (.int .i64 (p0.size : Int))), (8, (.int .i64 x6)), (20, (.bool false)), (26, (.bool ((decide (65 ≤ c7)) && (decide (c7 ≤ 90)))))]) (LE []) _
            refine Tr.val (wn rfl) rfl (fun _ _ h1 h2 => run_pickF (h1.ev rfl) (h1.ev rfl)) ?_
            exact Tr.nil (Tr.backThen () trivial (.cons rfl (.cons rfl (.cons rfl (.cons rfl (.cons rfl (.cons rfl .nil)))))) .nil)
        · refine Tr.pass rfl rfl rfl rfl rfl (by decide) ?_
          refine Tr.pass rfl rfl rfl rfl rfl (by decide) ?_
          refine Tr.pass rfl rfl rfl rfl rfl (by decide) ?_
          refine Tr.passU rfl rfl rfl rfl (by decide) ?_
          refine Tr.passU rfl rfl rfl rfl (by decide) ?_
          refine Tr.pass rfl rfl rfl rfl rfl (by decide) ?_
          refine Tr.val (wn rfl) rfl (fun _ _ h1 h2 => run_pickT (h1.ev rfl) (h1.ev rfl)) ?_
          exact Tr.nil (Tr.backThen () trivial (.cons rfl (.cons rfl (.cons rfl (.cons rfl (.cons rfl (.cons rfl .nil)))))) .nil)
      · intro _ _
        show Tr _ _ (LF [(0, (.string p0)), (3, (.int .i64 x6)), (4, (.int .u8 c7)), (7, (.int .i64 (p0.size : Int))), (8, (.int .i64 x6)), (27, (.bool (((decide (97 ≤ c7)) && (decide (c7 ≤ 122))) || ((decide (65 ≤ c7)) && (decide (c7 ≤ 90))))))]) (LE []) _
        refine Tr.val (wn rfl) rfl (fun _ _ h1 h2 => run_assign (h1.ev rfl)) ?_
        refine Tr.nil (Tr.normThen ?_)
        refine Tr.seq ?_
        refine Tr.region ?_
        refine Tr.val (wn rfl) rfl (fun _ _ h1 h2 => run_move (h1.ev rfl)) ?_
        refine Tr.val (wn rfl) rfl (fun _ _ h1 h2 => run_not (h1.ev rfl)) ?_
        refine Tr.val (wn rfl) rfl (fun _ _ h1 h2 => run_move (h1.ev rfl)) ?_
        refine Tr.mid (σ := Unit) 19 (fun _ => True) (fun _ => [(0, (.string p0)), (7, (.int .i64 (p0.size : Int))), (8, (.int .i64 x6)), (49, (.bool ((!(((decide (97 ≤ c7)) && (decide (c7 ≤ 122))) || ((decide (65 ≤ c7)) && (decide (c7 ≤ 90))))) && ((x6 == 0) || ((((decide (c7 < 48)) || (decide (57 < c7))) && (c7 != 95)) && (c7 != 45))))))]) (fun _ => []) ?_ ?_
        · cases hg7 : (!(((decide (97 ≤ c7)) && (decide (c7 ≤ 122))) || ((decide (65 ≤ c7)) && (decide (c7 ≤ 90)))))
          · refine Tr.pass rfl rfl rfl rfl rfl (by decide) ?_
            refine Tr.pass rfl rfl rfl rfl rfl (by decide) ?_
            refine Tr.pass rfl rfl rfl rfl rfl (by decide) ?_
            refine Tr.passU rfl rfl rfl rfl (by decide) ?_
            refine Tr.passU rfl rfl rfl rfl (by decide) ?_
            refine Tr.passU rfl rfl rfl rfl (by decide) ?_
            refine Tr.passU rfl rfl rfl rfl (by decide) ?_
            refine Tr.passU rfl rfl rfl rfl (by decide) ?_
            refine Tr.passU rfl rfl rfl rfl (by decide) ?_
            refine Tr.passU rfl rfl rfl rfl (by decide) ?_
            refine Tr.passU rfl rfl rfl rfl (by decide) ?_
            refine Tr.passU rfl rfl rfl rfl (by decide) ?_
            refine Tr.passU rfl rfl rfl rfl (by decide) ?_
            refine Tr.passU rfl rfl rfl rfl (by decide) ?_
            refine Tr.passU rfl rfl rfl rfl (by decide) ?_
            refine Tr.passU rfl rfl rfl rfl (by decide) ?_
            refine Tr.passU rfl rfl rfl rfl (by decide) ?_
            refine Tr.pass rfl rfl rfl rfl rfl (by decide) ?_
            refine Tr.val (wn rfl) rfl (fun _ _ h1 h2 => run_pickF (h1.ev rfl) (h1.ev rfl)) ?_
            exact Tr.nil (Tr.backThen () trivial (.cons rfl (.cons rfl (.cons rfl (.cons rfl .nil)))) .nil)
          · refine Tr.val (wg rfl rfl rfl) rfl (fun _ _ h1 h2 => run_move (h1.ev rfl)) ?_
            refine Tr.val (wg rfl rfl rfl) rfl (fun _ _ h1 h2 => run_eql (h1.ev rfl) (h1.ev rfl)) ?_
            refine Tr.val (wg rfl rfl rfl) rfl (fun _ _ h1 h2 => run_move (h1.ev rfl)) ?_
            refine Tr.mid (σ := Unit) 15 (fun _ => True) (fun _ => [(0, (.string p0)), (7, (.int .i64 (p0.size : Int))), (8, (.int .i64 x6)), (30, (.bool true)), (48, (.bool ((x6 == 0) || ((((decide (c7 < 48)) || (decide (57 < c7))) && (c7 != 95)) && (c7 != 45)))))]) (fun _ => []) ?_ ?_
            · cases hg7 : (x6 == 0)
              · refine Tr.val (wg rfl rfl rfl) rfl (fun _ _ h1 h2 => run_move (h1.ev rfl)) ?_
                refine Tr.val (wg rfl rfl rfl) rfl (fun _ _ h1 h2 => run_lss (h1.ev rfl) (h1.ev rfl)) ?_
                refine Tr.val (wg rfl rfl rfl) rfl (fun _ _ h1 h2 => run_move (h1.ev rfl)) ?_
                refine Tr.mid (σ := Unit) 3 (fun _ => True) (fun _ => [(0, (.string p0)), (4, (.int .u8 c7)), (7, (.int .i64 (p0.size : Int))), (8, (.int .i64 x6)), (30, (.bool true)), (33, (.bool false)), (39, (.bool ((decide (c7 < 48)) || (decide (57 < c7)))))]) (fun _ => []) ?_ ?_
                · cases hg7 : (decide (c7 < 48))
                  · refine Tr.val (wg rfl rfl rfl) rfl (fun _ _ h1 h2 => run_move (h1.ev rfl)) ?_
                    refine Tr.val (wg rfl rfl rfl) rfl (fun _ _ h1 h2 => run_gtr (h1.ev rfl) (h1.ev rfl)) ?_
                    refine Tr.val (wg rfl rfl rfl) rfl (fun _ _ h1 h2 => run_pickF (h1.ev rfl) (h1.ev rfl)) ?_
                    exact Tr.nil (Tr.backThen () trivial (.cons rfl (.cons rfl (.cons rfl (.cons rfl (.cons rfl (.cons rfl (.cons rfl .nil))))))) .nil)
                  · refine Tr.pass rfl rfl rfl rfl rfl (by decide) ?_
                    refine Tr.pass rfl rfl rfl rfl rfl (by decide) ?_
                    refine Tr.val (wg rfl rfl rfl) rfl (fun _ _ h1 h2 => run_pickT (h1.ev rfl) (h1.ev rfl)) ?_
                    exact Tr.nil (Tr.backThen () trivial (.cons rfl (.cons rfl (.cons rfl (.cons rfl (.cons rfl (.cons rfl (.cons rfl .nil))))))) .nil)
                · intro _ _
                  show Tr _ _ (LF [(0, (.string p0)), (4, (.int .u8 c7)), (7, (.int .i64 (p0.size : Int))), (8, (.int .i64 x6)), (30, (.bool true)), (33, (.bool false)), (39, (.bool ((decide (c7 < 48)) || (decide (57 < c7)))))]) (LE []) _
                  refine Tr.val (wg rfl rfl rfl) rfl (fun _ _ h1 h2 => run_move (h1.ev rfl)) ?_
                  refine Tr.mid (σ := Unit) 3 (fun _ => True) (fun _ => [(0, (.string p0)), (4, (.int .u8 c7)), (7, (.int .i64 (p0.size : Int))), (8, (.int .i64 x6)), (30, (.bool true)), (33, (.bool false)), (43, (.bool (((decide (c7 < 48)) || (decide (57 < c7))) && (c7 != 95))))]) (fun _ => []) ?_ ?_
                  · cases hg7 : ((decide (c7 < 48)) || (decide (57 < c7)))
                    · refine Tr.pass rfl rfl rfl rfl rfl (by decide) ?_
                      refine Tr.pass rfl rfl rfl rfl rfl (by decide) ?_
                      refine Tr.val (wg rfl rfl rfl) rfl (fun _ _ h1 h2 => run_pickF (h1.ev rfl) (h1.ev rfl)) ?_
                      exact Tr.nil (Tr.backThen () trivial (.cons rfl (.cons rfl (.cons rfl (.cons rfl (.cons rfl (.cons rfl (.cons rfl .nil))))))) .nil)
                    · refine Tr.val (wg rfl rfl rfl) rfl (fun _ _ h1 h2 => run_move (h1.ev rfl)) ?_
                      refine Tr.val (wg rfl rfl rfl) rfl (fun _ _ h1 h2 => run_neq (h1.ev rfl) (h1.ev rfl)) ?_
                      refine Tr.val (wg rfl rfl rfl) rfl (fun _ _ h1 h2 => run_pickT (h1.ev rfl) (h1.ev rfl)) ?_
                      exact Tr.nil (Tr.backThen () trivial (.cons rfl (.cons rfl (.cons rfl (.cons rfl (.cons rfl (.cons rfl (.cons rfl .nil))))))) .nil)
                  · intro _ _
                    show Tr _ _ (LF [(0, (.string p0)), (4, (.int .u8 c7)), (7, (.int .i64 (p0.size : Int))), (8, (.int .i64 x6)), (30, (.bool true)), (33, (.bool false)), (43, (.bool (((decide (c7 < 48)) || (decide (57 < c7))) && (c7 != 95))))]) (LE []) _
                    refine Tr.val (wg rfl rfl rfl) rfl (fun _ _ h1 h2 => run_move (h1.ev rfl)) ?_
                    refine Tr.mid (σ := Unit) 3 (fun _ => True) (fun _ => [(0, (.string p0)), (7, (.int .i64 (p0.size : Int))), (8, (.int .i64 x6)), (30, (.bool true)), (33, (.bool false)), (47, (.bool ((((decide (c7 < 48)) || (decide (57 < c7))) && (c7 != 95)) && (c7 != 45))))]) (fun _ => []) ?_ ?_
                    · cases hg7 : (((decide (c7 < 48)) || (decide (57 < c7))) && (c7 != 95))
                      · refine Tr.pass rfl rfl rfl rfl rfl (by decide) ?_
                        refine Tr.pass rfl rfl rfl rfl rfl (by decide) ?_
                        refine Tr.val (wg rfl rfl rfl) rfl (fun _ _ h1 h2 => run_pickF (h1.ev rfl) (h1.ev rfl)) ?_
                        exact Tr.nil (Tr.backThen () trivial (.cons rfl (.cons rfl (.cons rfl (.cons rfl (.cons rfl (.cons rfl .nil)))))) .nil)
                      · refine Tr.val (wg rfl rfl rfl) rfl (fun _ _ h1 h2 => run_move (h1.ev rfl)) ?_
                        refine Tr.val (wg rfl rfl rfl) rfl (fun _ _ h1 h2 => run_neq (h1.ev rfl) (h1.ev rfl)) ?_
                        refine Tr.val (wg rfl rfl rfl) rfl (fun _ _ h1 h2 => run_pickT (h1.ev rfl) (h1.ev rfl)) ?_
                        exact Tr.nil (Tr.backThen () trivial (.cons rfl (.cons rfl (.cons rfl (.cons rfl (.cons rfl (.cons rfl .nil)))))) .nil)
                    · intro _ _
                      show Tr _ _ (LF [(0, (.string p0)), (7, (.int .i64 (p0.size : Int))), (8, (.int .i64 x6)), (30, (.bool true)), (33, (.bool false)), (47, (.bool ((((decide (c7 < 48)) || (decide (57 < c7))) && (c7 != 95)) && (c7 != 45))))]) (LE []) _
                      refine Tr.val (wg rfl rfl rfl) rfl (fun _ _ h1 h2 => run_pickF (h1.ev rfl) (h1.ev rfl)) ?_
                      exact Tr.nil (Tr.backThen () trivial (.cons rfl (.cons rfl (.cons rfl (.cons rfl (.cons rfl .nil))))) .nil)
              · refine Tr.pass rfl rfl rfl rfl rfl (by decide) ?_
                refine Tr.pass rfl rfl rfl rfl rfl (by decide) ?_
                refine Tr.pass rfl rfl rfl rfl rfl (by decide) ?_
                refine Tr.passU rfl rfl rfl rfl (by decide) ?_
                refine Tr.passU rfl rfl rfl rfl (by decide) ?_
                refine Tr.pass rfl rfl rfl rfl rfl (by decide) ?_
                refine Tr.pass rfl rfl rfl rfl rfl (by decide) ?_
                refine Tr.passU rfl rfl rfl rfl (by decide) ?_
                refine Tr.passU rfl rfl rfl rfl (by decide) ?_
                refine Tr.pass rfl rfl rfl rfl rfl (by decide) ?_
                refine Tr.pass rfl rfl rfl rfl rfl (by decide) ?_
                refine Tr.passU rfl rfl rfl rfl (by decide) ?_
                refine Tr.passU rfl rfl rfl rfl (by decide) ?_
                refine Tr.pass rfl rfl rfl rfl rfl (by decide) ?_
                refine Tr.val (wg rfl rfl rfl) rfl (fun _ _ h1 h2 => run_pickT (h1.ev rfl) (h1.ev rfl)) ?_
                exact Tr.nil (Tr.backThen () trivial (.cons rfl (.cons rfl (.cons rfl (.cons rfl (.cons rfl .nil))))) .nil)
            · intro _ _
              show Tr _ _ (LF [(0, (.string p0)), (7, (.int .i64 (p0.size : Int))), (8, (.int .i64 x6)), (30, (.bool true)), (48, (.bool ((x6 == 0) || ((((decide (c7 < 48)) || (decide (57 < c7))) && (c7 != 95)) && (c7 != 45)))))]) (LE []) _
              refine Tr.val (wn rfl) rfl (fun _ _ h1 h2 => run_pickT (h1.ev rfl) (h1.ev rfl)) ?_
              exact Tr.nil (Tr.backThen () trivial (.cons rfl (.cons rfl (.cons rfl (.cons rfl .nil)))) .nil)
        · intro _ _
          show Tr _ _ (LF [(0, (.string p0)), (7, (.int .i64 (p0.size : Int))), (8, (.int .i64 x6)), (49, (.bool ((!(((decide (97 ≤ c7)) && (decide (c7 ≤ 122))) || ((decide (65 ≤ c7)) && (decide (c7 ≤ 90))))) && ((x6 == 0) || ((((decide (c7 < 48)) || (decide (57 < c7))) && (c7 != 95)) && (c7 != 45))))))]) (LE []) _
          refine Tr.nil (Tr.normThen ?_)
          refine Tr.cond rfl H (fun H => ?_) (fun H => ?_)
          · refine Tr.seq ?_
            refine Tr.region ?_
            refine Tr.val (wn rfl) rfl (fun _ _ h1 h2 => run_assign (h1.ev rfl)) ?_
            refine Tr.nil (Tr.normThen ?_)
            refine Tr.ret (Tr.retBlock (Tr.retThen (Tr.retThen (Tr.retBlock (Tr.retThen ?_)))))
            obtain rfl := Option.some.inj H
            exact Tr.out (m := [(.bool false)]) [] (res_tmp rfl res_nil) (fun W hW => ⟨rfl, hW.below⟩)
          · refine Tr.skip (Tr.normBlock (Tr.normThen ?_))
            refine Tr.region ?_
            refine Tr.val (wn rfl) rfl (fun _ _ h1 h2 => run_add (h1.ev rfl) (h1.ev rfl)) ?_
            refine Tr.val (wn rfl) rfl (fun _ _ h1 h2 => run_move (h1.ev rfl)) ?_
            refine Tr.nil ?_
            exact Tr.backThen (w64 (x6 + 1)) H (.cons rfl (.cons rfl (.cons rfl .nil))) .nil
  · refine Tr.exit (Tr.exitThen (Tr.exitThen (Tr.exitBlock (Tr.normThen ?_))))
    refine Tr.seq ?_
    refine Tr.region ?_
    refine Tr.val (wn rfl) rfl (fun _ _ h1 h2 => run_move (h1.ev rfl)) ?_
    refine Tr.val (wn rfl) rfl (fun _ _ h1 h2 => run_lenS un_9 (h1.ev rfl)) ?_
    refine Tr.val (wn rfl) rfl (fun _ _ h1 h2 => run_geq (h1.ev rfl) (h1.ev rfl)) ?_
    refine Tr.val (wn rfl) rfl (fun _ _ h1 h2 => run_move (h1.ev rfl)) ?_
    refine Tr.mid (σ := Unit) 4 (fun _ => True) (fun _ => [(58, (.bool ((decide (1 ≤ (p0.size : Int))) && (decide ((p0.size : Int) ≤ 40)))))]) (fun _ => []) ?_ ?_
    · cases hg7 : (decide (1 ≤ (p0.size : Int)))
      · refine Tr.pass rfl rfl rfl rfl rfl (by decide) ?_
        refine Tr.pass rfl rfl rfl rfl rfl (by decide) ?_
        refine Tr.pass rfl rfl rfl rfl rfl (by decide) ?_
        refine Tr.val (wn rfl) rfl (fun _ _ h1 h2 => run_pickF (h1.ev rfl) (h1.ev rfl)) ?_
        exact Tr.nil (Tr.backThen () trivial (.cons rfl .nil) .nil)
      · refine Tr.val (wg rfl rfl rfl) rfl (fun _ _ h1 h2 => run_move (h1.ev rfl)) ?_
        refine Tr.val (wg rfl rfl rfl) rfl (fun _ _ h1 h2 => run_lenS un_9 (h1.ev rfl)) ?_
        refine Tr.val (wg rfl rfl rfl) rfl (fun _ _ h1 h2 => run_leq (h1.ev rfl) (h1.ev rfl)) ?_
        refine Tr.val (wn rfl) rfl (fun _ _ h1 h2 => run_pickT (h1.ev rfl) (h1.ev rfl)) ?_
        exact Tr.nil (Tr.backThen () trivial (.cons rfl .nil) .nil)
    · intro _ _
      show Tr _ _ (LF [(58, (.bool ((decide (1 ≤ (p0.size : Int))) && (decide ((p0.size : Int) ≤ 40)))))]) (LE []) _
      refine Tr.val (wn rfl) rfl (fun _ _ h1 h2 => run_assign (h1.ev rfl)) ?_
      refine Tr.nil (Tr.normThen ?_)
      refine Tr.ret ?_
      obtain rfl := Option.some.inj H
      exact Tr.out (m := [(.bool ((decide (1 ≤ (p0.size : Int))) && (decide ((p0.size : Int) ≤ 40))))]) [] (res_tmp rfl res_nil) (fun W hW => ⟨rfl, hW.below⟩)

theorem F_panel_checkKinds_ok (N : Nat) {w : World} (p0 : (List TBoardKind)) (Ap0_0 : Option Addr) (cp0_0 : Nat) (hp0_0 : Sl (lo w.heap.size) w fl_TBoardKind Ap0_0 cp0_0 p0) (r : Int) (H : F_panel_checkKinds N p0 = some r) : Calls Try.prog 94 [(.slice Ap0_0 (p0).length cp0_0)].toArray w fun e W' => e = .returned (.int .i64 r) ∧ Below w.heap.size w W' := by
  unfold F_panel_checkKinds at H
  refine Tr.enter (n := 46) Try.func94 rfl rfl rfl ?_
  refine Tr.seq ?_
  refine Tr.region ?_
  refine Tr.val (wn rfl) rfl (fun _ _ h1 h2 => run_assign (h1.ev rfl)) ?_
  refine Tr.nil (Tr.normThen ?_)
  refine Tr.seq ?_
  refine Tr.seq ?_
  refine Tr.region ?_
  refine Tr.val (wn rfl) rfl (fun _ _ h1 h2 => run_move (h1.ev rfl)) ?_
  refine Tr.val (wn rfl) rfl (fun _ _ h1 h2 => run_len un_22 (h1.ev rfl)) ?_
  refine Tr.val (wn rfl) rfl (fun _ _ h1 h2 => run_gtr (h1.ev rfl) (h1.ev rfl)) ?_
  refine Tr.nil (Tr.normThen ?_)
  refine Tr.cond rfl H (fun H => ?_) (fun H => ?_)
  · refine Tr.seq ?_
    refine Tr.region ?_
    refine Tr.val (wn rfl) rfl (fun _ _ h1 h2 => run_assign (h1.ev rfl)) ?_
    refine Tr.nil (Tr.normThen ?_)
    refine Tr.ret (Tr.retThen ?_)
    obtain rfl := Option.some.inj H
    exact Tr.out (m := [(.int .i64 2)]) [] (res_tmp rfl res_nil) (fun W hW => ⟨rfl, hW.below⟩)
  · refine Tr.skip (Tr.normThen ?_)
    refine Tr.seq ?_
    refine Tr.seq ?_
    refine Tr.region ?_
    refine Tr.val (wn rfl) rfl (fun _ _ h1 h2 => run_move (h1.ev rfl)) ?_
    refine Tr.val (wn rfl) rfl (fun _ _ h1 h2 => run_len un_22 (h1.ev rfl)) ?_
    refine Tr.val (wn rfl) rfl (fun _ _ h1 h2 => run_move (h1.ev rfl)) ?_
    refine Tr.nil (Tr.normThen ?_)
    refine Tr.block ?_
    refine Tr.loop (σ := (List TBoardKind) × Nat) (fun m s => m = s.1.length + 1 ∧ s.1 = List.drop s.2 p0 ∧ s.2 ≤ p0.length ∧ F_panel_checkKinds_L1 N p0 s.1 s.2 = some r) (fun s => [(0, (.slice Ap0_0 (p0).length cp0_0)), (8, (.slice Ap0_0 (p0).length cp0_0)), (9, (.int .i64 (p0.length : Int))), (10, (.int .i64 (s.2 : Int)))]) (fun s => []) (p0.length + 1) (p0, 0) ⟨rfl, rfl, Nat.zero_le _, H⟩ (.cons rfl (.cons rfl (.cons rfl (.cons rfl .nil)))) .nil (fun _ h => absurd h.1 (by simp)) ?_
    intro m s hs
    obtain ⟨restF_panel_checkKinds_L1, iF_panel_checkKinds_L1⟩ := s
    obtain ⟨hmF_panel_checkKinds_L1, hdF_panel_checkKinds_L1, hiF_panel_checkKinds_L1, H⟩ := hs
    replace hdF_panel_checkKinds_L1 : restF_panel_checkKinds_L1 = List.drop iF_panel_checkKinds_L1 p0 := hdF_panel_checkKinds_L1
    replace H : F_panel_checkKinds_L1 N p0 restF_panel_checkKinds_L1 iF_panel_checkKinds_L1 = some r := H
    replace hmF_panel_checkKinds_L1 : m + 1 = restF_panel_checkKinds_L1.length + 1 := hmF_panel_checkKinds_L1
    obtain rfl : m = restF_panel_checkKinds_L1.length := by omega
    clear hmF_panel_checkKinds_L1
    show Tr _ _ (LF [(0, (.slice Ap0_0 (p0).length cp0_0)), (8, (.slice Ap0_0 (p0).length cp0_0)), (9, (.int .i64 (p0.length : Int))), (10, (.int .i64 (iF_panel_checkKinds_L1 : Int)))]) (LE []) _
    cases restF_panel_checkKinds_L1 with
    | nil =>
      rw [F_panel_checkKinds_L1.eq_1] at H
      refine Tr.seq ?_
      refine Tr.region ?_
      refine Tr.val (wn rfl) rfl (fun _ _ h1 h2 => run_lss (h1.ev rfl) (h1.ev rfl)) ?_
      refine Tr.nil (Tr.normThen ?_)
      refine Tr.seq ?_
      refine Tr.condF rfl (range_nil hdF_panel_checkKinds_L1) ?_
      refine Tr.exit (Tr.exitThen (Tr.exitThen (Tr.exitBlock (Tr.normThen ?_))))
      refine Tr.seq ?_
      refine Tr.region ?_
      refine Tr.val (wn rfl) rfl (fun _ _ h1 h2 => run_assign (h1.ev rfl)) ?_
      refine Tr.nil (Tr.normThen ?_)
      refine Tr.ret ?_
      obtain rfl := Option.some.inj H
      exact Tr.out (m := [(.int .i64 0)]) [] (res_tmp rfl res_nil) (fun W hW => ⟨rfl, hW.below⟩)
    | cons xF_panel_checkKinds_L1 restF_panel_checkKinds_L1 =>
      rw [F_panel_checkKinds_L1.eq_2] at H
      refine Tr.seq ?_
      refine Tr.region ?_
      refine Tr.val (wn rfl) rfl (fun _ _ h1 h2 => run_lss (h1.ev rfl) (h1.ev rfl)) ?_
      refine Tr.nil (Tr.normThen ?_)
      refine Tr.seq ?_
      refine Tr.condT rfl (range_on hdF_panel_checkKinds_L1) ?_
      refine Tr.skip (Tr.normThen ?_)
      refine Tr.seq ?_
      refine Tr.block ?_
      refine Tr.seq ?_
      refine Tr.region ?_
      refine Tr.val (wn rfl) rfl (fun _ _ h1 h2 => run_move (h1.ev rfl)) ?_
      refine Tr.val (wn rfl) rfl (fun _ _ h1 h2 => run_indexAddr el_22 (h1.ev rfl) hp0_0.form (h1.ev rfl) (Int.natCast_nonneg _) (range_lt hdF_panel_checkKinds_L1)) ?_
      refine Tr.val (wn rfl) rfl (fun _ _ h1 h2 => run_loadN (cs := [(.string xF_panel_checkKinds_L1.Name), (.int .i64 xF_panel_checkKinds_L1.W), (.int .i64 xF_panel_checkKinds_L1.H)]) ag_82 sz_82 (h1.ev rfl) (CellsAt.take (Rd.arg hp0_0 (range_at hdF_panel_checkKinds_L1) _ h2) 3) rfl) ?_
      refine Tr.alloc 2 (wn rfl) rfl ze_82 fun b2 => ?_
      refine Tr.val (wn rfl) rfl (fun _ _ h1 h2 => run_assign (h1.ev rfl)) ?_
      refine Tr.store 2 (cs := [(.string xF_panel_checkKinds_L1.Name), (.int .i64 xF_panel_checkKinds_L1.W), (.int .i64 xF_panel_checkKinds_L1.H)]) [(.string xF_panel_checkKinds_L1.Name), (.int .i64 xF_panel_checkKinds_L1.W), (.int .i64 xF_panel_checkKinds_L1.H)] (wn rfl) rfl rfl rfl rfl sz_82 rfl rfl rfl ?_
      refine Tr.nil (Tr.normThen ?_)
      refine Tr.block ?_
      refine Tr.seq ?_
      refine Tr.region ?_
      refine Tr.val (wn rfl) rfl (fun _ _ h1 h2 => run_fieldAddr fo_82_0 (h1.ev rfl)) ?_
      refine Tr.val (wn rfl) rfl (fun _ _ h1 h2 => run_load1 ag_9 (h1.ev rfl) (rdb h2 (vs := [(.string xF_panel_checkKinds_L1.Name), (.int .i64 xF_panel_checkKinds_L1.W), (.int .i64 xF_panel_checkKinds_L1.H)]) (k := 2) rfl 0) rfl) ?_
      obtain ⟨y11, hy11, H⟩ := bnd H
      refine Tr.call0 (r := (.bool y11)) (wn rfl) rfl Try.call113 (evl_cons rfl evl_nil) (fun W hW => F_plot_IsName_ok N xF_panel_checkKinds_L1.Name y11 hy11) ?_
      refine Tr.val (wn rfl) rfl (fun _ _ h1 h2 => run_not (h1.ev rfl)) ?_
      refine Tr.val (wn rfl) rfl (fun _ _ h1 h2 => run_assign (h1.ev rfl)) ?_
      refine Tr.nil (Tr.normThen ?_)
      refine Tr.cond rfl H (fun H => ?_) (fun H => ?_)
      · refine Tr.seq ?_
        refine Tr.region ?_
        refine Tr.val (wn rfl) rfl (fun _ _ h1 h2 => run_assign (h1.ev rfl)) ?_
        refine Tr.nil (Tr.normThen ?_)
        refine Tr.ret (Tr.retBlock (Tr.retBlock (Tr.retThen (Tr.retThen (Tr.retBlock (Tr.retThen ?_))))))
        obtain rfl := Option.some.inj H
        exact Tr.out (m := [(.int .i64 5)]) [] (res_tmp rfl res_nil) (fun W hW => ⟨rfl, hW.below⟩)
      · refine Tr.seq ?_
        refine Tr.region ?_
        refine Tr.val (wn rfl) rfl (fun _ _ h1 h2 => run_fieldAddr fo_82_1 (h1.ev rfl)) ?_
        refine Tr.val (wn rfl) rfl (fun _ _ h1 h2 => run_load1 ag_3 (h1.ev rfl) (rdb h2 (vs := [(.string xF_panel_checkKinds_L1.Name), (.int .i64 xF_panel_checkKinds_L1.W), (.int .i64 xF_panel_checkKinds_L1.H)]) (k := 2) rfl 1) rfl) ?_
        obtain ⟨y12, hy12, H⟩ := bnd H
        refine Tr.call0 (r := (.bool y12)) (wn rfl) rfl Try.call46 (evl_cons rfl (evl_cons rfl (evl_cons rfl evl_nil))) (fun W hW => F_panel_within_ok xF_panel_checkKinds_L1.W 1 1000000 y12 hy12) ?_
        refine Tr.val (wn rfl) rfl (fun _ _ h1 h2 => run_not (h1.ev rfl)) ?_
        refine Tr.val (wn rfl) rfl (fun _ _ h1 h2 => run_move (h1.ev rfl)) ?_
        obtain ⟨g14, hg14, H⟩ := bnd H
        refine Tr.mid (σ := Unit) 5 (fun _ => True) (fun _ => [(0, (.slice Ap0_0 (p0).length cp0_0)), (3, (.int .i64 (iF_panel_checkKinds_L1 : Int))), (4, (.pointer (some ⟨b2, 0, none⟩))), (8, (.slice Ap0_0 (p0).length cp0_0)), (9, (.int .i64 (p0.length : Int))), (10, (.int .i64 (iF_panel_checkKinds_L1 : Int))), (30, (.bool g14))]) (fun _ => [(2, bx b2 #[(.string xF_panel_checkKinds_L1.Name), (.int .i64 xF_panel_checkKinds_L1.W), (.int .i64 xF_panel_checkKinds_L1.H)] 82)]) ?_ ?_
        · cases hg18 : (!y12)
          · rw [hg18] at hg14
            rw [if_neg (by decide)] at hg14
            have H := hg14
            refine Tr.val (wg rfl rfl rfl) rfl (fun _ _ h1 h2 => run_fieldAddr fo_82_2 (h1.ev rfl)) ?_
            refine Tr.val (wg rfl rfl rfl) rfl (fun _ _ h1 h2 => run_load1 ag_3 (h1.ev rfl) (rdb h2 (vs := [(.string xF_panel_checkKinds_L1.Name), (.int .i64 xF_panel_checkKinds_L1.W), (.int .i64 xF_panel_checkKinds_L1.H)]) (k := 2) rfl 2) rfl) ?_
            obtain ⟨y15, hy15, H⟩ := bnd H
            refine Tr.call0 (r := (.bool y15)) (wg rfl rfl rfl) rfl Try.call46 (evl_cons rfl (evl_cons rfl (evl_cons rfl evl_nil))) (fun W hW => F_panel_within_ok xF_panel_checkKinds_L1.H 1 1000000 y15 hy15) ?_
            refine Tr.val (wg rfl rfl rfl) rfl (fun _ _ h1 h2 => run_not (h1.ev rfl)) ?_
            refine Tr.val (wn rfl) rfl (fun _ _ h1 h2 => run_pickF (h1.ev rfl) (h1.ev rfl)) ?_
            obtain rfl := Option.some.inj H
            exact Tr.nil (Tr.backThen () trivial (.cons rfl (.cons rfl (.cons rfl (.cons rfl (.cons rfl (.cons rfl (.cons rfl .nil))))))) (.cons rfl .nil))
          · rw [hg18] at hg14
            rw [if_pos rfl] at hg14
            have H := hg14
            obtain rfl := Option.some.inj H
            refine Tr.pass rfl rfl rfl rfl rfl (by decide) ?_
            refine Tr.pass rfl rfl rfl rfl rfl (by decide) ?_
            refine Tr.pass rfl rfl rfl rfl rfl (by decide) ?_
            refine Tr.pass rfl rfl rfl rfl rfl (by decide) ?_
            refine Tr.val (wn rfl) rfl (fun _ _ h1 h2 => run_pickT (h1.ev rfl) (h1.ev rfl)) ?_
            exact Tr.nil (Tr.backThen () trivial (.cons rfl (.cons rfl (.cons rfl (.cons rfl (.cons rfl (.cons rfl (.cons rfl .nil))))))) (.cons rfl .nil))
        · intro _ _
          show Tr _ _ (LF [(0, (.slice Ap0_0 (p0).length cp0_0)), (3, (.int .i64 (iF_panel_checkKinds_L1 : Int))), (4, (.pointer (some ⟨b2, 0, none⟩))), (8, (.slice Ap0_0 (p0).length cp0_0)), (9, (.int .i64 (p0.length : Int))), (10, (.int .i64 (iF_panel_checkKinds_L1 : Int))), (30, (.bool g14))]) (LE [(2, bx b2 #[(.string xF_panel_checkKinds_L1.Name), (.int .i64 xF_panel_checkKinds_L1.W), (.int .i64 xF_panel_checkKinds_L1.H)] 82)]) _
          refine Tr.val (wn rfl) rfl (fun _ _ h1 h2 => run_assign (h1.ev rfl)) ?_
          refine Tr.nil (Tr.normThen ?_)
          refine Tr.cond rfl H (fun H => ?_) (fun H => ?_)
          · refine Tr.seq ?_
            refine Tr.region ?_
            refine Tr.val (wn rfl) rfl (fun _ _ h1 h2 => run_assign (h1.ev rfl)) ?_
            refine Tr.nil (Tr.normThen ?_)
            refine Tr.ret (Tr.retBlock (Tr.retBlock (Tr.retThen (Tr.retThen (Tr.retBlock (Tr.retThen ?_))))))
            obtain rfl := Option.some.inj H
            exact Tr.out (m := [(.int .i64 1)]) [] (res_tmp rfl res_nil) (fun W hW => ⟨rfl, hW.below⟩)
          · refine Tr.seq ?_
            refine Tr.draw (by kernel_rfl) (by kernel_rfl) ?_
            refine Tq.val (wn rfl) rfl (fun _ _ h1 h2 => run_move (h1.ev rfl)) ?_
            refine Tq.val (wn rfl) rfl (fun _ _ h1 h2 => run_gtr (h1.ev rfl) (h1.ev rfl)) ?_
            refine Tq.val (wn rfl) rfl (fun _ _ h1 h2 => run_move (h1.ev rfl)) ?_
            obtain ⟨g17, hg17, H⟩ := bnd H
            refine Tq.mid 10 [(0, (.slice Ap0_0 (p0).length cp0_0)), (8, (.slice Ap0_0 (p0).length cp0_0)), (9, (.int .i64 (p0.length : Int))), (10, (.int .i64 (iF_panel_checkKinds_L1 : Int))), (44, (.bool g17))] ?_ ?_
            · cases hg18 : (decide (0 < (iF_panel_checkKinds_L1 : Int)))
              · rw [hg18] at hg17
                rw [if_neg (by decide)] at hg17
                have H := hg17
                obtain rfl := Option.some.inj H
                refine Tq.pass rfl rfl rfl rfl rfl (by decide) ?_
                refine Tq.pass rfl rfl rfl rfl rfl (by decide) ?_
                refine Tq.pass rfl rfl rfl rfl rfl (by decide) ?_
                refine Tq.pass rfl rfl rfl rfl rfl (by decide) ?_
                refine Tq.pass rfl rfl rfl rfl rfl (by decide) ?_
                refine Tq.pass rfl rfl rfl rfl rfl (by decide) ?_
                refine Tq.pass rfl rfl rfl rfl rfl (by decide) ?_
                refine Tq.pass rfl rfl rfl rfl rfl (by decide) ?_
                refine Tq.pass rfl rfl rfl rfl rfl (by decide) ?_
                refine Tq.val (wn rfl) rfl (fun _ _ h1 h2 => run_pickF (h1.ev rfl) (h1.ev rfl)) ?_
                exact Tq.fin (.cons rfl (.cons rfl (.cons rfl (.cons rfl (.cons rfl .nil)))))
              · rw [hg18] at hg17
                rw [if_pos rfl] at hg17
                have H := hg17
                refine Tq.val (wg rfl rfl rfl) rfl (fun _ _ h1 h2 => run_fieldAddr fo_82_0 (h1.ev rfl)) ?_
                refine Tq.val (wg rfl rfl rfl) rfl (fun _ _ h1 h2 => run_load1 ag_9 (h1.ev rfl) (rdb h2 (vs := [(.string xF_panel_checkKinds_L1.Name), (.int .i64 xF_panel_checkKinds_L1.W), (.int .i64 xF_panel_checkKinds_L1.H)]) (k := 2) rfl 0) rfl) ?_
                refine Tq.val (wg rfl rfl rfl) rfl (fun _ _ h1 h2 => run_move (h1.ev rfl)) ?_
                refine Tq.val (wg rfl rfl rfl) rfl (fun _ _ h1 h2 => run_move (h1.ev rfl)) ?_
                refine Tq.val (wg rfl rfl rfl) rfl (fun _ _ h1 h2 => run_sub (h1.ev rfl) (h1.ev rfl)) ?_
                obtain ⟨x18, hx18, H⟩ := bnd H
                obtain ⟨hx180, hx181, hx182⟩ := idx_some hx18
                refine Tq.val (wg rfl rfl rfl) rfl (fun _ _ h1 h2 => run_indexAddr el_22 (h1.ev rfl) hp0_0.form (h1.ev rfl) hx180 hx181) ?_
                refine Tq.val (wg rfl rfl rfl) rfl (fun _ _ h1 h2 => run_fieldAddr fo_82_0 (h1.ev rfl)) ?_
                refine Tq.val (wg rfl rfl rfl) rfl (fun _ _ h1 h2 => run_load1 ag_9 (h1.ev rfl) (CellsAt.drop (Rd.arg hp0_0 hx182 _ h2) 0) rfl) ?_
                refine Tq.val (wg rfl rfl rfl) rfl (fun _ _ h1 h2 => run_leqS (h1.ev rfl) (h1.ev rfl)) ?_
                refine Tq.val (wn rfl) rfl (fun _ _ h1 h2 => run_pickT (h1.ev rfl) (h1.ev rfl)) ?_
                obtain rfl := Option.some.inj H
                exact Tq.fin (.cons rfl (.cons rfl (.cons rfl (.cons rfl (.cons rfl .nil)))))
            · refine Tq.val (wn rfl) rfl (fun _ _ h1 h2 => run_assign (h1.ev rfl)) ?_
              refine Tq.nil (Tr.normThen ?_)
              refine Tr.cond rfl H (fun H => ?_) (fun H => ?_)
              · refine Tr.seq ?_
                refine Tr.region ?_
                refine Tr.val (wn rfl) rfl (fun _ _ h1 h2 => run_assign (h1.ev rfl)) ?_
                refine Tr.nil (Tr.normThen ?_)
                refine Tr.ret (Tr.retBlock (Tr.retBlock (Tr.retThen (Tr.retThen (Tr.retBlock (Tr.retThen ?_))))))
                obtain rfl := Option.some.inj H
                exact Tr.out (m := [(.int .i64 8)]) [] (res_tmp rfl res_nil) (fun W hW => ⟨rfl, hW.below⟩)
              · refine Tr.skip (Tr.normBlock (Tr.normBlock (Tr.normThen ?_)))
                refine Tr.region ?_
                refine Tr.val (wn rfl) rfl (fun _ _ h1 h2 => run_add (h1.ev rfl) (h1.ev rfl)) ?_
                refine Tr.val (wn rfl) rfl (fun _ _ h1 h2 => run_move (h1.ev rfl)) ?_
                refine Tr.nil ?_
                exact Tr.backThen (restF_panel_checkKinds_L1, (iF_panel_checkKinds_L1 + 1)) ⟨rfl, range_tl hdF_panel_checkKinds_L1, range_lt hdF_panel_checkKinds_L1, H⟩ (.cons rfl (.cons rfl (.cons rfl (.cons (congrArg (fun z => some (Value.int .i64 z)) (range_up hdF_panel_checkKinds_L1 hp0_0.form)) .nil)))) .nil

theorem F_panel_kindAt_1_ok {w : World} (p0 : TBoardKind) (q0 : ByteArray) (bq0 : Nat) (hc0 : CellsAt w bq0 0 [(.string q0)]) (hb0 : bq0 < w.heap.size) (r : Bool) (H : F_panel_kindAt_1 p0 q0 = some r) : Calls Try.prog 93 [(.agg #[(.string p0.Name), (.int .i64 p0.W), (.int .i64 p0.H)]), (.pointer (some ⟨bq0, 0, none⟩))].toArray w fun e W' => e = .returned (.bool r) ∧ Below w.heap.size w W' := by
  unfold F_panel_kindAt_1 at H
  refine Tr.enter (n := 8) Try.func93 rfl rfl rfl ?_
  refine Tr.seq ?_
  refine Tr.region ?_
  refine Tr.box 1 (cs := [(.string p0.Name), (.int .i64 p0.W), (.int .i64 p0.H)]) (wn rfl) rfl rfl rfl fun b1 => ?_
  refine Tr.val (wn rfl) rfl (fun _ _ h1 h2 => run_assign (h1.ev rfl)) ?_
  refine Tr.nil (Tr.normThen ?_)
  refine Tr.seq ?_
  refine Tr.region ?_
  refine Tr.val (wn rfl) rfl (fun _ _ h1 h2 => run_fieldAddr fo_82_0 (h1.ev rfl)) ?_
  refine Tr.val (wn rfl) rfl (fun _ _ h1 h2 => run_load1 ag_9 (h1.ev rfl) (rdb h2 (vs := [(.string p0.Name), (.int .i64 p0.W), (.int .i64 p0.H)]) (k := 1) rfl 0) rfl) ?_
  refine Tr.val (wn rfl) rfl (fun _ _ h1 h2 => run_load1 ag_9 (h1.ev rfl) (Rd.cap hc0 hb0 _ h2) rfl) ?_
  refine Tr.val (wn rfl) rfl (fun _ _ h1 h2 => run_eqlS (h1.ev rfl) (h1.ev rfl)) ?_
  refine Tr.val (wn rfl) rfl (fun _ _ h1 h2 => run_assign (h1.ev rfl)) ?_
  refine Tr.nil (Tr.normThen ?_)
  refine Tr.ret ?_
  obtain rfl := Option.some.inj H
  exact Tr.out (m := [(.bool (sEq p0.Name q0))]) [] (res_tmp rfl res_nil) (fun W hW => ⟨rfl, hW.below⟩)

theorem F_slices_IndexFunc_BoardKind_ok {w : World} (p0 : (List TBoardKind)) (Ap0_0 : Option Addr) (cp0_0 : Nat) (hp0_0 : Sl (lo w.heap.size) w fl_TBoardKind Ap0_0 cp0_0 p0) (p1 : TBoardKind → Option Bool) (fid1 : Nat) (cap1 : List Value) (hg1 : ∀ args W, (callFunc fid1 args).run Try.prog W = .ok (.enter fid1 args) W) (hf1 : ∀ (z0 : TBoardKind) (W' : World), Below w.heap.size w W' → ∀ y, p1 z0 = some y → Calls Try.prog fid1 (([(.agg #[(.string z0.Name), (.int .i64 z0.W), (.int .i64 z0.H)])] : List Value) ++ cap1).toArray W' fun e W'' => e = .returned (.bool y) ∧ Below W'.heap.size W' W'') (r : Int) (H : F_slices_IndexFunc_BoardKind p0 p1 = some r) : Calls Try.prog 92 [(.slice Ap0_0 (p0).length cp0_0), (.func (.func fid1) #[] cap1.toArray)].toArray w fun e W' => e = .returned (.int .i64 r) ∧ Below w.heap.size w W' := by
  unfold F_slices_IndexFunc_BoardKind at H
  refine Tr.enter (n := 19) Try.func92 rfl rfl rfl ?_
  refine Tr.seq ?_
  refine Tr.region ?_
  refine Tr.val (wn rfl) rfl (fun _ _ h1 h2 => run_assign (h1.ev rfl)) ?_
  refine Tr.nil (Tr.normThen ?_)
  refine Tr.seq ?_
  refine Tr.seq ?_
  refine Tr.region ?_
  refine Tr.val (wn rfl) rfl (fun _ _ h1 h2 => run_move (h1.ev rfl)) ?_
  refine Tr.val (wn rfl) rfl (fun _ _ h1 h2 => run_len un_22 (h1.ev rfl)) ?_
  refine Tr.val (wn rfl) rfl (fun _ _ h1 h2 => run_move (h1.ev rfl)) ?_
  refine Tr.nil (Tr.normThen ?_)
  refine Tr.block ?_
  refine Tr.loop (σ := (List TBoardKind) × Nat) (fun m s => m = s.1.length + 1 ∧ s.1 = List.drop s.2 p0 ∧ s.2 ≤ p0.length ∧ F_slices_IndexFunc_BoardKind_L1 p1 s.1 s.2 = some r) (fun s => [(0, (.slice Ap0_0 (p0).length cp0_0)), (1, (.func (.func fid1) #[] cap1.toArray)), (7, (.int .i64 (p0.length : Int))), (8, (.int .i64 (s.2 : Int)))]) (fun s => []) (p0.length + 1) (p0, 0) ⟨rfl, rfl, Nat.zero_le _, H⟩ (.cons rfl (.cons rfl (.cons rfl (.cons rfl .nil)))) .nil (fun _ h => absurd h.1 (by simp)) ?_
  intro m s hs
  obtain ⟨restF_slices_IndexFunc_BoardKind_L1, iF_slices_IndexFunc_BoardKind_L1⟩ := s
  obtain ⟨hmF_slices_IndexFunc_BoardKind_L1, hdF_slices_IndexFunc_BoardKind_L1, hiF_slices_IndexFunc_BoardKind_L1, H⟩ := hs
  replace hdF_slices_IndexFunc_BoardKind_L1 : restF_slices_IndexFunc_BoardKind_L1 = List.drop iF_slices_IndexFunc_BoardKind_L1 p0 := hdF_slices_IndexFunc_BoardKind_L1
  replace H : F_slices_IndexFunc_BoardKind_L1 p1 restF_slices_IndexFunc_BoardKind_L1 iF_slices_IndexFunc_BoardKind_L1 = some r := H
  replace hmF_slices_IndexFunc_BoardKind_L1 : m + 1 = restF_slices_IndexFunc_BoardKind_L1.length + 1 := hmF_slices_IndexFunc_BoardKind_L1
  obtain rfl : m = restF_slices_IndexFunc_BoardKind_L1.length := by omega
  clear hmF_slices_IndexFunc_BoardKind_L1
  show Tr _ _ (LF [(0, (.slice Ap0_0 (p0).length cp0_0)), (1, (.func (.func fid1) #[] cap1.toArray)), (7, (.int .i64 (p0.length : Int))), (8, (.int .i64 (iF_slices_IndexFunc_BoardKind_L1 : Int)))]) (LE []) _
  cases restF_slices_IndexFunc_BoardKind_L1 with
  | nil =>
    rw [F_slices_IndexFunc_BoardKind_L1.eq_1] at H
    refine Tr.seq ?_
    refine Tr.region ?_
    refine Tr.val (wn rfl) rfl (fun _ _ h1 h2 => run_lss (h1.ev rfl) (h1.ev rfl)) ?_
    refine Tr.nil (Tr.normThen ?_)
    refine Tr.seq ?_
    refine Tr.condF rfl (range_nil hdF_slices_IndexFunc_BoardKind_L1) ?_
    refine Tr.exit (Tr.exitThen (Tr.exitThen (Tr.exitBlock (Tr.normThen ?_))))
    refine Tr.seq ?_
    refine Tr.region ?_
    refine Tr.val (wn rfl) rfl (fun _ _ h1 h2 => run_assign (h1.ev rfl)) ?_
    refine Tr.nil (Tr.normThen ?_)
    refine Tr.ret ?_
    obtain rfl := Option.some.inj H
    exact Tr.out (m := [(.int .i64 (-1))]) [] (res_tmp rfl res_nil) (fun W hW => ⟨rfl, hW.below⟩)
  | cons xF_slices_IndexFunc_BoardKind_L1 restF_slices_IndexFunc_BoardKind_L1 =>
    rw [F_slices_IndexFunc_BoardKind_L1.eq_2] at H
    refine Tr.seq ?_
    refine Tr.region ?_
    refine Tr.val (wn rfl) rfl (fun _ _ h1 h2 => run_lss (h1.ev rfl) (h1.ev rfl)) ?_
    refine Tr.nil (Tr.normThen ?_)
    refine Tr.seq ?_
    refine Tr.condT rfl (range_on hdF_slices_IndexFunc_BoardKind_L1) ?_
    refine Tr.skip (Tr.normThen ?_)
    refine Tr.seq ?_
    refine Tr.block ?_
    refine Tr.seq ?_
    refine Tr.region ?_
    refine Tr.val (wn rfl) rfl (fun _ _ h1 h2 => run_move (h1.ev rfl)) ?_
    refine Tr.val (wn rfl) rfl (fun _ _ h1 h2 => run_assign (h1.ev rfl)) ?_
    refine Tr.nil (Tr.normThen ?_)
    refine Tr.seq ?_
    refine Tr.region ?_
    refine Tr.val (wn rfl) rfl (fun _ _ h1 h2 => run_move (h1.ev rfl)) ?_
    refine Tr.val (wn rfl) rfl (fun _ _ h1 h2 => run_move (h1.ev rfl)) ?_
    refine Tr.val (wn rfl) rfl (fun _ _ h1 h2 => run_move (h1.ev rfl)) ?_
    refine Tr.val (wn rfl) rfl (fun _ _ h1 h2 => run_indexAddr el_22 (h1.ev rfl) hp0_0.form (h1.ev rfl) (Int.natCast_nonneg _) (range_lt hdF_slices_IndexFunc_BoardKind_L1)) ?_
    refine Tr.val (wn rfl) rfl (fun _ _ h1 h2 => run_loadN (cs := [(.string xF_slices_IndexFunc_BoardKind_L1.Name), (.int .i64 xF_slices_IndexFunc_BoardKind_L1.W), (.int .i64 xF_slices_IndexFunc_BoardKind_L1.H)]) ag_82 sz_82 (h1.ev rfl) (CellsAt.take (Rd.arg hp0_0 (range_at hdF_slices_IndexFunc_BoardKind_L1) _ h2) 3) rfl) ?_
    obtain ⟨y4, hy4, H⟩ := bnd H
    refine Tr.callF (r := (.bool y4)) (wn rfl) rfl rfl hg1 (evl_cons rfl evl_nil) (fun W hW => hf1 xF_slices_IndexFunc_BoardKind_L1 W hW.below _ hy4) ?_
    refine Tr.nil (Tr.normThen ?_)
    refine Tr.cond rfl H (fun H => ?_) (fun H => ?_)
    · refine Tr.seq ?_
      refine Tr.region ?_
      refine Tr.val (wn rfl) rfl (fun _ _ h1 h2 => run_move (h1.ev rfl)) ?_
      refine Tr.val (wn rfl) rfl (fun _ _ h1 h2 => run_assign (h1.ev rfl)) ?_
      refine Tr.nil (Tr.normThen ?_)
      refine Tr.ret (Tr.retBlock (Tr.retThen (Tr.retThen (Tr.retBlock (Tr.retThen ?_)))))
      obtain rfl := Option.some.inj H
      exact Tr.out (m := [(.int .i64 (iF_slices_IndexFunc_BoardKind_L1 : Int))]) [] (res_tmp rfl res_nil) (fun W hW => ⟨rfl, hW.below⟩)
    · refine Tr.skip (Tr.normBlock (Tr.normThen ?_))
      refine Tr.region ?_
      refine Tr.val (wn rfl) rfl (fun _ _ h1 h2 => run_add (h1.ev rfl) (h1.ev rfl)) ?_
      refine Tr.val (wn rfl) rfl (fun _ _ h1 h2 => run_move (h1.ev rfl)) ?_
      refine Tr.nil ?_
      exact Tr.backThen (restF_slices_IndexFunc_BoardKind_L1, (iF_slices_IndexFunc_BoardKind_L1 + 1)) ⟨rfl, range_tl hdF_slices_IndexFunc_BoardKind_L1, range_lt hdF_slices_IndexFunc_BoardKind_L1, H⟩ (.cons rfl (.cons rfl (.cons rfl (.cons (congrArg (fun z => some (Value.int .i64 z)) (range_up hdF_slices_IndexFunc_BoardKind_L1 hp0_0.form)) .nil)))) .nil

theorem F_panel_kindAt_ok {w : World} (p0 : TPanel) (Ap0_0 : Option Addr) (cp0_0 : Nat) (hp0_0 : Sl (lo w.heap.size) w fl_TBoardKind Ap0_0 cp0_0 p0.Kinds) (Ap0_1 : Option Addr) (cp0_1 : Nat) (hp0_1 : Sl (lo w.heap.size) w fl_TSlot Ap0_1 cp0_1 p0.Slots) (Ap0_2 : Option Addr) (cp0_2 : Nat) (hp0_2 : Sl (lo w.heap.size) w fl_TPoint Ap0_2 cp0_2 p0.Marks) (p1 : ByteArray) (r : Int) (H : F_panel_kindAt p0 p1 = some r) : Calls Try.prog 45 [(.agg #[(.int .i64 p0.W), (.int .i64 p0.H), (.int .i64 p0.Rail), (.int .i64 p0.Gap), (.slice Ap0_0 (p0.Kinds).length cp0_0), (.slice Ap0_1 (p0.Slots).length cp0_1), (.slice Ap0_2 (p0.Marks).length cp0_2)]), (.string p1)].toArray w fun e W' => e = .returned (.int .i64 r) ∧ Below w.heap.size w W' := by
  unfold F_panel_kindAt at H
  refine Tr.enter (n := 9) Try.func45 rfl rfl rfl ?_
  refine Tr.seq ?_
  refine Tr.region ?_
  refine Tr.box 1 (cs := [(.int .i64 p0.W), (.int .i64 p0.H), (.int .i64 p0.Rail), (.int .i64 p0.Gap), (.slice Ap0_0 (p0.Kinds).length cp0_0), (.slice Ap0_1 (p0.Slots).length cp0_1), (.slice Ap0_2 (p0.Marks).length cp0_2)]) (wn rfl) rfl rfl rfl fun b1 => ?_
  refine Tr.box 2 (cs := [(.string p1)]) (wn rfl) rfl rfl rfl fun b2 => ?_
  refine Tr.val (wn rfl) rfl (fun _ _ h1 h2 => run_assign (h1.ev rfl)) ?_
  refine Tr.nil (Tr.normThen ?_)
  refine Tr.seq ?_
  refine Tr.region ?_
  refine Tr.val (wn rfl) rfl (fun _ _ h1 h2 => run_fieldAddr fo_26_4 (h1.ev rfl)) ?_
  refine Tr.val (wn rfl) rfl (fun _ _ h1 h2 => run_load1 ag_22 (h1.ev rfl) (rdb h2 (vs := [(.int .i64 p0.W), (.int .i64 p0.H), (.int .i64 p0.Rail), (.int .i64 p0.Gap), (.slice Ap0_0 (p0.Kinds).length cp0_0), (.slice Ap0_1 (p0.Slots).length cp0_1), (.slice Ap0_2 (p0.Marks).length cp0_2)]) (k := 1) rfl 4) rfl) ?_
  refine Tr.mkFunc (vs := [(.pointer (some ⟨b2, 0, none⟩))]) (wn rfl) rfl (evl_cons rfl evl_nil) ?_
  obtain ⟨y1, hy1, H⟩ := bnd H
  refine Tr.call0 (r := (.int .i64 y1)) (wn rfl) rfl Try.call92 (evl_cons rfl (evl_cons rfl evl_nil)) (fun W hW => F_slices_IndexFunc_BoardKind_ok p0.Kinds Ap0_0 cp0_0 (Sl.up hp0_0 hW) (fun z0 => F_panel_kindAt_1 z0 p1) 93 [(.pointer (some ⟨b2, 0, none⟩))] Try.call93 (fun z0 W' hb y hy => F_panel_kindAt_1_ok z0 p1 b2 (hW.cap (k := 2) rfl hb) (hW.capLt (k := 2) rfl hb) y hy) y1 hy1) ?_
  refine Tr.val (wn rfl) rfl (fun _ _ h1 h2 => run_assign (h1.ev rfl)) ?_
  refine Tr.nil (Tr.normThen ?_)
  refine Tr.ret ?_
  obtain rfl := Option.some.inj H
  exact Tr.out (m := [(.int .i64 y1)]) [] (res_tmp rfl res_nil) (fun W hW => ⟨rfl, hW.below⟩)

theorem F_panel_sizeOf_ok {w : World} (p0 : TBoardKind) (p1 : Int) (r : (Int × Int)) (H : F_panel_sizeOf p0 p1 = some r) : Calls Try.prog 59 [(.agg #[(.string p0.Name), (.int .i64 p0.W), (.int .i64 p0.H)]), (.int .i64 p1)].toArray w fun e W' => e = .returned (.tuple #[(.int .i64 r.1), (.int .i64 r.2)]) ∧ Below w.heap.size w W' := by
  unfold F_panel_sizeOf at H
  refine Tr.enter (n := 17) Try.func59 rfl rfl rfl ?_
  refine Tr.seq ?_
  refine Tr.region ?_
  refine Tr.box 1 (cs := [(.string p0.Name), (.int .i64 p0.W), (.int .i64 p0.H)]) (wn rfl) rfl rfl rfl fun b1 => ?_
  refine Tr.val (wn rfl) rfl (fun _ _ h1 h2 => run_assign (h1.ev rfl)) ?_
  refine Tr.val (wn rfl) rfl (fun _ _ h1 h2 => run_assign (h1.ev rfl)) ?_
  refine Tr.nil (Tr.normThen ?_)
  refine Tr.seq ?_
  refine Tr.seq ?_
  refine Tr.region ?_
  refine Tr.val (wn rfl) rfl (fun _ _ h1 h2 => run_move (h1.ev rfl)) ?_
  refine Tr.val (wn rfl) rfl (fun _ _ h1 h2 => run_rem (h1.ev rfl) (h1.ev rfl) (by decide)) ?_
  refine Tr.val (wn rfl) rfl (fun _ _ h1 h2 => run_eql (h1.ev rfl) (h1.ev rfl)) ?_
  refine Tr.nil (Tr.normThen ?_)
  refine Tr.cond rfl H (fun H => ?_) (fun H => ?_)
  · refine Tr.seq ?_
    refine Tr.draw (by kernel_rfl) (by kernel_rfl) ?_
    refine Tq.val (wn rfl) rfl (fun _ _ h1 h2 => run_fieldAddr fo_82_2 (h1.ev rfl)) ?_
    refine Tq.val (wn rfl) rfl (fun _ _ h1 h2 => run_load1 ag_3 (h1.ev rfl) (rdb h2 (vs := [(.string p0.Name), (.int .i64 p0.W), (.int .i64 p0.H)]) (k := 1) rfl 2) rfl) ?_
    refine Tq.val (wn rfl) rfl (fun _ _ h1 h2 => run_fieldAddr fo_82_1 (h1.ev rfl)) ?_
    refine Tq.val (wn rfl) rfl (fun _ _ h1 h2 => run_load1 ag_3 (h1.ev rfl) (rdb h2 (vs := [(.string p0.Name), (.int .i64 p0.W), (.int .i64 p0.H)]) (k := 1) rfl 1) rfl) ?_
    refine Tq.val (wn rfl) rfl (fun _ _ h1 h2 => run_assign (h1.ev rfl)) ?_
    refine Tq.val (wn rfl) rfl (fun _ _ h1 h2 => run_assign (h1.ev rfl)) ?_
    refine Tq.nil (Tr.normThen ?_)
    refine Tr.ret (Tr.retThen ?_)
    obtain rfl := Option.some.inj H
    exact Tr.out (m := [(.int .i64 p0.H), (.int .i64 p0.W)]) [] (res_tmp rfl (res_tmp rfl res_nil)) (fun W hW => ⟨rfl, hW.below⟩)
  · refine Tr.skip (Tr.normThen ?_)
    refine Tr.seq ?_
    refine Tr.draw (by kernel_rfl) (by kernel_rfl) ?_
    refine Tq.val (wn rfl) rfl (fun _ _ h1 h2 => run_fieldAddr fo_82_1 (h1.ev rfl)) ?_
    refine Tq.val (wn rfl) rfl (fun _ _ h1 h2 => run_load1 ag_3 (h1.ev rfl) (rdb h2 (vs := [(.string p0.Name), (.int .i64 p0.W), (.int .i64 p0.H)]) (k := 1) rfl 1) rfl) ?_
    refine Tq.val (wn rfl) rfl (fun _ _ h1 h2 => run_fieldAddr fo_82_2 (h1.ev rfl)) ?_
    refine Tq.val (wn rfl) rfl (fun _ _ h1 h2 => run_load1 ag_3 (h1.ev rfl) (rdb h2 (vs := [(.string p0.Name), (.int .i64 p0.W), (.int .i64 p0.H)]) (k := 1) rfl 2) rfl) ?_
    refine Tq.val (wn rfl) rfl (fun _ _ h1 h2 => run_assign (h1.ev rfl)) ?_
    refine Tq.val (wn rfl) rfl (fun _ _ h1 h2 => run_assign (h1.ev rfl)) ?_
    refine Tq.nil (Tr.normThen ?_)
    refine Tr.ret ?_
    obtain rfl := Option.some.inj H
    exact Tr.out (m := [(.int .i64 p0.W), (.int .i64 p0.H)]) [] (res_tmp rfl (res_tmp rfl res_nil)) (fun W hW => ⟨rfl, hW.below⟩)

theorem F_panel_cellOf_ok {w : World} (p0 : TPanel) (Ap0_0 : Option Addr) (cp0_0 : Nat) (hp0_0 : Sl (lo w.heap.size) w fl_TBoardKind Ap0_0 cp0_0 p0.Kinds) (Ap0_1 : Option Addr) (cp0_1 : Nat) (hp0_1 : Sl (lo w.heap.size) w fl_TSlot Ap0_1 cp0_1 p0.Slots) (Ap0_2 : Option Addr) (cp0_2 : Nat) (hp0_2 : Sl (lo w.heap.size) w fl_TPoint Ap0_2 cp0_2 p0.Marks) (p1 : TSlot) (r : TRect) (H : F_panel_cellOf p0 p1 = some r) : Calls Try.prog 114 [(.agg #[(.int .i64 p0.W), (.int .i64 p0.H), (.int .i64 p0.Rail), (.int .i64 p0.Gap), (.slice Ap0_0 (p0.Kinds).length cp0_0), (.slice Ap0_1 (p0.Slots).length cp0_1), (.slice Ap0_2 (p0.Marks).length cp0_2)]), (.agg #[(.string p1.Board), (.int .i64 p1.Quarters), (.int .i64 p1.At.X), (.int .i64 p1.At.Y)])].toArray w fun e W' => e = .returned (.agg #[(.int .i64 r.X0), (.int .i64 r.Y0), (.int .i64 r.X1), (.int .i64 r.Y1)]) ∧ Below w.heap.size w W' := by
  unfold F_panel_cellOf at H
  refine Tr.enter (n := 38) Try.func114 rfl rfl rfl ?_
  refine Tr.seq ?_
  refine Tr.region ?_
  refine Tr.box 1 (cs := [(.int .i64 p0.W), (.int .i64 p0.H), (.int .i64 p0.Rail), (.int .i64 p0.Gap), (.slice Ap0_0 (p0.Kinds).length cp0_0), (.slice Ap0_1 (p0.Slots).length cp0_1), (.slice Ap0_2 (p0.Marks).length cp0_2)]) (wn rfl) rfl rfl rfl fun b1 => ?_
  refine Tr.box 2 (cs := [(.string p1.Board), (.int .i64 p1.Quarters), (.int .i64 p1.At.X), (.int .i64 p1.At.Y)]) (wn rfl) rfl rfl rfl fun b2 => ?_
  refine Tr.alloc 3 (wn rfl) rfl ze_42 fun b3 => ?_
  refine Tr.nil (Tr.normThen ?_)
  refine Tr.seq ?_
  refine Tr.draw (by kernel_rfl) (by kernel_rfl) ?_
  refine Tq.val (wn rfl) rfl (fun _ _ h1 h2 => run_fieldAddr fo_26_4 (h1.ev rfl)) ?_
  refine Tq.val (wn rfl) rfl (fun _ _ h1 h2 => run_load1 ag_22 (h1.ev rfl) (rdb h2 (vs := [(.int .i64 p0.W), (.int .i64 p0.H), (.int .i64 p0.Rail), (.int .i64 p0.Gap), (.slice Ap0_0 (p0.Kinds).length cp0_0), (.slice Ap0_1 (p0.Slots).length cp0_1), (.slice Ap0_2 (p0.Marks).length cp0_2)]) (k := 1) rfl 4) rfl) ?_
  refine Tq.val (wn rfl) rfl (fun _ _ h1 h2 => run_loadN (cs := [(.int .i64 p0.W), (.int .i64 p0.H), (.int .i64 p0.Rail), (.int .i64 p0.Gap), (.slice Ap0_0 (p0.Kinds).length cp0_0), (.slice Ap0_1 (p0.Slots).length cp0_1), (.slice Ap0_2 (p0.Marks).length cp0_2)]) ag_26 sz_26 (h1.ev rfl) (CellsAt.take (rdb h2 (vs := [(.int .i64 p0.W), (.int .i64 p0.H), (.int .i64 p0.Rail), (.int .i64 p0.Gap), (.slice Ap0_0 (p0.Kinds).length cp0_0), (.slice Ap0_1 (p0.Slots).length cp0_1), (.slice Ap0_2 (p0.Marks).length cp0_2)]) (k := 1) rfl 0) 7) rfl) ?_
  refine Tq.val (wn rfl) rfl (fun _ _ h1 h2 => run_fieldAddr fo_34_0 (h1.ev rfl)) ?_
  refine Tq.val (wn rfl) rfl (fun _ _ h1 h2 => run_load1 ag_9 (h1.ev rfl) (rdb h2 (vs := [(.string p1.Board), (.int .i64 p1.Quarters), (.int .i64 p1.At.X), (.int .i64 p1.At.Y)]) (k := 2) rfl 0) rfl) ?_
  obtain ⟨y1, hy1, H⟩ := bnd H
  refine Tq.call0 (r := (.int .i64 y1)) (wn rfl) rfl Try.call45 (evl_cons rfl (evl_cons rfl evl_nil)) (fun W hW => F_panel_kindAt_ok p0 Ap0_0 cp0_0 (Sl.up hp0_0 hW) Ap0_1 cp0_1 (Sl.up hp0_1 hW) Ap0_2 cp0_2 (Sl.up hp0_2 hW) p1.Board y1 hy1) ?_
  obtain ⟨x2, hx2, H⟩ := bnd H
  obtain ⟨hx20, hx21, hx22⟩ := idx_some hx2
  refine Tq.val (wn rfl) rfl (fun _ _ h1 h2 => run_indexAddr el_22 (h1.ev rfl) hp0_0.form (h1.ev rfl) hx20 hx21) ?_
  refine Tq.val (wn rfl) rfl (fun _ _ h1 h2 => run_loadN (cs := [(.string x2.Name), (.int .i64 x2.W), (.int .i64 x2.H)]) ag_82 sz_82 (h1.ev rfl) (CellsAt.take (Rd.arg hp0_0 hx22 _ h2) 3) rfl) ?_
  refine Tq.val (wn rfl) rfl (fun _ _ h1 h2 => run_fieldAddr fo_34_1 (h1.ev rfl)) ?_
  refine Tq.val (wn rfl) rfl (fun _ _ h1 h2 => run_load1 ag_3 (h1.ev rfl) (rdb h2 (vs := [(.string p1.Board), (.int .i64 p1.Quarters), (.int .i64 p1.At.X), (.int .i64 p1.At.Y)]) (k := 2) rfl 1) rfl) ?_
  obtain ⟨y3, hy3, H⟩ := bnd H
  refine Tq.call0 (r := (.tuple #[(.int .i64 y3.1), (.int .i64 y3.2)])) (wn rfl) rfl Try.call59 (evl_cons rfl (evl_cons rfl evl_nil)) (fun W hW => F_panel_sizeOf_ok x2 p1.Quarters y3 hy3) ?_
  refine Tq.val (wn rfl) rfl (fun _ _ h1 h2 => run_move (h1.ev rfl)) ?_
  refine Tq.val (wn rfl) rfl (fun _ _ h1 h2 => run_extract (h1.ev rfl) rfl) ?_
  refine Tq.val (wn rfl) rfl (fun _ _ h1 h2 => run_extract (h1.ev rfl) rfl) ?_
  refine Tq.val (wn rfl) rfl (fun _ _ h1 h2 => run_assign (h1.ev rfl)) ?_
  refine Tq.val (wn rfl) rfl (fun _ _ h1 h2 => run_assign (h1.ev rfl)) ?_
  refine Tq.nil (Tr.normThen ?_)
  refine Tr.seq ?_
  refine Tr.region ?_
  refine Tr.val (wn rfl) rfl (fun _ _ h1 h2 => run_fieldAddr fo_34_2 (h1.ev rfl)) ?_
  refine Tr.val (wn rfl) rfl (fun _ _ h1 h2 => run_fieldAddr fo_32_0 (h1.ev rfl)) ?_
  refine Tr.val (wn rfl) rfl (fun _ _ h1 h2 => run_load1 ag_3 (h1.ev rfl) (rdb h2 (vs := [(.string p1.Board), (.int .i64 p1.Quarters), (.int .i64 p1.At.X), (.int .i64 p1.At.Y)]) (k := 2) rfl 2) rfl) ?_
  refine Tr.val (wn rfl) rfl (fun _ _ h1 h2 => run_fieldAddr fo_34_2 (h1.ev rfl)) ?_
  refine Tr.val (wn rfl) rfl (fun _ _ h1 h2 => run_fieldAddr fo_32_1 (h1.ev rfl)) ?_
  refine Tr.val (wn rfl) rfl (fun _ _ h1 h2 => run_load1 ag_3 (h1.ev rfl) (rdb h2 (vs := [(.string p1.Board), (.int .i64 p1.Quarters), (.int .i64 p1.At.X), (.int .i64 p1.At.Y)]) (k := 2) rfl 3) rfl) ?_
  refine Tr.val (wn rfl) rfl (fun _ _ h1 h2 => run_fieldAddr fo_34_2 (h1.ev rfl)) ?_
  refine Tr.val (wn rfl) rfl (fun _ _ h1 h2 => run_fieldAddr fo_32_0 (h1.ev rfl)) ?_
  refine Tr.val (wn rfl) rfl (fun _ _ h1 h2 => run_load1 ag_3 (h1.ev rfl) (rdb h2 (vs := [(.string p1.Board), (.int .i64 p1.Quarters), (.int .i64 p1.At.X), (.int .i64 p1.At.Y)]) (k := 2) rfl 2) rfl) ?_
  refine Tr.val (wn rfl) rfl (fun _ _ h1 h2 => run_move (h1.ev rfl)) ?_
  refine Tr.val (wn rfl) rfl (fun _ _ h1 h2 => run_add (h1.ev rfl) (h1.ev rfl)) ?_
  refine Tr.val (wn rfl) rfl (fun _ _ h1 h2 => run_fieldAddr fo_34_2 (h1.ev rfl)) ?_
  refine Tr.val (wn rfl) rfl (fun _ _ h1 h2 => run_fieldAddr fo_32_1 (h1.ev rfl)) ?_
  refine Tr.val (wn rfl) rfl (fun _ _ h1 h2 => run_load1 ag_3 (h1.ev rfl) (rdb h2 (vs := [(.string p1.Board), (.int .i64 p1.Quarters), (.int .i64 p1.At.X), (.int .i64 p1.At.Y)]) (k := 2) rfl 3) rfl) ?_
  refine Tr.val (wn rfl) rfl (fun _ _ h1 h2 => run_move (h1.ev rfl)) ?_
  refine Tr.val (wn rfl) rfl (fun _ _ h1 h2 => run_add (h1.ev rfl) (h1.ev rfl)) ?_
  refine Tr.build (vs := [(0, (.int .i64 p1.At.X)), (1, (.int .i64 p1.At.Y)), (2, (.int .i64 (w64 (p1.At.X + y3.1)))), (3, (.int .i64 (w64 (p1.At.Y + y3.2))))]) (cs := [(.int .i64 p1.At.X), (.int .i64 p1.At.Y), (.int .i64 (w64 (p1.At.X + y3.1))), (.int .i64 (w64 (p1.At.Y + y3.2)))]) (wn rfl) rfl (evs_cons rfl (evs_cons rfl (evs_cons rfl (evs_cons rfl evs_nil)))) (by kernel_rfl) ?_
  refine Tr.store 3 (cs := [(.int .i64 p1.At.X), (.int .i64 p1.At.Y), (.int .i64 (w64 (p1.At.X + y3.1))), (.int .i64 (w64 (p1.At.Y + y3.2)))]) [(.int .i64 p1.At.X), (.int .i64 p1.At.Y), (.int .i64 (w64 (p1.At.X + y3.1))), (.int .i64 (w64 (p1.At.Y + y3.2)))] (wn rfl) rfl rfl rfl rfl sz_42 rfl rfl rfl ?_
  refine Tr.nil (Tr.normThen ?_)
  refine Tr.ret ?_
  obtain rfl := Option.some.inj H
  exact Tr.out (m := [(.agg #[(.int .i64 p1.At.X), (.int .i64 p1.At.Y), (.int .i64 (w64 (p1.At.X + y3.1))), (.int .i64 (w64 (p1.At.Y + y3.2)))])]) [3] (res_cell rfl rfl ag_42 sz_42 res_nil) (fun W hW => ⟨rfl, hW.below⟩)

theorem F_panel_isOn_ok {w : World} (p0 : TPanel) (Ap0_0 : Option Addr) (cp0_0 : Nat) (hp0_0 : Sl (lo w.heap.size) w fl_TBoardKind Ap0_0 cp0_0 p0.Kinds) (Ap0_1 : Option Addr) (cp0_1 : Nat) (hp0_1 : Sl (lo w.heap.size) w fl_TSlot Ap0_1 cp0_1 p0.Slots) (Ap0_2 : Option Addr) (cp0_2 : Nat) (hp0_2 : Sl (lo w.heap.size) w fl_TPoint Ap0_2 cp0_2 p0.Marks) (p1 : TRect) (r : Bool) (H : F_panel_isOn p0 p1 = some r) : Calls Try.prog 68 [(.agg #[(.int .i64 p0.W), (.int .i64 p0.H), (.int .i64 p0.Rail), (.int .i64 p0.Gap), (.slice Ap0_0 (p0.Kinds).length cp0_0), (.slice Ap0_1 (p0.Slots).length cp0_1), (.slice Ap0_2 (p0.Marks).length cp0_2)]), (.agg #[(.int .i64 p1.X0), (.int .i64 p1.Y0), (.int .i64 p1.X1), (.int .i64 p1.Y1)])].toArray w fun e W' => e = .returned (.bool r) ∧ Below w.heap.size w W' := by
  unfold F_panel_isOn at H
  refine Tr.enter (n := 51) Try.func68 rfl rfl rfl ?_
  refine Tr.seq ?_
  refine Tr.region ?_
  refine Tr.box 1 (cs := [(.int .i64 p0.W), (.int .i64 p0.H), (.int .i64 p0.Rail), (.int .i64 p0.Gap), (.slice Ap0_0 (p0.Kinds).length cp0_0), (.slice Ap0_1 (p0.Slots).length cp0_1), (.slice Ap0_2 (p0.Marks).length cp0_2)]) (wn rfl) rfl rfl rfl fun b1 => ?_
  refine Tr.box 2 (cs := [(.int .i64 p1.X0), (.int .i64 p1.Y0), (.int .i64 p1.X1), (.int .i64 p1.Y1)]) (wn rfl) rfl rfl rfl fun b2 => ?_
  refine Tr.val (wn rfl) rfl (fun _ _ h1 h2 => run_assign (h1.ev rfl)) ?_
  refine Tr.nil (Tr.normThen ?_)
  refine Tr.seq ?_
  refine Tr.region ?_
  refine Tr.val (wn rfl) rfl (fun _ _ h1 h2 => run_fieldAddr fo_42_0 (h1.ev rfl)) ?_
  refine Tr.val (wn rfl) rfl (fun _ _ h1 h2 => run_load1 ag_3 (h1.ev rfl) (rdb h2 (vs := [(.int .i64 p1.X0), (.int .i64 p1.Y0), (.int .i64 p1.X1), (.int .i64 p1.Y1)]) (k := 2) rfl 0) rfl) ?_
  refine Tr.val (wn rfl) rfl (fun _ _ h1 h2 => run_fieldAddr fo_26_2 (h1.ev rfl)) ?_
  refine Tr.val (wn rfl) rfl (fun _ _ h1 h2 => run_load1 ag_3 (h1.ev rfl) (rdb h2 (vs := [(.int .i64 p0.W), (.int .i64 p0.H), (.int .i64 p0.Rail), (.int .i64 p0.Gap), (.slice Ap0_0 (p0.Kinds).length cp0_0), (.slice Ap0_1 (p0.Slots).length cp0_1), (.slice Ap0_2 (p0.Marks).length cp0_2)]) (k := 1) rfl 2) rfl) ?_
  refine Tr.val (wn rfl) rfl (fun _ _ h1 h2 => run_geq (h1.ev rfl) (h1.ev rfl)) ?_
  refine Tr.val (wn rfl) rfl (fun _ _ h1 h2 => run_move (h1.ev rfl)) ?_
  refine Tr.mid (σ := Unit) 6 (fun _ => True) (fun _ => [(2, (.pointer (some ⟨b1, 0, none⟩))), (3, (.pointer (some ⟨b2, 0, none⟩))), (16, (.bool ((decide (p0.Rail ≤ p1.X0)) && (decide (p0.Rail ≤ p1.Y0)))))]) (fun _ => [(1, bx b1 #[(.int .i64 p0.W), (.int .i64 p0.H), (.int .i64 p0.Rail), (.int .i64 p0.Gap), (.slice Ap0_0 (p0.Kinds).length cp0_0), (.slice Ap0_1 (p0.Slots).length cp0_1), (.slice Ap0_2 (p0.Marks).length cp0_2)] 26), (2, bx b2 #[(.int .i64 p1.X0), (.int .i64 p1.Y0), (.int .i64 p1.X1), (.int .i64 p1.Y1)] 42)]) ?_ ?_
  · cases hg0 : (decide (p0.Rail ≤ p1.X0))
    · refine Tr.pass rfl rfl rfl rfl rfl (by decide) ?_
      refine Tr.pass rfl rfl rfl rfl rfl (by decide) ?_
      refine Tr.pass rfl rfl rfl rfl rfl (by decide) ?_
      refine Tr.pass rfl rfl rfl rfl rfl (by decide) ?_
      refine Tr.pass rfl rfl rfl rfl rfl (by decide) ?_
      refine Tr.val (wn rfl) rfl (fun _ _ h1 h2 => run_pickF (h1.ev rfl) (h1.ev rfl)) ?_
      exact Tr.nil (Tr.backThen () trivial (.cons rfl (.cons rfl (.cons rfl .nil))) (.cons rfl (.cons rfl .nil)))
    · refine Tr.val (wg rfl rfl rfl) rfl (fun _ _ h1 h2 => run_fieldAddr fo_42_1 (h1.ev rfl)) ?_
      refine Tr.val (wg rfl rfl rfl) rfl (fun _ _ h1 h2 => run_load1 ag_3 (h1.ev rfl) (rdb h2 (vs := [(.int .i64 p1.X0), (.int .i64 p1.Y0), (.int .i64 p1.X1), (.int .i64 p1.Y1)]) (k := 2) rfl 1) rfl) ?_
      refine Tr.val (wg rfl rfl rfl) rfl (fun _ _ h1 h2 => run_fieldAddr fo_26_2 (h1.ev rfl)) ?_
      refine Tr.val (wg rfl rfl rfl) rfl (fun _ _ h1 h2 => run_load1 ag_3 (h1.ev rfl) (rdb h2 (vs := [(.int .i64 p0.W), (.int .i64 p0.H), (.int .i64 p0.Rail), (.int .i64 p0.Gap), (.slice Ap0_0 (p0.Kinds).length cp0_0), (.slice Ap0_1 (p0.Slots).length cp0_1), (.slice Ap0_2 (p0.Marks).length cp0_2)]) (k := 1) rfl 2) rfl) ?_
      refine Tr.val (wg rfl rfl rfl) rfl (fun _ _ h1 h2 => run_geq (h1.ev rfl) (h1.ev rfl)) ?_
      refine Tr.val (wn rfl) rfl (fun _ _ h1 h2 => run_pickT (h1.ev rfl) (h1.ev rfl)) ?_
      exact Tr.nil (Tr.backThen () trivial (.cons rfl (.cons rfl (.cons rfl .nil))) (.cons rfl (.cons rfl .nil)))
  · intro _ _
    show Tr _ _ (LF [(2, (.pointer (some ⟨b1, 0, none⟩))), (3, (.pointer (some ⟨b2, 0, none⟩))), (16, (.bool ((decide (p0.Rail ≤ p1.X0)) && (decide (p0.Rail ≤ p1.Y0)))))]) (LE [(1, bx b1 #[(.int .i64 p0.W), (.int .i64 p0.H), (.int .i64 p0.Rail), (.int .i64 p0.Gap), (.slice Ap0_0 (p0.Kinds).length cp0_0), (.slice Ap0_1 (p0.Slots).length cp0_1), (.slice Ap0_2 (p0.Marks).length cp0_2)] 26), (2, bx b2 #[(.int .i64 p1.X0), (.int .i64 p1.Y0), (.int .i64 p1.X1), (.int .i64 p1.Y1)] 42)]) _
    refine Tr.val (wn rfl) rfl (fun _ _ h1 h2 => run_move (h1.ev rfl)) ?_
    refine Tr.mid (σ := Unit) 6 (fun _ => True) (fun _ => [(2, (.pointer (some ⟨b1, 0, none⟩))), (3, (.pointer (some ⟨b2, 0, none⟩))), (23, (.bool (((decide (p0.Rail ≤ p1.X0)) && (decide (p0.Rail ≤ p1.Y0))) && (decide (p1.X0 ≤ p0.W)))))]) (fun _ => [(1, bx b1 #[(.int .i64 p0.W), (.int .i64 p0.H), (.int .i64 p0.Rail), (.int .i64 p0.Gap), (.slice Ap0_0 (p0.Kinds).length cp0_0), (.slice Ap0_1 (p0.Slots).length cp0_1), (.slice Ap0_2 (p0.Marks).length cp0_2)] 26), (2, bx b2 #[(.int .i64 p1.X0), (.int .i64 p1.Y0), (.int .i64 p1.X1), (.int .i64 p1.Y1)] 42)]) ?_ ?_
    · cases hg0 : ((decide (p0.Rail ≤ p1.X0)) && (decide (p0.Rail ≤ p1.Y0)))
      · refine Tr.pass rfl rfl rfl rfl rfl (by decide) ?_
        refine Tr.pass rfl rfl rfl rfl rfl (by decide) ?_
        refine Tr.pass rfl rfl rfl rfl rfl (by decide) ?_
        refine Tr.pass rfl rfl rfl rfl rfl (by decide) ?_
        refine Tr.pass rfl rfl rfl rfl rfl (by decide) ?_
        refine Tr.val (wn rfl) rfl (fun _ _ h1 h2 => run_pickF (h1.ev rfl) (h1.ev rfl)) ?_
        exact Tr.nil (Tr.backThen () trivial (.cons rfl (.cons rfl (.cons rfl .nil))) (.cons rfl (.cons rfl .nil)))
      · refine Tr.val (wg rfl rfl rfl) rfl (fun _ _ h1 h2 => run_fieldAddr fo_42_0 (h1.ev rfl)) ?_
        refine Tr.val (wg rfl rfl rfl) rfl (fun _ _ h1 h2 => run_load1 ag_3 (h1.ev rfl) (rdb h2 (vs := [(.int .i64 p1.X0), (.int .i64 p1.Y0), (.int .i64 p1.X1), (.int .i64 p1.Y1)]) (k := 2) rfl 0) rfl) ?_
        refine Tr.val (wg rfl rfl rfl) rfl (fun _ _ h1 h2 => run_fieldAddr fo_26_0 (h1.ev rfl)) ?_
        refine Tr.val (wg rfl rfl rfl) rfl (fun _ _ h1 h2 => run_load1 ag_3 (h1.ev rfl) (rdb h2 (vs := [(.int .i64 p0.W), (.int .i64 p0.H), (.int .i64 p0.Rail), (.int .i64 p0.Gap), (.slice Ap0_0 (p0.Kinds).length cp0_0), (.slice Ap0_1 (p0.Slots).length cp0_1), (.slice Ap0_2 (p0.Marks).length cp0_2)]) (k := 1) rfl 0) rfl) ?_
        refine Tr.val (wg rfl rfl rfl) rfl (fun _ _ h1 h2 => run_leq (h1.ev rfl) (h1.ev rfl)) ?_
        refine Tr.val (wn rfl) rfl (fun _ _ h1 h2 => run_pickT (h1.ev rfl) (h1.ev rfl)) ?_
        exact Tr.nil (Tr.backThen () trivial (.cons rfl (.cons rfl (.cons rfl .nil))) (.cons rfl (.cons rfl .nil)))
    · intro _ _
      show Tr _ _ (LF [(2, (.pointer (some ⟨b1, 0, none⟩))), (3, (.pointer (some ⟨b2, 0, none⟩))), (23, (.bool (((decide (p0.Rail ≤ p1.X0)) && (decide (p0.Rail ≤ p1.Y0))) && (decide (p1.X0 ≤ p0.W)))))]) (LE [(1, bx b1 #[(.int .i64 p0.W), (.int .i64 p0.H), (.int .i64 p0.Rail), (.int .i64 p0.Gap), (.slice Ap0_0 (p0.Kinds).length cp0_0), (.slice Ap0_1 (p0.Slots).length cp0_1), (.slice Ap0_2 (p0.Marks).length cp0_2)] 26), (2, bx b2 #[(.int .i64 p1.X0), (.int .i64 p1.Y0), (.int .i64 p1.X1), (.int .i64 p1.Y1)] 42)]) _
      refine Tr.val (wn rfl) rfl (fun _ _ h1 h2 => run_move (h1.ev rfl)) ?_
      refine Tr.mid (σ := Unit) 6 (fun _ => True) (fun _ => [(2, (.pointer (some ⟨b1, 0, none⟩))), (3, (.pointer (some ⟨b2, 0, none⟩))), (30, (.bool ((((decide (p0.Rail ≤ p1.X0)) && (decide (p0.Rail ≤ p1.Y0))) && (decide (p1.X0 ≤ p0.W))) && (decide (p1.Y0 ≤ p0.H)))))]) (fun _ => [(1, bx b1 #[(.int .i64 p0.W), (.int .i64 p0.H), (.int .i64 p0.Rail), (.int .i64 p0.Gap), (.slice Ap0_0 (p0.Kinds).length cp0_0), (.slice Ap0_1 (p0.Slots).length cp0_1), (.slice Ap0_2 (p0.Marks).length cp0_2)] 26), (2, bx b2 #[(.int .i64 p1.X0), (.int .i64 p1.Y0), (.int .i64 p1.X1), (.int .i64 p1.Y1)] 42)]) ?_ ?_
      · cases hg0 : (((decide (p0.Rail ≤ p1.X0)) && (decide (p0.Rail ≤ p1.Y0))) && (decide (p1.X0 ≤ p0.W)))
        · refine Tr.pass rfl rfl rfl rfl rfl (by decide) ?_
          refine Tr.pass rfl rfl rfl rfl rfl (by decide) ?_
          refine Tr.pass rfl rfl rfl rfl rfl (by decide) ?_
          refine Tr.pass rfl rfl rfl rfl rfl (by decide) ?_
          refine Tr.pass rfl rfl rfl rfl rfl (by decide) ?_
          refine Tr.val (wn rfl) rfl (fun _ _ h1 h2 => run_pickF (h1.ev rfl) (h1.ev rfl)) ?_
          exact Tr.nil (Tr.backThen () trivial (.cons rfl (.cons rfl (.cons rfl .nil))) (.cons rfl (.cons rfl .nil)))
        · refine Tr.val (wg rfl rfl rfl) rfl (fun _ _ h1 h2 => run_fieldAddr fo_42_1 (h1.ev rfl)) ?_
          refine Tr.val (wg rfl rfl rfl) rfl (fun _ _ h1 h2 => run_load1 ag_3 (h1.ev rfl) (rdb h2 (vs := [(.int .i64 p1.X0), (.int .i64 p1.Y0), (.int .i64 p1.X1), (.int .i64 p1.Y1)]) (k := 2) rfl 1) rfl) ?_
          refine Tr.val (wg rfl rfl rfl) rfl (fun _ _ h1 h2 => run_fieldAddr fo_26_1 (h1.ev rfl)) ?_
          refine Tr.val (wg rfl rfl rfl) rfl (fun _ _ h1 h2 => run_load1 ag_3 (h1.ev rfl) (rdb h2 (vs := [(.int .i64 p0.W), (.int .i64 p0.H), (.int .i64 p0.Rail), (.int .i64 p0.Gap), (.slice Ap0_0 (p0.Kinds).length cp0_0), (.slice Ap0_1 (p0.Slots).length cp0_1), (.slice Ap0_2 (p0.Marks).length cp0_2)]) (k := 1) rfl 1) rfl) ?_
          refine Tr.val (wg rfl rfl rfl) rfl (fun _ _ h1 h2 => run_leq (h1.ev rfl) (h1.ev rfl)) ?_
          refine Tr.val (wn rfl) rfl (fun _ _ h1 h2 => run_pickT (h1.ev rfl) (h1.ev rfl)) ?_
          exact Tr.nil (Tr.backThen () trivial (.cons rfl (.cons rfl (.cons rfl .nil))) (.cons rfl (.cons rfl .nil)))
      · intro _ _
        show Tr _ _ (LF [(2, (.pointer (some ⟨b1, 0, none⟩))), (3, (.pointer (some ⟨b2, 0, none⟩))), (30, (.bool ((((decide (p0.Rail ≤ p1.X0)) && (decide (p0.Rail ≤ p1.Y0))) && (decide (p1.X0 ≤ p0.W))) && (decide (p1.Y0 ≤ p0.H)))))]) (LE [(1, bx b1 #[(.int .i64 p0.W), (.int .i64 p0.H), (.int .i64 p0.Rail), (.int .i64 p0.Gap), (.slice Ap0_0 (p0.Kinds).length cp0_0), (.slice Ap0_1 (p0.Slots).length cp0_1), (.slice Ap0_2 (p0.Marks).length cp0_2)] 26), (2, bx b2 #[(.int .i64 p1.X0), (.int .i64 p1.Y0), (.int .i64 p1.X1), (.int .i64 p1.Y1)] 42)]) _
        refine Tr.val (wn rfl) rfl (fun _ _ h1 h2 => run_move (h1.ev rfl)) ?_
        refine Tr.mid (σ := Unit) 9 (fun _ => True) (fun _ => [(2, (.pointer (some ⟨b1, 0, none⟩))), (3, (.pointer (some ⟨b2, 0, none⟩))), (40, (.bool (((((decide (p0.Rail ≤ p1.X0)) && (decide (p0.Rail ≤ p1.Y0))) && (decide (p1.X0 ≤ p0.W))) && (decide (p1.Y0 ≤ p0.H))) && (decide (p1.X1 ≤ (w64 (p0.W - p0.Rail)))))))]) (fun _ => [(1, bx b1 #[(.int .i64 p0.W), (.int .i64 p0.H), (.int .i64 p0.Rail), (.int .i64 p0.Gap), (.slice Ap0_0 (p0.Kinds).length cp0_0), (.slice Ap0_1 (p0.Slots).length cp0_1), (.slice Ap0_2 (p0.Marks).length cp0_2)] 26), (2, bx b2 #[(.int .i64 p1.X0), (.int .i64 p1.Y0), (.int .i64 p1.X1), (.int .i64 p1.Y1)] 42)]) ?_ ?_
        · cases hg0 : ((((decide (p0.Rail ≤ p1.X0)) && (decide (p0.Rail ≤ p1.Y0))) && (decide (p1.X0 ≤ p0.W))) && (decide (p1.Y0 ≤ p0.H)))
          · refine Tr.pass rfl rfl rfl rfl rfl (by decide) ?_
            refine Tr.pass rfl rfl rfl rfl rfl (by decide) ?_
            refine Tr.pass rfl rfl rfl rfl rfl (by decide) ?_
            refine Tr.pass rfl rfl rfl rfl rfl (by decide) ?_
            refine Tr.pass rfl rfl rfl rfl rfl (by decide) ?_
            refine Tr.pass rfl rfl rfl rfl rfl (by decide) ?_
            refine Tr.pass rfl rfl rfl rfl rfl (by decide) ?_
            refine Tr.pass rfl rfl rfl rfl rfl (by decide) ?_
            refine Tr.val (wn rfl) rfl (fun _ _ h1 h2 => run_pickF (h1.ev rfl) (h1.ev rfl)) ?_
            exact Tr.nil (Tr.backThen () trivial (.cons rfl (.cons rfl (.cons rfl .nil))) (.cons rfl (.cons rfl .nil)))
          · refine Tr.val (wg rfl rfl rfl) rfl (fun _ _ h1 h2 => run_fieldAddr fo_42_2 (h1.ev rfl)) ?_
            refine Tr.val (wg rfl rfl rfl) rfl (fun _ _ h1 h2 => run_load1 ag_3 (h1.ev rfl) (rdb h2 (vs := [(.int .i64 p1.X0), (.int .i64 p1.Y0), (.int .i64 p1.X1), (.int .i64 p1.Y1)]) (k := 2) rfl 2) rfl) ?_
            refine Tr.val (wg rfl rfl rfl) rfl (fun _ _ h1 h2 => run_fieldAddr fo_26_0 (h1.ev rfl)) ?_
            refine Tr.val (wg rfl rfl rfl) rfl (fun _ _ h1 h2 => run_load1 ag_3 (h1.ev rfl) (rdb h2 (vs := [(.int .i64 p0.W), (.int .i64 p0.H), (.int .i64 p0.Rail), (.int .i64 p0.Gap), (.slice Ap0_0 (p0.Kinds).length cp0_0), (.slice Ap0_1 (p0.Slots).length cp0_1), (.slice Ap0_2 (p0.Marks).length cp0_2)]) (k := 1) rfl 0) rfl) ?_
            refine Tr.val (wg rfl rfl rfl) rfl (fun _ _ h1 h2 => run_fieldAddr fo_26_2 (h1.ev rfl)) ?_
            refine Tr.val (wg rfl rfl rfl) rfl (fun _ _ h1 h2 => run_load1 ag_3 (h1.ev rfl) (rdb h2 (vs := [(.int .i64 p0.W), (.int .i64 p0.H), (.int .i64 p0.Rail), (.int .i64 p0.Gap), (.slice Ap0_0 (p0.Kinds).length cp0_0), (.slice Ap0_1 (p0.Slots).length cp0_1), (.slice Ap0_2 (p0.Marks).length cp0_2)]) (k := 1) rfl 2) rfl) ?_
            refine Tr.val (wg rfl rfl rfl) rfl (fun _ _ h1 h2 => run_sub (h1.ev rfl) (h1.ev rfl)) ?_
            refine Tr.val (wg rfl rfl rfl) rfl (fun _ _ h1 h2 => run_leq (h1.ev rfl) (h1.ev rfl)) ?_
            refine Tr.val (wn rfl) rfl (fun _ _ h1 h2 => run_pickT (h1.ev rfl) (h1.ev rfl)) ?_
            exact Tr.nil (Tr.backThen () trivial (.cons rfl (.cons rfl (.cons rfl .nil))) (.cons rfl (.cons rfl .nil)))
        · intro _ _
          show Tr _ _ (LF [(2, (.pointer (some ⟨b1, 0, none⟩))), (3, (.pointer (some ⟨b2, 0, none⟩))), (40, (.bool (((((decide (p0.Rail ≤ p1.X0)) && (decide (p0.Rail ≤ p1.Y0))) && (decide (p1.X0 ≤ p0.W))) && (decide (p1.Y0 ≤ p0.H))) && (decide (p1.X1 ≤ (w64 (p0.W - p0.Rail)))))))]) (LE [(1, bx b1 #[(.int .i64 p0.W), (.int .i64 p0.H), (.int .i64 p0.Rail), (.int .i64 p0.Gap), (.slice Ap0_0 (p0.Kinds).length cp0_0), (.slice Ap0_1 (p0.Slots).length cp0_1), (.slice Ap0_2 (p0.Marks).length cp0_2)] 26), (2, bx b2 #[(.int .i64 p1.X0), (.int .i64 p1.Y0), (.int .i64 p1.X1), (.int .i64 p1.Y1)] 42)]) _
          refine Tr.val (wn rfl) rfl (fun _ _ h1 h2 => run_move (h1.ev rfl)) ?_
          refine Tr.mid (σ := Unit) 9 (fun _ => True) (fun _ => [(50, (.bool ((((((decide (p0.Rail ≤ p1.X0)) && (decide (p0.Rail ≤ p1.Y0))) && (decide (p1.X0 ≤ p0.W))) && (decide (p1.Y0 ≤ p0.H))) && (decide (p1.X1 ≤ (w64 (p0.W - p0.Rail))))) && (decide (p1.Y1 ≤ (w64 (p0.H - p0.Rail)))))))]) (fun _ => [(1, bx b1 #[(.int .i64 p0.W), (.int .i64 p0.H), (.int .i64 p0.Rail), (.int .i64 p0.Gap), (.slice Ap0_0 (p0.Kinds).length cp0_0), (.slice Ap0_1 (p0.Slots).length cp0_1), (.slice Ap0_2 (p0.Marks).length cp0_2)] 26), (2, bx b2 #[(.int .i64 p1.X0), (.int .i64 p1.Y0), (.int .i64 p1.X1), (.int .i64 p1.Y1)] 42)]) ?_ ?_
          · cases hg0 : (((((decide (p0.Rail ≤ p1.X0)) && (decide (p0.Rail ≤ p1.Y0))) && (decide (p1.X0 ≤ p0.W))) && (decide (p1.Y0 ≤ p0.H))) && (decide (p1.X1 ≤ (w64 (p0.W - p0.Rail)))))
            · refine Tr.pass rfl rfl rfl rfl rfl (by decide) ?_
              refine Tr.pass rfl rfl rfl rfl rfl (by decide) ?_
              refine Tr.pass rfl rfl rfl rfl rfl (by decide) ?_
              refine Tr.pass rfl rfl rfl rfl rfl (by decide) ?_
              refine Tr.pass rfl rfl rfl rfl rfl (by decide) ?_
              refine Tr.pass rfl rfl rfl rfl rfl (by decide) ?_
              refine Tr.pass rfl rfl rfl rfl rfl (by decide) ?_
              refine Tr.pass rfl rfl rfl rfl rfl (by decide) ?_
              refine Tr.val (wn rfl) rfl (fun _ _ h1 h2 => run_pickF (h1.ev rfl) (h1.ev rfl)) ?_
              exact Tr.nil (Tr.backThen () trivial (.cons rfl .nil) (.cons rfl (.cons rfl .nil)))
            · refine Tr.val (wg rfl rfl rfl) rfl (fun _ _ h1 h2 => run_fieldAddr fo_42_3 (h1.ev rfl)) ?_
              refine Tr.val (wg rfl rfl rfl) rfl (fun _ _ h1 h2 => run_load1 ag_3 (h1.ev rfl) (rdb h2 (vs := [(.int .i64 p1.X0), (.int .i64 p1.Y0), (.int .i64 p1.X1), (.int .i64 p1.Y1)]) (k := 2) rfl 3) rfl) ?_
              refine Tr.val (wg rfl rfl rfl) rfl (fun _ _ h1 h2 => run_fieldAddr fo_26_1 (h1.ev rfl)) ?_
              refine Tr.val (wg rfl rfl rfl) rfl (fun _ _ h1 h2 => run_load1 ag_3 (h1.ev rfl) (rdb h2 (vs := [(.int .i64 p0.W), (.int .i64 p0.H), (.int .i64 p0.Rail), (.int .i64 p0.Gap), (.slice Ap0_0 (p0.Kinds).length cp0_0), (.slice Ap0_1 (p0.Slots).length cp0_1), (.slice Ap0_2 (p0.Marks).length cp0_2)]) (k := 1) rfl 1) rfl) ?_
              refine Tr.val (wg rfl rfl rfl) rfl (fun _ _ h1 h2 => run_fieldAddr fo_26_2 (h1.ev rfl)) ?_
              refine Tr.val (wg rfl rfl rfl) rfl (fun _ _ h1 h2 => run_load1 ag_3 (h1.ev rfl) (rdb h2 (vs := [(.int .i64 p0.W), (.int .i64 p0.H), (.int .i64 p0.Rail), (.int .i64 p0.Gap), (.slice Ap0_0 (p0.Kinds).length cp0_0), (.slice Ap0_1 (p0.Slots).length cp0_1), (.slice Ap0_2 (p0.Marks).length cp0_2)]) (k := 1) rfl 2) rfl) ?_
              refine Tr.val (wg rfl rfl rfl) rfl (fun _ _ h1 h2 => run_sub (h1.ev rfl) (h1.ev rfl)) ?_
              refine Tr.val (wg rfl rfl rfl) rfl (fun _ _ h1 h2 => run_leq (h1.ev rfl) (h1.ev rfl)) ?_
              refine Tr.val (wn rfl) rfl (fun _ _ h1 h2 => run_pickT (h1.ev rfl) (h1.ev rfl)) ?_
              exact Tr.nil (Tr.backThen () trivial (.cons rfl .nil) (.cons rfl (.cons rfl .nil)))
          · intro _ _
            show Tr _ _ (LF [(50, (.bool ((((((decide (p0.Rail ≤ p1.X0)) && (decide (p0.Rail ≤ p1.Y0))) && (decide (p1.X0 ≤ p0.W))) && (decide (p1.Y0 ≤ p0.H))) && (decide (p1.X1 ≤ (w64 (p0.W - p0.Rail))))) && (decide (p1.Y1 ≤ (w64 (p0.H - p0.Rail)))))))]) (LE [(1, bx b1 #[(.int .i64 p0.W), (.int .i64 p0.H), (.int .i64 p0.Rail), (.int .i64 p0.Gap), (.slice Ap0_0 (p0.Kinds).length cp0_0), (.slice Ap0_1 (p0.Slots).length cp0_1), (.slice Ap0_2 (p0.Marks).length cp0_2)] 26), (2, bx b2 #[(.int .i64 p1.X0), (.int .i64 p1.Y0), (.int .i64 p1.X1), (.int .i64 p1.Y1)] 42)]) _
            refine Tr.val (wn rfl) rfl (fun _ _ h1 h2 => run_assign (h1.ev rfl)) ?_
            refine Tr.nil (Tr.normThen ?_)
            refine Tr.ret ?_
            obtain rfl := Option.some.inj H
            exact Tr.out (m := [(.bool ((((((decide (p0.Rail ≤ p1.X0)) && (decide (p0.Rail ≤ p1.Y0))) && (decide (p1.X0 ≤ p0.W))) && (decide (p1.Y0 ≤ p0.H))) && (decide (p1.X1 ≤ (w64 (p0.W - p0.Rail))))) && (decide (p1.Y1 ≤ (w64 (p0.H - p0.Rail))))))]) [] (res_tmp rfl res_nil) (fun W hW => ⟨rfl, hW.below⟩)

theorem F_panel_isApart_ok {w : World} (p0 : TRect) (p1 : TRect) (p2 : Int) (r : Bool) (H : F_panel_isApart p0 p1 p2 = some r) : Calls Try.prog 71 [(.agg #[(.int .i64 p0.X0), (.int .i64 p0.Y0), (.int .i64 p0.X1), (.int .i64 p0.Y1)]), (.agg #[(.int .i64 p1.X0), (.int .i64 p1.Y0), (.int .i64 p1.X1), (.int .i64 p1.Y1)]), (.int .i64 p2)].toArray w fun e W' => e = .returned (.bool r) ∧ Below w.heap.size w W' := by
  unfold F_panel_isApart at H
  refine Tr.enter (n := 41) Try.func71 rfl rfl rfl ?_
  refine Tr.seq ?_
  refine Tr.region ?_
  refine Tr.box 1 (cs := [(.int .i64 p0.X0), (.int .i64 p0.Y0), (.int .i64 p0.X1), (.int .i64 p0.Y1)]) (wn rfl) rfl rfl rfl fun b1 => ?_
  refine Tr.box 2 (cs := [(.int .i64 p1.X0), (.int .i64 p1.Y0), (.int .i64 p1.X1), (.int .i64 p1.Y1)]) (wn rfl) rfl rfl rfl fun b2 => ?_
  refine Tr.val (wn rfl) rfl (fun _ _ h1 h2 => run_assign (h1.ev rfl)) ?_
  refine Tr.nil (Tr.normThen ?_)
  refine Tr.seq ?_
  refine Tr.region ?_
  refine Tr.val (wn rfl) rfl (fun _ _ h1 h2 => run_fieldAddr fo_42_2 (h1.ev rfl)) ?_
  refine Tr.val (wn rfl) rfl (fun _ _ h1 h2 => run_load1 ag_3 (h1.ev rfl) (rdb h2 (vs := [(.int .i64 p0.X0), (.int .i64 p0.Y0), (.int .i64 p0.X1), (.int .i64 p0.Y1)]) (k := 1) rfl 2) rfl) ?_
  refine Tr.val (wn rfl) rfl (fun _ _ h1 h2 => run_move (h1.ev rfl)) ?_
  refine Tr.val (wn rfl) rfl (fun _ _ h1 h2 => run_add (h1.ev rfl) (h1.ev rfl)) ?_
  refine Tr.val (wn rfl) rfl (fun _ _ h1 h2 => run_fieldAddr fo_42_0 (h1.ev rfl)) ?_
  refine Tr.val (wn rfl) rfl (fun _ _ h1 h2 => run_load1 ag_3 (h1.ev rfl) (rdb h2 (vs := [(.int .i64 p1.X0), (.int .i64 p1.Y0), (.int .i64 p1.X1), (.int .i64 p1.Y1)]) (k := 2) rfl 0) rfl) ?_
  refine Tr.val (wn rfl) rfl (fun _ _ h1 h2 => run_leq (h1.ev rfl) (h1.ev rfl)) ?_
  refine Tr.val (wn rfl) rfl (fun _ _ h1 h2 => run_move (h1.ev rfl)) ?_
  refine Tr.mid (σ := Unit) 8 (fun _ => True) (fun _ => [(2, (.int .i64 p2)), (3, (.pointer (some ⟨b1, 0, none⟩))), (4, (.pointer (some ⟨b2, 0, none⟩))), (22, (.bool ((decide ((w64 (p0.X1 + p2)) ≤ p1.X0)) || (decide ((w64 (p1.X1 + p2)) ≤ p0.X0)))))]) (fun _ => [(1, bx b1 #[(.int .i64 p0.X0), (.int .i64 p0.Y0), (.int .i64 p0.X1), (.int .i64 p0.Y1)] 42), (2, bx b2 #[(.int .i64 p1.X0), (.int .i64 p1.Y0), (.int .i64 p1.X1), (.int .i64 p1.Y1)] 42)]) ?_ ?_
  · cases hg0 : (decide ((w64 (p0.X1 + p2)) ≤ p1.X0))
    · refine Tr.val (wg rfl rfl rfl) rfl (fun _ _ h1 h2 => run_fieldAddr fo_42_2 (h1.ev rfl)) ?_
      refine Tr.val (wg rfl rfl rfl) rfl (fun _ _ h1 h2 => run_load1 ag_3 (h1.ev rfl) (rdb h2 (vs := [(.int .i64 p1.X0), (.int .i64 p1.Y0), (.int .i64 p1.X1), (.int .i64 p1.Y1)]) (k := 2) rfl 2) rfl) ?_
      refine Tr.val (wg rfl rfl rfl) rfl (fun _ _ h1 h2 => run_move (h1.ev rfl)) ?_
      refine Tr.val (wg rfl rfl rfl) rfl (fun _ _ h1 h2 => run_add (h1.ev rfl) (h1.ev rfl)) ?_
      refine Tr.val (wg rfl rfl rfl) rfl (fun _ _ h1 h2 => run_fieldAddr fo_42_0 (h1.ev rfl)) ?_
      refine Tr.val (wg rfl rfl rfl) rfl (fun _ _ h1 h2 => run_load1 ag_3 (h1.ev rfl) (rdb h2 (vs := [(.int .i64 p0.X0), (.int .i64 p0.Y0), (.int .i64 p0.X1), (.int .i64 p0.Y1)]) (k := 1) rfl 0) rfl) ?_
      refine Tr.val (wg rfl rfl rfl) rfl (fun _ _ h1 h2 => run_leq (h1.ev rfl) (h1.ev rfl)) ?_
      refine Tr.val (wn rfl) rfl (fun _ _ h1 h2 => run_pickF (h1.ev rfl) (h1.ev rfl)) ?_
      exact Tr.nil (Tr.backThen () trivial (.cons rfl (.cons rfl (.cons rfl (.cons rfl .nil)))) (.cons rfl (.cons rfl .nil)))
    · refine Tr.pass rfl rfl rfl rfl rfl (by decide) ?_
      refine Tr.pass rfl rfl rfl rfl rfl (by decide) ?_
      refine Tr.pass rfl rfl rfl rfl rfl (by decide) ?_
      refine Tr.pass rfl rfl rfl rfl rfl (by decide) ?_
      refine Tr.pass rfl rfl rfl rfl rfl (by decide) ?_
      refine Tr.pass rfl rfl rfl rfl rfl (by decide) ?_
      refine Tr.pass rfl rfl rfl rfl rfl (by decide) ?_
      refine Tr.val (wn rfl) rfl (fun _ _ h1 h2 => run_pickT (h1.ev rfl) (h1.ev rfl)) ?_
      exact Tr.nil (Tr.backThen () trivial (.cons rfl (.cons rfl (.cons rfl (.cons rfl .nil)))) (.cons rfl (.cons rfl .nil)))
  · intro _ _
    show Tr _ _ (LF [(2, (.int .i64 p2)), (3, (.pointer (some ⟨b1, 0, none⟩))), (4, (.pointer (some ⟨b2, 0, none⟩))), (22, (.bool ((decide ((w64 (p0.X1 + p2)) ≤ p1.X0)) || (decide ((w64 (p1.X1 + p2)) ≤ p0.X0)))))]) (LE [(1, bx b1 #[(.int .i64 p0.X0), (.int .i64 p0.Y0), (.int .i64 p0.X1), (.int .i64 p0.Y1)] 42), (2, bx b2 #[(.int .i64 p1.X0), (.int .i64 p1.Y0), (.int .i64 p1.X1), (.int .i64 p1.Y1)] 42)]) _
    refine Tr.val (wn rfl) rfl (fun _ _ h1 h2 => run_move (h1.ev rfl)) ?_
    refine Tr.mid (σ := Unit) 8 (fun _ => True) (fun _ => [(2, (.int .i64 p2)), (3, (.pointer (some ⟨b1, 0, none⟩))), (4, (.pointer (some ⟨b2, 0, none⟩))), (31, (.bool (((decide ((w64 (p0.X1 + p2)) ≤ p1.X0)) || (decide ((w64 (p1.X1 + p2)) ≤ p0.X0))) || (decide ((w64 (p0.Y1 + p2)) ≤ p1.Y0)))))]) (fun _ => [(1, bx b1 #[(.int .i64 p0.X0), (.int .i64 p0.Y0), (.int .i64 p0.X1), (.int .i64 p0.Y1)] 42), (2, bx b2 #[(.int .i64 p1.X0), (.int .i64 p1.Y0), (.int .i64 p1.X1), (.int .i64 p1.Y1)] 42)]) ?_ ?_
    · cases hg0 : ((decide ((w64 (p0.X1 + p2)) ≤ p1.X0)) || (decide ((w64 (p1.X1 + p2)) ≤ p0.X0)))
      · refine Tr.val (wg rfl rfl rfl) rfl (fun _ _ h1 h2 => run_fieldAddr fo_42_3 (h1.ev rfl)) ?_
        refine Tr.val (wg rfl rfl rfl) rfl (fun _ _ h1 h2 => run_load1 ag_3 (h1.ev rfl) (rdb h2 (vs := [(.int .i64 p0.X0), (.int .i64 p0.Y0), (.int .i64 p0.X1), (.int .i64 p0.Y1)]) (k := 1) rfl 3) rfl) ?_
        refine Tr.val (wg rfl rfl rfl) rfl (fun _ _ h1 h2 => run_move (h1.ev rfl)) ?_
        refine Tr.val (wg rfl rfl rfl) rfl (fun _ _ h1 h2 => run_add (h1.ev rfl) (h1.ev rfl)) ?_
        refine Tr.val (wg rfl rfl rfl) rfl (fun _ _ h1 h2 => run_fieldAddr fo_42_1 (h1.ev rfl)) ?_
        refine Tr.val (wg rfl rfl rfl) rfl (fun _ _ h1 h2 => run_load1 ag_3 (h1.ev rfl) (rdb h2 (vs := [(.int .i64 p1.X0), (.int .i64 p1.Y0), (.int .i64 p1.X1), (.int .i64 p1.Y1)]) (k := 2) rfl 1) rfl) ?_
        refine Tr.val (wg rfl rfl rfl) rfl (fun _ _ h1 h2 => run_leq (h1.ev rfl) (h1.ev rfl)) ?_
        refine Tr.val (wn rfl) rfl (fun _ _ h1 h2 => run_pickF (h1.ev rfl) (h1.ev rfl)) ?_
        exact Tr.nil (Tr.backThen () trivial (.cons rfl (.cons rfl (.cons rfl (.cons rfl .nil)))) (.cons rfl (.cons rfl .nil)))
      · refine Tr.pass rfl rfl rfl rfl rfl (by decide) ?_
        refine Tr.pass rfl rfl rfl rfl rfl (by decide) ?_
        refine Tr.pass rfl rfl rfl rfl rfl (by decide) ?_
        refine Tr.pass rfl rfl rfl rfl rfl (by decide) ?_
        refine Tr.pass rfl rfl rfl rfl rfl (by decide) ?_
        refine Tr.pass rfl rfl rfl rfl rfl (by decide) ?_
        refine Tr.pass rfl rfl rfl rfl rfl (by decide) ?_
        refine Tr.val (wn rfl) rfl (fun _ _ h1 h2 => run_pickT (h1.ev rfl) (h1.ev rfl)) ?_
        exact Tr.nil (Tr.backThen () trivial (.cons rfl (.cons rfl (.cons rfl (.cons rfl .nil)))) (.cons rfl (.cons rfl .nil)))
    · intro _ _
      show Tr _ _ (LF [(2, (.int .i64 p2)), (3, (.pointer (some ⟨b1, 0, none⟩))), (4, (.pointer (some ⟨b2, 0, none⟩))), (31, (.bool (((decide ((w64 (p0.X1 + p2)) ≤ p1.X0)) || (decide ((w64 (p1.X1 + p2)) ≤ p0.X0))) || (decide ((w64 (p0.Y1 + p2)) ≤ p1.Y0)))))]) (LE [(1, bx b1 #[(.int .i64 p0.X0), (.int .i64 p0.Y0), (.int .i64 p0.X1), (.int .i64 p0.Y1)] 42), (2, bx b2 #[(.int .i64 p1.X0), (.int .i64 p1.Y0), (.int .i64 p1.X1), (.int .i64 p1.Y1)] 42)]) _
      refine Tr.val (wn rfl) rfl (fun _ _ h1 h2 => run_move (h1.ev rfl)) ?_
      refine Tr.mid (σ := Unit) 8 (fun _ => True) (fun _ => [(40, (.bool ((((decide ((w64 (p0.X1 + p2)) ≤ p1.X0)) || (decide ((w64 (p1.X1 + p2)) ≤ p0.X0))) || (decide ((w64 (p0.Y1 + p2)) ≤ p1.Y0))) || (decide ((w64 (p1.Y1 + p2)) ≤ p0.Y0)))))]) (fun _ => [(1, bx b1 #[(.int .i64 p0.X0), (.int .i64 p0.Y0), (.int .i64 p0.X1), (.int .i64 p0.Y1)] 42), (2, bx b2 #[(.int .i64 p1.X0), (.int .i64 p1.Y0), (.int .i64 p1.X1), (.int .i64 p1.Y1)] 42)]) ?_ ?_
      · cases hg0 : (((decide ((w64 (p0.X1 + p2)) ≤ p1.X0)) || (decide ((w64 (p1.X1 + p2)) ≤ p0.X0))) || (decide ((w64 (p0.Y1 + p2)) ≤ p1.Y0)))
        · refine Tr.val (wg rfl rfl rfl) rfl (fun _ _ h1 h2 => run_fieldAddr fo_42_3 (h1.ev rfl)) ?_
          refine Tr.val (wg rfl rfl rfl) rfl (fun _ _ h1 h2 => run_load1 ag_3 (h1.ev rfl) (rdb h2 (vs := [(.int .i64 p1.X0), (.int .i64 p1.Y0), (.int .i64 p1.X1), (.int .i64 p1.Y1)]) (k := 2) rfl 3) rfl) ?_
          refine Tr.val (wg rfl rfl rfl) rfl (fun _ _ h1 h2 => run_move (h1.ev rfl)) ?_
          refine Tr.val (wg rfl rfl rfl) rfl (fun _ _ h1 h2 => run_add (h1.ev rfl) (h1.ev rfl)) ?_
          refine Tr.val (wg rfl rfl rfl) rfl (fun _ _ h1 h2 => run_fieldAddr fo_42_1 (h1.ev rfl)) ?_
          refine Tr.val (wg rfl rfl rfl) rfl (fun _ _ h1 h2 => run_load1 ag_3 (h1.ev rfl) (rdb h2 (vs := [(.int .i64 p0.X0), (.int .i64 p0.Y0), (.int .i64 p0.X1), (.int .i64 p0.Y1)]) (k := 1) rfl 1) rfl) ?_
          refine Tr.val (wg rfl rfl rfl) rfl (fun _ _ h1 h2 => run_leq (h1.ev rfl) (h1.ev rfl)) ?_
          refine Tr.val (wn rfl) rfl (fun _ _ h1 h2 => run_pickF (h1.ev rfl) (h1.ev rfl)) ?_
          exact Tr.nil (Tr.backThen () trivial (.cons rfl .nil) (.cons rfl (.cons rfl .nil)))
        · refine Tr.pass rfl rfl rfl rfl rfl (by decide) ?_
          refine Tr.pass rfl rfl rfl rfl rfl (by decide) ?_
          refine Tr.pass rfl rfl rfl rfl rfl (by decide) ?_
          refine Tr.pass rfl rfl rfl rfl rfl (by decide) ?_
          refine Tr.pass rfl rfl rfl rfl rfl (by decide) ?_
          refine Tr.pass rfl rfl rfl rfl rfl (by decide) ?_
          refine Tr.pass rfl rfl rfl rfl rfl (by decide) ?_
          refine Tr.val (wn rfl) rfl (fun _ _ h1 h2 => run_pickT (h1.ev rfl) (h1.ev rfl)) ?_
          exact Tr.nil (Tr.backThen () trivial (.cons rfl .nil) (.cons rfl (.cons rfl .nil)))
      · intro _ _
        show Tr _ _ (LF [(40, (.bool ((((decide ((w64 (p0.X1 + p2)) ≤ p1.X0)) || (decide ((w64 (p1.X1 + p2)) ≤ p0.X0))) || (decide ((w64 (p0.Y1 + p2)) ≤ p1.Y0))) || (decide ((w64 (p1.Y1 + p2)) ≤ p0.Y0)))))]) (LE [(1, bx b1 #[(.int .i64 p0.X0), (.int .i64 p0.Y0), (.int .i64 p0.X1), (.int .i64 p0.Y1)] 42), (2, bx b2 #[(.int .i64 p1.X0), (.int .i64 p1.Y0), (.int .i64 p1.X1), (.int .i64 p1.Y1)] 42)]) _
        refine Tr.val (wn rfl) rfl (fun _ _ h1 h2 => run_assign (h1.ev rfl)) ?_
        refine Tr.nil (Tr.normThen ?_)
        refine Tr.ret ?_
        obtain rfl := Option.some.inj H
        exact Tr.out (m := [(.bool ((((decide ((w64 (p0.X1 + p2)) ≤ p1.X0)) || (decide ((w64 (p1.X1 + p2)) ≤ p0.X0))) || (decide ((w64 (p0.Y1 + p2)) ≤ p1.Y0))) || (decide ((w64 (p1.Y1 + p2)) ≤ p0.Y0))))]) [] (res_tmp rfl res_nil) (fun W hW => ⟨rfl, hW.below⟩)

theorem F_panel_cells_1_ok {w : World} (p0 : TRect) (q0 : TRect) (bq0 : Nat) (hc0 : CellsAt w bq0 0 [(.int .i64 q0.X0), (.int .i64 q0.Y0), (.int .i64 q0.X1), (.int .i64 q0.Y1)]) (hb0 : bq0 < w.heap.size) (q1 : TPanel) (Aq1_0 : Option Addr) (cq1_0 : Nat) (hq1_0 : Sl (lo w.heap.size) w fl_TBoardKind Aq1_0 cq1_0 q1.Kinds) (Aq1_1 : Option Addr) (cq1_1 : Nat) (hq1_1 : Sl (lo w.heap.size) w fl_TSlot Aq1_1 cq1_1 q1.Slots) (Aq1_2 : Option Addr) (cq1_2 : Nat) (hq1_2 : Sl (lo w.heap.size) w fl_TPoint Aq1_2 cq1_2 q1.Marks) (bq1 : Nat) (hc1 : CellsAt w bq1 0 [(.int .i64 q1.W), (.int .i64 q1.H), (.int .i64 q1.Rail), (.int .i64 q1.Gap), (.slice Aq1_0 (q1.Kinds).length cq1_0), (.slice Aq1_1 (q1.Slots).length cq1_1), (.slice Aq1_2 (q1.Marks).length cq1_2)]) (hb1 : bq1 < w.heap.size) (r : Bool) (H : F_panel_cells_1 p0 q0 q1 = some r) : Calls Try.prog 115 [(.agg #[(.int .i64 p0.X0), (.int .i64 p0.Y0), (.int .i64 p0.X1), (.int .i64 p0.Y1)]), (.pointer (some ⟨bq0, 0, none⟩)), (.pointer (some ⟨bq1, 0, none⟩))].toArray w fun e W' => e = .returned (.bool r) ∧ Below w.heap.size w W' := by
  unfold F_panel_cells_1 at H
  refine Tr.enter (n := 11) Try.func115 rfl rfl rfl ?_
  refine Tr.seq ?_
  refine Tr.region ?_
  refine Tr.box 1 (cs := [(.int .i64 p0.X0), (.int .i64 p0.Y0), (.int .i64 p0.X1), (.int .i64 p0.Y1)]) (wn rfl) rfl rfl rfl fun b1 => ?_
  refine Tr.val (wn rfl) rfl (fun _ _ h1 h2 => run_assign (h1.ev rfl)) ?_
  refine Tr.nil (Tr.normThen ?_)
  refine Tr.seq ?_
  refine Tr.region ?_
  refine Tr.val (wn rfl) rfl (fun _ _ h1 h2 => run_loadN (cs := [(.int .i64 q0.X0), (.int .i64 q0.Y0), (.int .i64 q0.X1), (.int .i64 q0.Y1)]) ag_42 sz_42 (h1.ev rfl) (CellsAt.take (Rd.cap hc0 hb0 _ h2) 4) rfl) ?_
  refine Tr.val (wn rfl) rfl (fun _ _ h1 h2 => run_loadN (cs := [(.int .i64 p0.X0), (.int .i64 p0.Y0), (.int .i64 p0.X1), (.int .i64 p0.Y1)]) ag_42 sz_42 (h1.ev rfl) (CellsAt.take (rdb h2 (vs := [(.int .i64 p0.X0), (.int .i64 p0.Y0), (.int .i64 p0.X1), (.int .i64 p0.Y1)]) (k := 1) rfl 0) 4) rfl) ?_
  refine Tr.val (wn rfl) rfl (fun _ _ h1 h2 => run_fieldAddr fo_26_3 (h1.ev rfl)) ?_
  refine Tr.val (wn rfl) rfl (fun _ _ h1 h2 => run_load1 ag_3 (h1.ev rfl) (CellsAt.drop (Rd.cap hc1 hb1 _ h2) 3) rfl) ?_
  obtain ⟨y1, hy1, H⟩ := bnd H
  refine Tr.call0 (r := (.bool y1)) (wn rfl) rfl Try.call71 (evl_cons rfl (evl_cons rfl (evl_cons rfl evl_nil))) (fun W hW => F_panel_isApart_ok q0 p0 q1.Gap y1 hy1) ?_
  refine Tr.val (wn rfl) rfl (fun _ _ h1 h2 => run_not (h1.ev rfl)) ?_
  refine Tr.val (wn rfl) rfl (fun _ _ h1 h2 => run_assign (h1.ev rfl)) ?_
  refine Tr.nil (Tr.normThen ?_)
  refine Tr.ret ?_
  obtain rfl := Option.some.inj H
  exact Tr.out (m := [(.bool (!y1))]) [] (res_tmp rfl res_nil) (fun W hW => ⟨rfl, hW.below⟩)

theorem F_slices_IndexFunc_Rect_ok {w : World} (p0 : (List TRect)) (Ap0_0 : Option Addr) (cp0_0 : Nat) (hp0_0 : Sl (lo w.heap.size) w fl_TRect Ap0_0 cp0_0 p0) (p1 : TRect → Option Bool) (fid1 : Nat) (cap1 : List Value) (hg1 : ∀ args W, (callFunc fid1 args).run Try.prog W = .ok (.enter fid1 args) W) (hf1 : ∀ (z0 : TRect) (W' : World), Below w.heap.size w W' → ∀ y, p1 z0 = some y → Calls Try.prog fid1 (([(.agg #[(.int .i64 z0.X0), (.int .i64 z0.Y0), (.int .i64 z0.X1), (.int .i64 z0.Y1)])] : List Value) ++ cap1).toArray W' fun e W'' => e = .returned (.bool y) ∧ Below W'.heap.size W' W'') (r : Int) (H : F_slices_IndexFunc_Rect p0 p1 = some r) : Calls Try.prog 104 [(.slice Ap0_0 (p0).length cp0_0), (.func (.func fid1) #[] cap1.toArray)].toArray w fun e W' => e = .returned (.int .i64 r) ∧ Below w.heap.size w W' := by
  unfold F_slices_IndexFunc_Rect at H
  refine Tr.enter (n := 19) Try.func104 rfl rfl rfl ?_
  refine Tr.seq ?_
  refine Tr.region ?_
  refine Tr.val (wn rfl) rfl (fun _ _ h1 h2 => run_assign (h1.ev rfl)) ?_
  refine Tr.nil (Tr.normThen ?_)
  refine Tr.seq ?_
  refine Tr.seq ?_
  refine Tr.region ?_
  refine Tr.val (wn rfl) rfl (fun _ _ h1 h2 => run_move (h1.ev rfl)) ?_
  refine Tr.val (wn rfl) rfl (fun _ _ h1 h2 => run_len un_38 (h1.ev rfl)) ?_
  refine Tr.val (wn rfl) rfl (fun _ _ h1 h2 => run_move (h1.ev rfl)) ?_
  refine Tr.nil (Tr.normThen ?_)
  refine Tr.block ?_
  refine Tr.loop (σ := (List TRect) × Nat) (fun m s => m = s.1.length + 1 ∧ s.1 = List.drop s.2 p0 ∧ s.2 ≤ p0.length ∧ F_slices_IndexFunc_Rect_L1 p1 s.1 s.2 = some r) (fun s => [(0, (.slice Ap0_0 (p0).length cp0_0)), (1, (.func (.func fid1) #[] cap1.toArray)), (7, (.int .i64 (p0.length : Int))), (8, (.int .i64 (s.2 : Int)))]) (fun s => []) (p0.length + 1) (p0, 0) ⟨rfl, rfl, Nat.zero_le _, H⟩ (.cons rfl (.cons rfl (.cons rfl (.cons rfl .nil)))) .nil (fun _ h => absurd h.1 (by simp)) ?_
  intro m s hs
  obtain ⟨restF_slices_IndexFunc_Rect_L1, iF_slices_IndexFunc_Rect_L1⟩ := s
  obtain ⟨hmF_slices_IndexFunc_Rect_L1, hdF_slices_IndexFunc_Rect_L1, hiF_slices_IndexFunc_Rect_L1, H⟩ := hs
  replace hdF_slices_IndexFunc_Rect_L1 : restF_slices_IndexFunc_Rect_L1 = List.drop iF_slices_IndexFunc_Rect_L1 p0 := hdF_slices_IndexFunc_Rect_L1
  replace H : F_slices_IndexFunc_Rect_L1 p1 restF_slices_IndexFunc_Rect_L1 iF_slices_IndexFunc_Rect_L1 = some r := H
  replace hmF_slices_IndexFunc_Rect_L1 : m + 1 = restF_slices_IndexFunc_Rect_L1.length + 1 := hmF_slices_IndexFunc_Rect_L1
  obtain rfl : m = restF_slices_IndexFunc_Rect_L1.length := by omega
  clear hmF_slices_IndexFunc_Rect_L1
  show Tr _ _ (LF [(0, (.slice Ap0_0 (p0).length cp0_0)), (1, (.func (.func fid1) #[] cap1.toArray)), (7, (.int .i64 (p0.length : Int))), (8, (.int .i64 (iF_slices_IndexFunc_Rect_L1 : Int)))]) (LE []) _
  cases restF_slices_IndexFunc_Rect_L1 with
  | nil =>
    rw [F_slices_IndexFunc_Rect_L1.eq_1] at H
    refine Tr.seq ?_
    refine Tr.region ?_
    refine Tr.val (wn rfl) rfl (fun _ _ h1 h2 => run_lss (h1.ev rfl) (h1.ev rfl)) ?_
    refine Tr.nil (Tr.normThen ?_)
    refine Tr.seq ?_
    refine Tr.condF rfl (range_nil hdF_slices_IndexFunc_Rect_L1) ?_
    refine Tr.exit (Tr.exitThen (Tr.exitThen (Tr.exitBlock (Tr.normThen ?_))))
    refine Tr.seq ?_
    refine Tr.region ?_
    refine Tr.val (wn rfl) rfl (fun _ _ h1 h2 => run_assign (h1.ev rfl)) ?_
    refine Tr.nil (Tr.normThen ?_)
    refine Tr.ret ?_
    obtain rfl := Option.some.inj H
    exact Tr.out (m := [(.int .i64 (-1))]) [] (res_tmp rfl res_nil) (fun W hW => ⟨rfl, hW.below⟩)
  | cons xF_slices_IndexFunc_Rect_L1 restF_slices_IndexFunc_Rect_L1 =>
    rw [F_slices_IndexFunc_Rect_L1.eq_2] at H
    refine Tr.seq ?_
    refine Tr.region ?_
    refine Tr.val (wn rfl) rfl (fun _ _ h1 h2 => run_lss (h1.ev rfl) (h1.ev rfl)) ?_
    refine Tr.nil (Tr.normThen ?_)
    refine Tr.seq ?_
    refine Tr.condT rfl (range_on hdF_slices_IndexFunc_Rect_L1) ?_
    refine Tr.skip (Tr.normThen ?_)
    refine Tr.seq ?_
    refine Tr.block ?_
    refine Tr.seq ?_
    refine Tr.region ?_
    refine Tr.val (wn rfl) rfl (fun _ _ h1 h2 => run_move (h1.ev rfl)) ?_
    refine Tr.val (wn rfl) rfl (fun _ _ h1 h2 => run_assign (h1.ev rfl)) ?_
    refine Tr.nil (Tr.normThen ?_)
    refine Tr.seq ?_
    refine Tr.region ?_
    refine Tr.val (wn rfl) rfl (fun _ _ h1 h2 => run_move (h1.ev rfl)) ?_
    refine Tr.val (wn rfl) rfl (fun _ _ h1 h2 => run_move (h1.ev rfl)) ?_
    refine Tr.val (wn rfl) rfl (fun _ _ h1 h2 => run_move (h1.ev rfl)) ?_
    refine Tr.val (wn rfl) rfl (fun _ _ h1 h2 => run_indexAddr el_38 (h1.ev rfl) hp0_0.form (h1.ev rfl) (Int.natCast_nonneg _) (range_lt hdF_slices_IndexFunc_Rect_L1)) ?_
    refine Tr.val (wn rfl) rfl (fun _ _ h1 h2 => run_loadN (cs := [(.int .i64 xF_slices_IndexFunc_Rect_L1.X0), (.int .i64 xF_slices_IndexFunc_Rect_L1.Y0), (.int .i64 xF_slices_IndexFunc_Rect_L1.X1), (.int .i64 xF_slices_IndexFunc_Rect_L1.Y1)]) ag_42 sz_42 (h1.ev rfl) (CellsAt.take (Rd.arg hp0_0 (range_at hdF_slices_IndexFunc_Rect_L1) _ h2) 4) rfl) ?_
    obtain ⟨y4, hy4, H⟩ := bnd H
    refine Tr.callF (r := (.bool y4)) (wn rfl) rfl rfl hg1 (evl_cons rfl evl_nil) (fun W hW => hf1 xF_slices_IndexFunc_Rect_L1 W hW.below _ hy4) ?_
    refine Tr.nil (Tr.normThen ?_)
    refine Tr.cond rfl H (fun H => ?_) (fun H => ?_)
    · refine Tr.seq ?_
      refine Tr.region ?_
      refine Tr.val (wn rfl) rfl (fun _ _ h1 h2 => run_move (h1.ev rfl)) ?_
      refine Tr.val (wn rfl) rfl (fun _ _ h1 h2 => run_assign (h1.ev rfl)) ?_
      refine Tr.nil (Tr.normThen ?_)
      refine Tr.ret (Tr.retBlock (Tr.retThen (Tr.retThen (Tr.retBlock (Tr.retThen ?_)))))
      obtain rfl := Option.some.inj H
      exact Tr.out (m := [(.int .i64 (iF_slices_IndexFunc_Rect_L1 : Int))]) [] (res_tmp rfl res_nil) (fun W hW => ⟨rfl, hW.below⟩)
    · refine Tr.skip (Tr.normBlock (Tr.normThen ?_))
      refine Tr.region ?_
      refine Tr.val (wn rfl) rfl (fun _ _ h1 h2 => run_add (h1.ev rfl) (h1.ev rfl)) ?_
      refine Tr.val (wn rfl) rfl (fun _ _ h1 h2 => run_move (h1.ev rfl)) ?_
      refine Tr.nil ?_
      exact Tr.backThen (restF_slices_IndexFunc_Rect_L1, (iF_slices_IndexFunc_Rect_L1 + 1)) ⟨rfl, range_tl hdF_slices_IndexFunc_Rect_L1, range_lt hdF_slices_IndexFunc_Rect_L1, H⟩ (.cons rfl (.cons rfl (.cons rfl (.cons (congrArg (fun z => some (Value.int .i64 z)) (range_up hdF_slices_IndexFunc_Rect_L1 hp0_0.form)) .nil)))) .nil

theorem F_slices_ContainsFunc_Rect_ok {w : World} (p0 : (List TRect)) (Ap0_0 : Option Addr) (cp0_0 : Nat) (hp0_0 : Sl (lo w.heap.size) w fl_TRect Ap0_0 cp0_0 p0) (p1 : TRect → Option Bool) (fid1 : Nat) (cap1 : List Value) (hg1 : ∀ args W, (callFunc fid1 args).run Try.prog W = .ok (.enter fid1 args) W) (hf1 : ∀ (z0 : TRect) (W' : World), Below w.heap.size w W' → ∀ y, p1 z0 = some y → Calls Try.prog fid1 (([(.agg #[(.int .i64 z0.X0), (.int .i64 z0.Y0), (.int .i64 z0.X1), (.int .i64 z0.Y1)])] : List Value) ++ cap1).toArray W' fun e W'' => e = .returned (.bool y) ∧ Below W'.heap.size W' W'') (r : Bool) (H : F_slices_ContainsFunc_Rect p0 p1 = some r) : Calls Try.prog 69 [(.slice Ap0_0 (p0).length cp0_0), (.func (.func fid1) #[] cap1.toArray)].toArray w fun e W' => e = .returned (.bool r) ∧ Below w.heap.size w W' := by
  unfold F_slices_ContainsFunc_Rect at H
  refine Tr.enter (n := 9) Try.func69 rfl rfl rfl ?_
  refine Tr.seq ?_
  refine Tr.region ?_
  refine Tr.val (wn rfl) rfl (fun _ _ h1 h2 => run_assign (h1.ev rfl)) ?_
  refine Tr.nil (Tr.normThen ?_)
  refine Tr.seq ?_
  refine Tr.region ?_
  refine Tr.val (wn rfl) rfl (fun _ _ h1 h2 => run_move (h1.ev rfl)) ?_
  refine Tr.val (wn rfl) rfl (fun _ _ h1 h2 => run_move (h1.ev rfl)) ?_
  obtain ⟨y1, hy1, H⟩ := bnd H
  refine Tr.call0 (r := (.int .i64 y1)) (wn rfl) rfl Try.call104 (evl_cons rfl (evl_cons rfl evl_nil)) (fun W hW => F_slices_IndexFunc_Rect_ok p0 Ap0_0 cp0_0 (Sl.up hp0_0 hW) p1 fid1 cap1 hg1 (fun z0 W' hb => hf1 z0 W' (hW.below.trans (hb.mono hW.below.size))) y1 hy1) ?_
  refine Tr.val (wn rfl) rfl (fun _ _ h1 h2 => run_geq (h1.ev rfl) (h1.ev rfl)) ?_
  refine Tr.val (wn rfl) rfl (fun _ _ h1 h2 => run_assign (h1.ev rfl)) ?_
  refine Tr.nil (Tr.normThen ?_)
  refine Tr.ret ?_
  obtain rfl := Option.some.inj H
  exact Tr.out (m := [(.bool (decide (0 ≤ y1)))]) [] (res_tmp rfl res_nil) (fun W hW => ⟨rfl, hW.below⟩)

theorem F_panel_cells_ok {w : World} (p0 : TPanel) (Ap0_0 : Option Addr) (cp0_0 : Nat) (hp0_0 : Sl (lo w.heap.size) w fl_TBoardKind Ap0_0 cp0_0 p0.Kinds) (Ap0_1 : Option Addr) (cp0_1 : Nat) (hp0_1 : Sl (lo w.heap.size) w fl_TSlot Ap0_1 cp0_1 p0.Slots) (Ap0_2 : Option Addr) (cp0_2 : Nat) (hp0_2 : Sl (lo w.heap.size) w fl_TPoint Ap0_2 cp0_2 p0.Marks) (r : ((List TRect) × Int)) (H : F_panel_cells p0 = some r) : Calls Try.prog 95 [(.agg #[(.int .i64 p0.W), (.int .i64 p0.H), (.int .i64 p0.Rail), (.int .i64 p0.Gap), (.slice Ap0_0 (p0.Kinds).length cp0_0), (.slice Ap0_1 (p0.Slots).length cp0_1), (.slice Ap0_2 (p0.Marks).length cp0_2)])].toArray w fun e W' => ∃ u : Option Addr × Nat, e = .returned (.tuple #[(.slice u.1 (r.1).length u.2), (.int .i64 r.2)]) ∧ SlF u.1 (r.1).length u.2 ∧ Below w.heap.size w W' ∧ (∀ B, (ow u.1 u.2 42 fl_TRect r.1).loc B) ∧ (ow u.1 u.2 42 fl_TRect r.1).φ W' ∧ ∀ b, (ow u.1 u.2 42 fl_TRect r.1).S b → w.heap.size ≤ b ∧ b < W'.heap.size := by
  unfold F_panel_cells at H
  refine Tr.enter (n := 62) Try.func95 rfl rfl rfl ?_
  refine Tr.seq ?_
  refine Tr.region ?_
  refine Tr.box 1 (cs := [(.int .i64 p0.W), (.int .i64 p0.H), (.int .i64 p0.Rail), (.int .i64 p0.Gap), (.slice Ap0_0 (p0.Kinds).length cp0_0), (.slice Ap0_1 (p0.Slots).length cp0_1), (.slice Ap0_2 (p0.Marks).length cp0_2)]) (wn rfl) rfl rfl rfl fun b1 => ?_
  refine Tr.val (wn rfl) rfl (fun _ _ h1 h2 => run_assign (h1.ev rfl)) ?_
  refine Tr.nilOwn 2 42 fl_TRect ?_
  refine Tr.val (wn rfl) rfl (fun _ _ h1 h2 => run_assign (h1.ev rfl)) ?_
  refine Tr.nil (Tr.normThen ?_)
  refine Tr.seq ?_
  refine Tr.seq ?_
  refine Tr.region ?_
  refine Tr.val (wn rfl) rfl (fun _ _ h1 h2 => run_fieldAddr fo_26_5 (h1.ev rfl)) ?_
  refine Tr.val (wn rfl) rfl (fun _ _ h1 h2 => run_load1 ag_23 (h1.ev rfl) (rdb h2 (vs := [(.int .i64 p0.W), (.int .i64 p0.H), (.int .i64 p0.Rail), (.int .i64 p0.Gap), (.slice Ap0_0 (p0.Kinds).length cp0_0), (.slice Ap0_1 (p0.Slots).length cp0_1), (.slice Ap0_2 (p0.Marks).length cp0_2)]) (k := 1) rfl 5) rfl) ?_
  refine Tr.val (wn rfl) rfl (fun _ _ h1 h2 => run_len un_23 (h1.ev rfl)) ?_
  refine Tr.val (wn rfl) rfl (fun _ _ h1 h2 => run_gtr (h1.ev rfl) (h1.ev rfl)) ?_
  refine Tr.nil (Tr.normThen ?_)
  refine Tr.cond rfl H (fun H => ?_) (fun H => ?_)
  · refine Tr.seq ?_
    refine Tr.region ?_
    refine Tr.val (wn rfl) rfl (fun _ _ h1 h2 => run_assign (h1.ev rfl)) ?_
    refine Tr.nilOwn 3 42 fl_TRect ?_
    refine Tr.val (wn rfl) rfl (fun _ _ h1 h2 => run_assign (h1.ev rfl)) ?_
    refine Tr.nil (Tr.normThen ?_)
    refine Tr.ret (Tr.retThen ?_)
    obtain rfl := Option.some.inj H
    exact Tr.out (m := [(.slice none (([] : List TRect)).length 0), (.int .i64 2)]) [] (res_tmp rfl (res_tmp rfl res_nil)) (fun W hW => ⟨(none, 0), rfl, slf_nil, hW.below, fun B => ow_loc B _ _ _ _ _, hW.ow (k := 3) rfl, fun b hb => hW.bd 3 b hb⟩)
  · refine Tr.skip (Tr.normThen ?_)
    refine Tr.seq ?_
    refine Tr.region ?_
    refine Tr.val (wn rfl) rfl (fun _ _ h1 h2 => run_assign (h1.ev rfl)) ?_
    refine Tr.nilOwn 4 42 fl_TRect ?_
    refine Tr.nil (Tr.normThen ?_)
    refine Tr.seq ?_
    refine Tr.seq ?_
    refine Tr.region ?_
    refine Tr.val (wn rfl) rfl (fun _ _ h1 h2 => run_fieldAddr fo_26_5 (h1.ev rfl)) ?_
    refine Tr.val (wn rfl) rfl (fun _ _ h1 h2 => run_load1 ag_23 (h1.ev rfl) (rdb h2 (vs := [(.int .i64 p0.W), (.int .i64 p0.H), (.int .i64 p0.Rail), (.int .i64 p0.Gap), (.slice Ap0_0 (p0.Kinds).length cp0_0), (.slice Ap0_1 (p0.Slots).length cp0_1), (.slice Ap0_2 (p0.Marks).length cp0_2)]) (k := 1) rfl 5) rfl) ?_
    refine Tr.val (wn rfl) rfl (fun _ _ h1 h2 => run_len un_23 (h1.ev rfl)) ?_
    refine Tr.val (wn rfl) rfl (fun _ _ h1 h2 => run_move (h1.ev rfl)) ?_
    refine Tr.nil (Tr.normThen ?_)
    refine Tr.block ?_
    refine Tr.loop (σ := (List TSlot) × Nat × (List TRect) × (Option Addr) × Nat) (fun m s => m = s.1.length + 1 ∧ s.1 = List.drop s.2.1 p0.Slots ∧ s.2.1 ≤ p0.Slots.length ∧ F_panel_cells_L1 p0 s.1 s.2.1 s.2.2.1 = some r ∧ SlF s.2.2.2.1 (s.2.2.1).length s.2.2.2.2) (fun s => [(1, (.pointer (some ⟨b1, 0, none⟩))), (4, (.slice s.2.2.2.1 (s.2.2.1).length s.2.2.2.2)), (13, (.slice Ap0_1 (p0.Slots).length cp0_1)), (14, (.int .i64 (p0.Slots.length : Int))), (15, (.int .i64 (s.2.1 : Int)))]) (fun s => [(1, bx b1 #[(.int .i64 p0.W), (.int .i64 p0.H), (.int .i64 p0.Rail), (.int .i64 p0.Gap), (.slice Ap0_0 (p0.Kinds).length cp0_0), (.slice Ap0_1 (p0.Slots).length cp0_1), (.slice Ap0_2 (p0.Marks).length cp0_2)] 26), (4, ow s.2.2.2.1 s.2.2.2.2 42 fl_TRect s.2.2.1)]) (p0.Slots.length + 1) (p0.Slots, 0, ([] : List TRect), none, 0) ⟨rfl, rfl, Nat.zero_le _, H, slf_nil⟩ (.cons rfl (.cons rfl (.cons rfl (.cons rfl (.cons rfl .nil))))) (.cons rfl (.cons rfl .nil)) (fun _ h => absurd h.1 (by simp)) ?_
    intro m s hs
    obtain ⟨restF_panel_cells_L1, iF_panel_cells_L1, l33, Al33, cl33⟩ := s
    obtain ⟨hmF_panel_cells_L1, hdF_panel_cells_L1, hiF_panel_cells_L1, H, hAl33⟩ := hs
    replace hdF_panel_cells_L1 : restF_panel_cells_L1 = List.drop iF_panel_cells_L1 p0.Slots := hdF_panel_cells_L1
    replace H : F_panel_cells_L1 p0 restF_panel_cells_L1 iF_panel_cells_L1 l33 = some r := H
    replace hmF_panel_cells_L1 : m + 1 = restF_panel_cells_L1.length + 1 := hmF_panel_cells_L1
    replace hAl33 : SlF Al33 (l33).length cl33 := hAl33
    obtain rfl : m = restF_panel_cells_L1.length := by omega
    clear hmF_panel_cells_L1
    show Tr _ _ (LF [(1, (.pointer (some ⟨b1, 0, none⟩))), (4, (.slice Al33 (l33).length cl33)), (13, (.slice Ap0_1 (p0.Slots).length cp0_1)), (14, (.int .i64 (p0.Slots.length : Int))), (15, (.int .i64 (iF_panel_cells_L1 : Int)))]) (LE [(1, bx b1 #[(.int .i64 p0.W), (.int .i64 p0.H), (.int .i64 p0.Rail), (.int .i64 p0.Gap), (.slice Ap0_0 (p0.Kinds).length cp0_0), (.slice Ap0_1 (p0.Slots).length cp0_1), (.slice Ap0_2 (p0.Marks).length cp0_2)] 26), (4, ow Al33 cl33 42 fl_TRect l33)]) _
    cases restF_panel_cells_L1 with
    | nil =>
      rw [F_panel_cells_L1.eq_1] at H
      refine Tr.seq ?_
      refine Tr.region ?_
      refine Tr.val (wn rfl) rfl (fun _ _ h1 h2 => run_lss (h1.ev rfl) (h1.ev rfl)) ?_
      refine Tr.nil (Tr.normThen ?_)
      refine Tr.seq ?_
      refine Tr.condF rfl (range_nil hdF_panel_cells_L1) ?_
      refine Tr.exit (Tr.exitThen (Tr.exitThen (Tr.exitBlock (Tr.normThen ?_))))
      refine Tr.seq ?_
      refine Tr.region ?_
      refine Tr.val (wn rfl) rfl (fun _ _ h1 h2 => run_move (h1.ev rfl)) ?_
      refine Tr.val (wn rfl) rfl (fun _ _ h1 h2 => run_assign (h1.ev rfl)) ?_
      refine Tr.val (wn rfl) rfl (fun _ _ h1 h2 => run_assign (h1.ev rfl)) ?_
      refine Tr.nil (Tr.normThen ?_)
      refine Tr.ret ?_
      obtain rfl := Option.some.inj H
      exact Tr.out (m := [(.slice Al33 (l33).length cl33), (.int .i64 0)]) [] (res_tmp rfl (res_tmp rfl res_nil)) (fun W hW => ⟨(Al33, cl33), rfl, hAl33, hW.below, fun B => ow_loc B _ _ _ _ _, hW.ow (k := 4) rfl, fun b hb => hW.bd 4 b hb⟩)
    | cons xF_panel_cells_L1 restF_panel_cells_L1 =>
      rw [F_panel_cells_L1.eq_2] at H
      refine Tr.seq ?_
      refine Tr.region ?_
      refine Tr.val (wn rfl) rfl (fun _ _ h1 h2 => run_lss (h1.ev rfl) (h1.ev rfl)) ?_
      refine Tr.nil (Tr.normThen ?_)
      refine Tr.seq ?_
      refine Tr.condT rfl (range_on hdF_panel_cells_L1) ?_
      refine Tr.skip (Tr.normThen ?_)
      refine Tr.seq ?_
      refine Tr.block ?_
      refine Tr.seq ?_
      refine Tr.region ?_
      refine Tr.val (wn rfl) rfl (fun _ _ h1 h2 => run_indexAddr el_23 (h1.ev rfl) hp0_1.form (h1.ev rfl) (Int.natCast_nonneg _) (range_lt hdF_panel_cells_L1)) ?_
      refine Tr.val (wn rfl) rfl (fun _ _ h1 h2 => run_loadN (cs := [(.string xF_panel_cells_L1.Board), (.int .i64 xF_panel_cells_L1.Quarters), (.int .i64 xF_panel_cells_L1.At.X), (.int .i64 xF_panel_cells_L1.At.Y)]) ag_34 sz_34 (h1.ev rfl) (CellsAt.take (Rd.arg hp0_1 (range_at hdF_panel_cells_L1) _ h2) 4) rfl) ?_
      refine Tr.alloc 19 (wn rfl) rfl ze_34 fun b19 => ?_
      refine Tr.store 19 (cs := [(.string xF_panel_cells_L1.Board), (.int .i64 xF_panel_cells_L1.Quarters), (.int .i64 xF_panel_cells_L1.At.X), (.int .i64 xF_panel_cells_L1.At.Y)]) [(.string xF_panel_cells_L1.Board), (.int .i64 xF_panel_cells_L1.Quarters), (.int .i64 xF_panel_cells_L1.At.X), (.int .i64 xF_panel_cells_L1.At.Y)] (wn rfl) rfl rfl rfl rfl sz_34 rfl rfl rfl ?_
      refine Tr.nil (Tr.normThen ?_)
      refine Tr.seq ?_
      refine Tr.seq ?_
      refine Tr.region ?_
      refine Tr.val (wn rfl) rfl (fun _ _ h1 h2 => run_loadN (cs := [(.int .i64 p0.W), (.int .i64 p0.H), (.int .i64 p0.Rail), (.int .i64 p0.Gap), (.slice Ap0_0 (p0.Kinds).length cp0_0), (.slice Ap0_1 (p0.Slots).length cp0_1), (.slice Ap0_2 (p0.Marks).length cp0_2)]) ag_26 sz_26 (h1.ev rfl) (CellsAt.take (rdb h2 (vs := [(.int .i64 p0.W), (.int .i64 p0.H), (.int .i64 p0.Rail), (.int .i64 p0.Gap), (.slice Ap0_0 (p0.Kinds).length cp0_0), (.slice Ap0_1 (p0.Slots).length cp0_1), (.slice Ap0_2 (p0.Marks).length cp0_2)]) (k := 1) rfl 0) 7) rfl) ?_
      refine Tr.val (wn rfl) rfl (fun _ _ h1 h2 => run_fieldAddr fo_34_0 (h1.ev rfl)) ?_
      refine Tr.val (wn rfl) rfl (fun _ _ h1 h2 => run_load1 ag_9 (h1.ev rfl) (rdb h2 (vs := [(.string xF_panel_cells_L1.Board), (.int .i64 xF_panel_cells_L1.Quarters), (.int .i64 xF_panel_cells_L1.At.X), (.int .i64 xF_panel_cells_L1.At.Y)]) (k := 19) rfl 0) rfl) ?_
      obtain ⟨y34, hy34, H⟩ := bnd H
      refine Tr.call0 (r := (.int .i64 y34)) (wn rfl) rfl Try.call45 (evl_cons rfl (evl_cons rfl evl_nil)) (fun W hW => F_panel_kindAt_ok p0 Ap0_0 cp0_0 (Sl.up hp0_0 hW) Ap0_1 cp0_1 (Sl.up hp0_1 hW) Ap0_2 cp0_2 (Sl.up hp0_2 hW) xF_panel_cells_L1.Board y34 hy34) ?_
      refine Tr.val (wn rfl) rfl (fun _ _ h1 h2 => run_lss (h1.ev rfl) (h1.ev rfl)) ?_
      refine Tr.nil (Tr.normThen ?_)
      refine Tr.cond rfl H (fun H => ?_) (fun H => ?_)
      · refine Tr.seq ?_
        refine Tr.region ?_
        refine Tr.val (wn rfl) rfl (fun _ _ h1 h2 => run_assign (h1.ev rfl)) ?_
        refine Tr.nilOwn 20 42 fl_TRect ?_
        refine Tr.val (wn rfl) rfl (fun _ _ h1 h2 => run_assign (h1.ev rfl)) ?_
        refine Tr.nil (Tr.normThen ?_)
        refine Tr.ret (Tr.retThen (Tr.retBlock (Tr.retThen (Tr.retThen (Tr.retBlock (Tr.retThen ?_))))))
        obtain rfl := Option.some.inj H
        exact Tr.out (m := [(.slice none (([] : List TRect)).length 0), (.int .i64 5)]) [] (res_tmp rfl (res_tmp rfl res_nil)) (fun W hW => ⟨(none, 0), rfl, slf_nil, hW.below, fun B => ow_loc B _ _ _ _ _, hW.ow (k := 20) rfl, fun b hb => hW.bd 20 b hb⟩)
      · refine Tr.skip (Tr.normThen ?_)
        refine Tr.seq ?_
        refine Tr.seq ?_
        refine Tr.region ?_
        refine Tr.val (wn rfl) rfl (fun _ _ h1 h2 => run_fieldAddr fo_34_1 (h1.ev rfl)) ?_
        refine Tr.val (wn rfl) rfl (fun _ _ h1 h2 => run_load1 ag_3 (h1.ev rfl) (rdb h2 (vs := [(.string xF_panel_cells_L1.Board), (.int .i64 xF_panel_cells_L1.Quarters), (.int .i64 xF_panel_cells_L1.At.X), (.int .i64 xF_panel_cells_L1.At.Y)]) (k := 19) rfl 1) rfl) ?_
        obtain ⟨y35, hy35, H⟩ := bnd H
        refine Tr.call0 (r := (.bool y35)) (wn rfl) rfl Try.call46 (evl_cons rfl (evl_cons rfl (evl_cons rfl evl_nil))) (fun W hW => F_panel_within_ok xF_panel_cells_L1.Quarters 0 3 y35 hy35) ?_
        refine Tr.val (wn rfl) rfl (fun _ _ h1 h2 => run_not (h1.ev rfl)) ?_
        refine Tr.val (wn rfl) rfl (fun _ _ h1 h2 => run_move (h1.ev rfl)) ?_
        obtain ⟨g37, hg37, H⟩ := bnd H
        refine Tr.mid (σ := Unit) 8 (fun _ => True) (fun _ => [(1, (.pointer (some ⟨b1, 0, none⟩))), (4, (.slice Al33 (l33).length cl33)), (6, (.pointer (some ⟨b19, 0, none⟩))), (13, (.slice Ap0_1 (p0.Slots).length cp0_1)), (14, (.int .i64 (p0.Slots.length : Int))), (15, (.int .i64 (iF_panel_cells_L1 : Int))), (36, (.bool g37))]) (fun _ => [(1, bx b1 #[(.int .i64 p0.W), (.int .i64 p0.H), (.int .i64 p0.Rail), (.int .i64 p0.Gap), (.slice Ap0_0 (p0.Kinds).length cp0_0), (.slice Ap0_1 (p0.Slots).length cp0_1), (.slice Ap0_2 (p0.Marks).length cp0_2)] 26), (4, ow Al33 cl33 42 fl_TRect l33), (19, bx b19 #[(.string xF_panel_cells_L1.Board), (.int .i64 xF_panel_cells_L1.Quarters), (.int .i64 xF_panel_cells_L1.At.X), (.int .i64 xF_panel_cells_L1.At.Y)] 34)]) ?_ ?_
        · cases hg45 : (!y35)
          · rw [hg45] at hg37
            rw [if_neg (by decide)] at hg37
            have H := hg37
            refine Tr.val (wg rfl rfl rfl) rfl (fun _ _ h1 h2 => run_fieldAddr fo_34_2 (h1.ev rfl)) ?_
            refine Tr.val (wg rfl rfl rfl) rfl (fun _ _ h1 h2 => run_fieldAddr fo_32_0 (h1.ev rfl)) ?_
            refine Tr.val (wg rfl rfl rfl) rfl (fun _ _ h1 h2 => run_load1 ag_3 (h1.ev rfl) (rdb h2 (vs := [(.string xF_panel_cells_L1.Board), (.int .i64 xF_panel_cells_L1.Quarters), (.int .i64 xF_panel_cells_L1.At.X), (.int .i64 xF_panel_cells_L1.At.Y)]) (k := 19) rfl 2) rfl) ?_
            refine Tr.val (wg rfl rfl rfl) rfl (fun _ _ h1 h2 => run_fieldAddr fo_26_0 (h1.ev rfl)) ?_
            refine Tr.val (wg rfl rfl rfl) rfl (fun _ _ h1 h2 => run_load1 ag_3 (h1.ev rfl) (rdb h2 (vs := [(.int .i64 p0.W), (.int .i64 p0.H), (.int .i64 p0.Rail), (.int .i64 p0.Gap), (.slice Ap0_0 (p0.Kinds).length cp0_0), (.slice Ap0_1 (p0.Slots).length cp0_1), (.slice Ap0_2 (p0.Marks).length cp0_2)]) (k := 1) rfl 0) rfl) ?_
            obtain ⟨y38, hy38, H⟩ := bnd H
            refine Tr.call0 (r := (.bool y38)) (wg rfl rfl rfl) rfl Try.call46 (evl_cons rfl (evl_cons rfl (evl_cons rfl evl_nil))) (fun W hW => F_panel_within_ok xF_panel_cells_L1.At.X 0 p0.W y38 hy38) ?_
            refine Tr.val (wg rfl rfl rfl) rfl (fun _ _ h1 h2 => run_not (h1.ev rfl)) ?_
            refine Tr.val (wn rfl) rfl (fun _ _ h1 h2 => run_pickF (h1.ev rfl) (h1.ev rfl)) ?_
            obtain rfl := Option.some.inj H
            exact Tr.nil (Tr.backThen () trivial (.cons rfl (.cons rfl (.cons rfl (.cons rfl (.cons rfl (.cons rfl (.cons rfl .nil))))))) (.cons rfl (.cons rfl (.cons rfl .nil))))
          · rw [hg45] at hg37
            rw [if_pos rfl] at hg37
            have H := hg37
            obtain rfl := Option.some.inj H
            refine Tr.pass rfl rfl rfl rfl rfl (by decide) ?_
            refine Tr.pass rfl rfl rfl rfl rfl (by decide) ?_
            refine Tr.pass rfl rfl rfl rfl rfl (by decide) ?_
            refine Tr.pass rfl rfl rfl rfl rfl (by decide) ?_
            refine Tr.pass rfl rfl rfl rfl rfl (by decide) ?_
            refine Tr.pass rfl rfl rfl rfl rfl (by decide) ?_
            refine Tr.pass rfl rfl rfl rfl rfl (by decide) ?_
            refine Tr.val (wn rfl) rfl (fun _ _ h1 h2 => run_pickT (h1.ev rfl) (h1.ev rfl)) ?_
            exact Tr.nil (Tr.backThen () trivial (.cons rfl (.cons rfl (.cons rfl (.cons rfl (.cons rfl (.cons rfl (.cons rfl .nil))))))) (.cons rfl (.cons rfl (.cons rfl .nil))))
        · intro _ _
          show Tr _ _ (LF [(1, (.pointer (some ⟨b1, 0, none⟩))), (4, (.slice Al33 (l33).length cl33)), (6, (.pointer (some ⟨b19, 0, none⟩))), (13, (.slice Ap0_1 (p0.Slots).length cp0_1)), (14, (.int .i64 (p0.Slots.length : Int))), (15, (.int .i64 (iF_panel_cells_L1 : Int))), (36, (.bool g37))]) (LE [(1, bx b1 #[(.int .i64 p0.W), (.int .i64 p0.H), (.int .i64 p0.Rail), (.int .i64 p0.Gap), (.slice Ap0_0 (p0.Kinds).length cp0_0), (.slice Ap0_1 (p0.Slots).length cp0_1), (.slice Ap0_2 (p0.Marks).length cp0_2)] 26), (4, ow Al33 cl33 42 fl_TRect l33), (19, bx b19 #[(.string xF_panel_cells_L1.Board), (.int .i64 xF_panel_cells_L1.Quarters), (.int .i64 xF_panel_cells_L1.At.X), (.int .i64 xF_panel_cells_L1.At.Y)] 34)]) _
          refine Tr.val (wn rfl) rfl (fun _ _ h1 h2 => run_move (h1.ev rfl)) ?_
          obtain ⟨g40, hg40, H⟩ := bnd H
          refine Tr.mid (σ := Unit) 8 (fun _ => True) (fun _ => [(1, (.pointer (some ⟨b1, 0, none⟩))), (4, (.slice Al33 (l33).length cl33)), (6, (.pointer (some ⟨b19, 0, none⟩))), (13, (.slice Ap0_1 (p0.Slots).length cp0_1)), (14, (.int .i64 (p0.Slots.length : Int))), (15, (.int .i64 (iF_panel_cells_L1 : Int))), (45, (.bool g40))]) (fun _ => [(1, bx b1 #[(.int .i64 p0.W), (.int .i64 p0.H), (.int .i64 p0.Rail), (.int .i64 p0.Gap), (.slice Ap0_0 (p0.Kinds).length cp0_0), (.slice Ap0_1 (p0.Slots).length cp0_1), (.slice Ap0_2 (p0.Marks).length cp0_2)] 26), (4, ow Al33 cl33 42 fl_TRect l33), (19, bx b19 #[(.string xF_panel_cells_L1.Board), (.int .i64 xF_panel_cells_L1.Quarters), (.int .i64 xF_panel_cells_L1.At.X), (.int .i64 xF_panel_cells_L1.At.Y)] 34)]) ?_ ?_
          · cases hg45 : g37
            · rw [hg45] at hg40
              rw [if_neg (by decide)] at hg40
              have H := hg40
              refine Tr.val (wg rfl rfl rfl) rfl (fun _ _ h1 h2 => run_fieldAddr fo_34_2 (h1.ev rfl)) ?_
              refine Tr.val (wg rfl rfl rfl) rfl (fun _ _ h1 h2 => run_fieldAddr fo_32_1 (h1.ev rfl)) ?_
              refine Tr.val (wg rfl rfl rfl) rfl (fun _ _ h1 h2 => run_load1 ag_3 (h1.ev rfl) (rdb h2 (vs := [(.string xF_panel_cells_L1.Board), (.int .i64 xF_panel_cells_L1.Quarters), (.int .i64 xF_panel_cells_L1.At.X), (.int .i64 xF_panel_cells_L1.At.Y)]) (k := 19) rfl 3) rfl) ?_
              refine Tr.val (wg rfl rfl rfl) rfl (fun _ _ h1 h2 => run_fieldAddr fo_26_1 (h1.ev rfl)) ?_
              refine Tr.val (wg rfl rfl rfl) rfl (fun _ _ h1 h2 => run_load1 ag_3 (h1.ev rfl) (rdb h2 (vs := [(.int .i64 p0.W), (.int .i64 p0.H), (.int .i64 p0.Rail), (.int .i64 p0.Gap), (.slice Ap0_0 (p0.Kinds).length cp0_0), (.slice Ap0_1 (p0.Slots).length cp0_1), (.slice Ap0_2 (p0.Marks).length cp0_2)]) (k := 1) rfl 1) rfl) ?_
              obtain ⟨y41, hy41, H⟩ := bnd H
              refine Tr.call0 (r := (.bool y41)) (wg rfl rfl rfl) rfl Try.call46 (evl_cons rfl (evl_cons rfl (evl_cons rfl evl_nil))) (fun W hW => F_panel_within_ok xF_panel_cells_L1.At.Y 0 p0.H y41 hy41) ?_
              refine Tr.val (wg rfl rfl rfl) rfl (fun _ _ h1 h2 => run_not (h1.ev rfl)) ?_
              refine Tr.val (wn rfl) rfl (fun _ _ h1 h2 => run_pickF (h1.ev rfl) (h1.ev rfl)) ?_
              obtain rfl := Option.some.inj H
              exact Tr.nil (Tr.backThen () trivial (.cons rfl (.cons rfl (.cons rfl (.cons rfl (.cons rfl (.cons rfl (.cons rfl .nil))))))) (.cons rfl (.cons rfl (.cons rfl .nil))))
            · rw [hg45] at hg40
              rw [if_pos rfl] at hg40
              have H := hg40
              obtain rfl := Option.some.inj H
              refine Tr.pass rfl rfl rfl rfl rfl (by decide) ?_
              refine Tr.pass rfl rfl rfl rfl rfl (by decide) ?_
              refine Tr.pass rfl rfl rfl rfl rfl (by decide) ?_
              refine Tr.pass rfl rfl rfl rfl rfl (by decide) ?_
              refine Tr.pass rfl rfl rfl rfl rfl (by decide) ?_
              refine Tr.pass rfl rfl rfl rfl rfl (by decide) ?_
              refine Tr.pass rfl rfl rfl rfl rfl (by decide) ?_
              refine Tr.val (wn rfl) rfl (fun _ _ h1 h2 => run_pickT (h1.ev rfl) (h1.ev rfl)) ?_
              exact Tr.nil (Tr.backThen () trivial (.cons rfl (.cons rfl (.cons rfl (.cons rfl (.cons rfl (.cons rfl (.cons rfl .nil))))))) (.cons rfl (.cons rfl (.cons rfl .nil))))
          · intro _ _
            show Tr _ _ (LF [(1, (.pointer (some ⟨b1, 0, none⟩))), (4, (.slice Al33 (l33).length cl33)), (6, (.pointer (some ⟨b19, 0, none⟩))), (13, (.slice Ap0_1 (p0.Slots).length cp0_1)), (14, (.int .i64 (p0.Slots.length : Int))), (15, (.int .i64 (iF_panel_cells_L1 : Int))), (45, (.bool g40))]) (LE [(1, bx b1 #[(.int .i64 p0.W), (.int .i64 p0.H), (.int .i64 p0.Rail), (.int .i64 p0.Gap), (.slice Ap0_0 (p0.Kinds).length cp0_0), (.slice Ap0_1 (p0.Slots).length cp0_1), (.slice Ap0_2 (p0.Marks).length cp0_2)] 26), (4, ow Al33 cl33 42 fl_TRect l33), (19, bx b19 #[(.string xF_panel_cells_L1.Board), (.int .i64 xF_panel_cells_L1.Quarters), (.int .i64 xF_panel_cells_L1.At.X), (.int .i64 xF_panel_cells_L1.At.Y)] 34)]) _
            refine Tr.nil (Tr.normThen ?_)
            refine Tr.cond rfl H (fun H => ?_) (fun H => ?_)
            · refine Tr.seq ?_
              refine Tr.region ?_
              refine Tr.val (wn rfl) rfl (fun _ _ h1 h2 => run_assign (h1.ev rfl)) ?_
              refine Tr.nilOwn 21 42 fl_TRect ?_
              refine Tr.val (wn rfl) rfl (fun _ _ h1 h2 => run_assign (h1.ev rfl)) ?_
              refine Tr.nil (Tr.normThen ?_)
              refine Tr.ret (Tr.retThen (Tr.retBlock (Tr.retThen (Tr.retThen (Tr.retBlock (Tr.retThen ?_))))))
              obtain rfl := Option.some.inj H
              exact Tr.out (m := [(.slice none (([] : List TRect)).length 0), (.int .i64 1)]) [] (res_tmp rfl (res_tmp rfl res_nil)) (fun W hW => ⟨(none, 0), rfl, slf_nil, hW.below, fun B => ow_loc B _ _ _ _ _, hW.ow (k := 21) rfl, fun b hb => hW.bd 21 b hb⟩)
            · refine Tr.skip (Tr.normThen ?_)
              refine Tr.seq ?_
              refine Tr.region ?_
              refine Tr.val (wn rfl) rfl (fun _ _ h1 h2 => run_loadN (cs := [(.int .i64 p0.W), (.int .i64 p0.H), (.int .i64 p0.Rail), (.int .i64 p0.Gap), (.slice Ap0_0 (p0.Kinds).length cp0_0), (.slice Ap0_1 (p0.Slots).length cp0_1), (.slice Ap0_2 (p0.Marks).length cp0_2)]) ag_26 sz_26 (h1.ev rfl) (CellsAt.take (rdb h2 (vs := [(.int .i64 p0.W), (.int .i64 p0.H), (.int .i64 p0.Rail), (.int .i64 p0.Gap), (.slice Ap0_0 (p0.Kinds).length cp0_0), (.slice Ap0_1 (p0.Slots).length cp0_1), (.slice Ap0_2 (p0.Marks).length cp0_2)]) (k := 1) rfl 0) 7) rfl) ?_
              refine Tr.val (wn rfl) rfl (fun _ _ h1 h2 => run_loadN (cs := [(.string xF_panel_cells_L1.Board), (.int .i64 xF_panel_cells_L1.Quarters), (.int .i64 xF_panel_cells_L1.At.X), (.int .i64 xF_panel_cells_L1.At.Y)]) ag_34 sz_34 (h1.ev rfl) (CellsAt.take (rdb h2 (vs := [(.string xF_panel_cells_L1.Board), (.int .i64 xF_panel_cells_L1.Quarters), (.int .i64 xF_panel_cells_L1.At.X), (.int .i64 xF_panel_cells_L1.At.Y)]) (k := 19) rfl 0) 4) rfl) ?_
              obtain ⟨y42, hy42, H⟩ := bnd H
              refine Tr.call0 (r := (.agg #[(.int .i64 y42.X0), (.int .i64 y42.Y0), (.int .i64 y42.X1), (.int .i64 y42.Y1)])) (wn rfl) rfl Try.call114 (evl_cons rfl (evl_cons rfl evl_nil)) (fun W hW => F_panel_cellOf_ok p0 Ap0_0 cp0_0 (Sl.up hp0_0 hW) Ap0_1 cp0_1 (Sl.up hp0_1 hW) Ap0_2 cp0_2 (Sl.up hp0_2 hW) xF_panel_cells_L1 y42 hy42) ?_
              refine Tr.alloc 22 (wn rfl) rfl ze_42 fun b22 => ?_
              refine Tr.store 22 (cs := [(.int .i64 y42.X0), (.int .i64 y42.Y0), (.int .i64 y42.X1), (.int .i64 y42.Y1)]) [(.int .i64 y42.X0), (.int .i64 y42.Y0), (.int .i64 y42.X1), (.int .i64 y42.Y1)] (wn rfl) rfl rfl rfl rfl sz_42 rfl rfl rfl ?_
              refine Tr.nil (Tr.normThen ?_)
              refine Tr.seq ?_
              refine Tr.seq ?_
              refine Tr.region ?_
              refine Tr.val (wn rfl) rfl (fun _ _ h1 h2 => run_loadN (cs := [(.int .i64 p0.W), (.int .i64 p0.H), (.int .i64 p0.Rail), (.int .i64 p0.Gap), (.slice Ap0_0 (p0.Kinds).length cp0_0), (.slice Ap0_1 (p0.Slots).length cp0_1), (.slice Ap0_2 (p0.Marks).length cp0_2)]) ag_26 sz_26 (h1.ev rfl) (CellsAt.take (rdb h2 (vs := [(.int .i64 p0.W), (.int .i64 p0.H), (.int .i64 p0.Rail), (.int .i64 p0.Gap), (.slice Ap0_0 (p0.Kinds).length cp0_0), (.slice Ap0_1 (p0.Slots).length cp0_1), (.slice Ap0_2 (p0.Marks).length cp0_2)]) (k := 1) rfl 0) 7) rfl) ?_
              refine Tr.val (wn rfl) rfl (fun _ _ h1 h2 => run_loadN (cs := [(.int .i64 y42.X0), (.int .i64 y42.Y0), (.int .i64 y42.X1), (.int .i64 y42.Y1)]) ag_42 sz_42 (h1.ev rfl) (CellsAt.take (rdb h2 (vs := [(.int .i64 y42.X0), (.int .i64 y42.Y0), (.int .i64 y42.X1), (.int .i64 y42.Y1)]) (k := 22) rfl 0) 4) rfl) ?_
              obtain ⟨y43, hy43, H⟩ := bnd H
              refine Tr.call0 (r := (.bool y43)) (wn rfl) rfl Try.call68 (evl_cons rfl (evl_cons rfl evl_nil)) (fun W hW => F_panel_isOn_ok p0 Ap0_0 cp0_0 (Sl.up hp0_0 hW) Ap0_1 cp0_1 (Sl.up hp0_1 hW) Ap0_2 cp0_2 (Sl.up hp0_2 hW) y42 y43 hy43) ?_
              refine Tr.val (wn rfl) rfl (fun _ _ h1 h2 => run_not (h1.ev rfl)) ?_
              refine Tr.nil (Tr.normThen ?_)
              refine Tr.cond rfl H (fun H => ?_) (fun H => ?_)
              · refine Tr.seq ?_
                refine Tr.region ?_
                refine Tr.val (wn rfl) rfl (fun _ _ h1 h2 => run_assign (h1.ev rfl)) ?_
                refine Tr.nilOwn 23 42 fl_TRect ?_
                refine Tr.val (wn rfl) rfl (fun _ _ h1 h2 => run_assign (h1.ev rfl)) ?_
                refine Tr.nil (Tr.normThen ?_)
                refine Tr.ret (Tr.retThen (Tr.retBlock (Tr.retThen (Tr.retThen (Tr.retBlock (Tr.retThen ?_))))))
                obtain rfl := Option.some.inj H
                exact Tr.out (m := [(.slice none (([] : List TRect)).length 0), (.int .i64 1)]) [] (res_tmp rfl (res_tmp rfl res_nil)) (fun W hW => ⟨(none, 0), rfl, slf_nil, hW.below, fun B => ow_loc B _ _ _ _ _, hW.ow (k := 23) rfl, fun b hb => hW.bd 23 b hb⟩)
              · refine Tr.skip (Tr.normThen ?_)
                refine Tr.seq ?_
                refine Tr.seq ?_
                refine Tr.region ?_
                refine Tr.val (wn rfl) rfl (fun _ _ h1 h2 => run_move (h1.ev rfl)) ?_
                refine Tr.mkFunc (vs := [(.pointer (some ⟨b22, 0, none⟩)), (.pointer (some ⟨b1, 0, none⟩))]) (wn rfl) rfl (evl_cons rfl (evl_cons rfl evl_nil)) ?_
                obtain ⟨y44, hy44, H⟩ := bnd H
                refine Tr.call0 (r := (.bool y44)) (wn rfl) rfl Try.call69 (evl_cons rfl (evl_cons rfl evl_nil)) (fun W hW => F_slices_ContainsFunc_Rect_ok l33 Al33 cl33 (hW.sl (k := 4) rfl) (fun z0 => F_panel_cells_1 z0 y42 p0) 115 [(.pointer (some ⟨b22, 0, none⟩)), (.pointer (some ⟨b1, 0, none⟩))] Try.call115 (fun z0 W' hb y hy => F_panel_cells_1_ok z0 y42 b22 (hW.cap (k := 22) rfl hb) (hW.capLt (k := 22) rfl hb) p0 Ap0_0 cp0_0 (((Sl.up hp0_0 hW)).later hb) Ap0_1 cp0_1 (((Sl.up hp0_1 hW)).later hb) Ap0_2 cp0_2 (((Sl.up hp0_2 hW)).later hb) b1 (hW.cap (k := 1) rfl hb) (hW.capLt (k := 1) rfl hb) y hy) y44 hy44) ?_
                refine Tr.nil (Tr.normThen ?_)
                refine Tr.cond rfl H (fun H => ?_) (fun H => ?_)
                · refine Tr.seq ?_
                  refine Tr.region ?_
                  refine Tr.val (wn rfl) rfl (fun _ _ h1 h2 => run_assign (h1.ev rfl)) ?_
                  refine Tr.nilOwn 24 42 fl_TRect ?_
                  refine Tr.val (wn rfl) rfl (fun _ _ h1 h2 => run_assign (h1.ev rfl)) ?_
                  refine Tr.nil (Tr.normThen ?_)
                  refine Tr.ret (Tr.retThen (Tr.retBlock (Tr.retThen (Tr.retThen (Tr.retBlock (Tr.retThen ?_))))))
                  obtain rfl := Option.some.inj H
                  exact Tr.out (m := [(.slice none (([] : List TRect)).length 0), (.int .i64 12)]) [] (res_tmp rfl (res_tmp rfl res_nil)) (fun W hW => ⟨(none, 0), rfl, slf_nil, hW.below, fun B => ow_loc B _ _ _ _ _, hW.ow (k := 24) rfl, fun b hb => hW.bd 24 b hb⟩)
                · refine Tr.skip (Tr.normThen ?_)
                  refine Tr.region ?_
                  refine Tr.val (wn rfl) rfl (fun _ _ h1 h2 => run_move (h1.ev rfl)) ?_
                  refine Tr.val (wn rfl) rfl (fun _ _ h1 h2 => run_loadN (cs := [(.int .i64 y42.X0), (.int .i64 y42.Y0), (.int .i64 y42.X1), (.int .i64 y42.Y1)]) ag_42 sz_42 (h1.ev rfl) (CellsAt.take (rdb h2 (vs := [(.int .i64 y42.X0), (.int .i64 y42.Y0), (.int .i64 y42.X1), (.int .i64 y42.Y1)]) (k := 22) rfl 0) 4) rfl) ?_
                  refine Tr.buildSlice 25 (e := 42) (vs := [(0, (.agg #[(.int .i64 y42.X0), (.int .i64 y42.Y0), (.int .i64 y42.X1), (.int .i64 y42.Y1)]))]) (cs := [(.int .i64 y42.X0), (.int .i64 y42.Y0), (.int .i64 y42.X1), (.int .i64 y42.Y1)]) (wn rfl) rfl (evs_cons rfl evs_nil) (by kernel_rfl) fun b25 => ?_
                  obtain ⟨l45, hl45, H⟩ := bnd H
                  refine Tr.append 4 (t := fl_TRect) (l := l33) (l2 := [y42]) (wn rfl) rfl rfl rfl rfl (fun W hW => show CellsAt W _ _ _ from rdb hW (vs := [(.int .i64 y42.X0), (.int .i64 y42.Y0), (.int .i64 y42.X1), (.int .i64 y42.Y1)]) (k := 25) rfl 0) un_38 sz_42 zl_42 (by decide) by_42 rfl hl45 fun Al45 cl45 hAl45 => ?_
                  refine Tr.val (wn rfl) rfl (fun _ _ h1 h2 => run_assign (h1.ev rfl)) ?_
                  refine Tr.nil (Tr.normBlock (Tr.normThen ?_))
                  refine Tr.region ?_
                  refine Tr.val (wn rfl) rfl (fun _ _ h1 h2 => run_add (h1.ev rfl) (h1.ev rfl)) ?_
                  refine Tr.val (wn rfl) rfl (fun _ _ h1 h2 => run_move (h1.ev rfl)) ?_
                  refine Tr.nil ?_
                  exact Tr.backThen (restF_panel_cells_L1, (iF_panel_cells_L1 + 1), l45, Al45, cl45) ⟨rfl, range_tl hdF_panel_cells_L1, range_lt hdF_panel_cells_L1, H, hAl45⟩ (.cons rfl (.cons rfl (.cons rfl (.cons rfl (.cons (congrArg (fun z => some (Value.int .i64 z)) (range_up hdF_panel_cells_L1 hp0_1.form)) .nil))))) (.cons rfl (.cons rfl .nil))

theorem F_panel_isOnPanel_ok {w : World} (p0 : TPanel) (Ap0_0 : Option Addr) (cp0_0 : Nat) (hp0_0 : Sl (lo w.heap.size) w fl_TBoardKind Ap0_0 cp0_0 p0.Kinds) (Ap0_1 : Option Addr) (cp0_1 : Nat) (hp0_1 : Sl (lo w.heap.size) w fl_TSlot Ap0_1 cp0_1 p0.Slots) (Ap0_2 : Option Addr) (cp0_2 : Nat) (hp0_2 : Sl (lo w.heap.size) w fl_TPoint Ap0_2 cp0_2 p0.Marks) (p1 : TPoint) (r : Bool) (H : F_panel_isOnPanel p0 p1 = some r) : Calls Try.prog 57 [(.agg #[(.int .i64 p0.W), (.int .i64 p0.H), (.int .i64 p0.Rail), (.int .i64 p0.Gap), (.slice Ap0_0 (p0.Kinds).length cp0_0), (.slice Ap0_1 (p0.Slots).length cp0_1), (.slice Ap0_2 (p0.Marks).length cp0_2)]), (.agg #[(.int .i64 p1.X), (.int .i64 p1.Y)])].toArray w fun e W' => e = .returned (.bool r) ∧ Below w.heap.size w W' := by
  unfold F_panel_isOnPanel at H
  refine Tr.enter (n := 17) Try.func57 rfl rfl rfl ?_
  refine Tr.seq ?_
  refine Tr.region ?_
  refine Tr.box 1 (cs := [(.int .i64 p0.W), (.int .i64 p0.H), (.int .i64 p0.Rail), (.int .i64 p0.Gap), (.slice Ap0_0 (p0.Kinds).length cp0_0), (.slice Ap0_1 (p0.Slots).length cp0_1), (.slice Ap0_2 (p0.Marks).length cp0_2)]) (wn rfl) rfl rfl rfl fun b1 => ?_
  refine Tr.box 2 (cs := [(.int .i64 p1.X), (.int .i64 p1.Y)]) (wn rfl) rfl rfl rfl fun b2 => ?_
  refine Tr.val (wn rfl) rfl (fun _ _ h1 h2 => run_assign (h1.ev rfl)) ?_
  refine Tr.nil (Tr.normThen ?_)
  refine Tr.seq ?_
  refine Tr.region ?_
  refine Tr.val (wn rfl) rfl (fun _ _ h1 h2 => run_fieldAddr fo_32_0 (h1.ev rfl)) ?_
  refine Tr.val (wn rfl) rfl (fun _ _ h1 h2 => run_load1 ag_3 (h1.ev rfl) (rdb h2 (vs := [(.int .i64 p1.X), (.int .i64 p1.Y)]) (k := 2) rfl 0) rfl) ?_
  refine Tr.val (wn rfl) rfl (fun _ _ h1 h2 => run_fieldAddr fo_26_0 (h1.ev rfl)) ?_
  refine Tr.val (wn rfl) rfl (fun _ _ h1 h2 => run_load1 ag_3 (h1.ev rfl) (rdb h2 (vs := [(.int .i64 p0.W), (.int .i64 p0.H), (.int .i64 p0.Rail), (.int .i64 p0.Gap), (.slice Ap0_0 (p0.Kinds).length cp0_0), (.slice Ap0_1 (p0.Slots).length cp0_1), (.slice Ap0_2 (p0.Marks).length cp0_2)]) (k := 1) rfl 0) rfl) ?_
  obtain ⟨y1, hy1, H⟩ := bnd H
  refine Tr.call0 (r := (.bool y1)) (wn rfl) rfl Try.call46 (evl_cons rfl (evl_cons rfl (evl_cons rfl evl_nil))) (fun W hW => F_panel_within_ok p1.X 0 p0.W y1 hy1) ?_
  refine Tr.val (wn rfl) rfl (fun _ _ h1 h2 => run_move (h1.ev rfl)) ?_
  obtain ⟨g3, hg3, H⟩ := bnd H
  refine Tr.mid (σ := Unit) 6 (fun _ => True) (fun _ => [(16, (.bool g3))]) (fun _ => [(1, bx b1 #[(.int .i64 p0.W), (.int .i64 p0.H), (.int .i64 p0.Rail), (.int .i64 p0.Gap), (.slice Ap0_0 (p0.Kinds).length cp0_0), (.slice Ap0_1 (p0.Slots).length cp0_1), (.slice Ap0_2 (p0.Marks).length cp0_2)] 26), (2, bx b2 #[(.int .i64 p1.X), (.int .i64 p1.Y)] 32)]) ?_ ?_
  · cases hg4 : y1
    · rw [hg4] at hg3
      rw [if_neg (by decide)] at hg3
      have H := hg3
      obtain rfl := Option.some.inj H
      refine Tr.pass rfl rfl rfl rfl rfl (by decide) ?_
      refine Tr.pass rfl rfl rfl rfl rfl (by decide) ?_
      refine Tr.pass rfl rfl rfl rfl rfl (by decide) ?_
      refine Tr.pass rfl rfl rfl rfl rfl (by decide) ?_
      refine Tr.pass rfl rfl rfl rfl rfl (by decide) ?_
      refine Tr.val (wn rfl) rfl (fun _ _ h1 h2 => run_pickF (h1.ev rfl) (h1.ev rfl)) ?_
      exact Tr.nil (Tr.backThen () trivial (.cons rfl .nil) (.cons rfl (.cons rfl .nil)))
    · rw [hg4] at hg3
      rw [if_pos rfl] at hg3
      have H := hg3
      refine Tr.val (wg rfl rfl rfl) rfl (fun _ _ h1 h2 => run_fieldAddr fo_32_1 (h1.ev rfl)) ?_
      refine Tr.val (wg rfl rfl rfl) rfl (fun _ _ h1 h2 => run_load1 ag_3 (h1.ev rfl) (rdb h2 (vs := [(.int .i64 p1.X), (.int .i64 p1.Y)]) (k := 2) rfl 1) rfl) ?_
      refine Tr.val (wg rfl rfl rfl) rfl (fun _ _ h1 h2 => run_fieldAddr fo_26_1 (h1.ev rfl)) ?_
      refine Tr.val (wg rfl rfl rfl) rfl (fun _ _ h1 h2 => run_load1 ag_3 (h1.ev rfl) (rdb h2 (vs := [(.int .i64 p0.W), (.int .i64 p0.H), (.int .i64 p0.Rail), (.int .i64 p0.Gap), (.slice Ap0_0 (p0.Kinds).length cp0_0), (.slice Ap0_1 (p0.Slots).length cp0_1), (.slice Ap0_2 (p0.Marks).length cp0_2)]) (k := 1) rfl 1) rfl) ?_
      obtain ⟨y4, hy4, H⟩ := bnd H
      refine Tr.call0 (r := (.bool y4)) (wg rfl rfl rfl) rfl Try.call46 (evl_cons rfl (evl_cons rfl (evl_cons rfl evl_nil))) (fun W hW => F_panel_within_ok p1.Y 0 p0.H y4 hy4) ?_
      refine Tr.val (wn rfl) rfl (fun _ _ h1 h2 => run_pickT (h1.ev rfl) (h1.ev rfl)) ?_
      obtain rfl := Option.some.inj H
      exact Tr.nil (Tr.backThen () trivial (.cons rfl .nil) (.cons rfl (.cons rfl .nil)))
  · intro _ _
    show Tr _ _ (LF [(16, (.bool g3))]) (LE [(1, bx b1 #[(.int .i64 p0.W), (.int .i64 p0.H), (.int .i64 p0.Rail), (.int .i64 p0.Gap), (.slice Ap0_0 (p0.Kinds).length cp0_0), (.slice Ap0_1 (p0.Slots).length cp0_1), (.slice Ap0_2 (p0.Marks).length cp0_2)] 26), (2, bx b2 #[(.int .i64 p1.X), (.int .i64 p1.Y)] 32)]) _
    refine Tr.val (wn rfl) rfl (fun _ _ h1 h2 => run_assign (h1.ev rfl)) ?_
    refine Tr.nil (Tr.normThen ?_)
    refine Tr.ret ?_
    obtain rfl := Option.some.inj H
    exact Tr.out (m := [(.bool g3)]) [] (res_tmp rfl res_nil) (fun W hW => ⟨rfl, hW.below⟩)

theorem F_panel_isInside_ok {w : World} (p0 : TRect) (p1 : TPoint) (r : Bool) (H : F_panel_isInside p0 p1 = some r) : Calls Try.prog 74 [(.agg #[(.int .i64 p0.X0), (.int .i64 p0.Y0), (.int .i64 p0.X1), (.int .i64 p0.Y1)]), (.agg #[(.int .i64 p1.X), (.int .i64 p1.Y)])].toArray w fun e W' => e = .returned (.bool r) ∧ Below w.heap.size w W' := by
  unfold F_panel_isInside at H
  refine Tr.enter (n := 31) Try.func74 rfl rfl rfl ?_
  refine Tr.seq ?_
  refine Tr.region ?_
  refine Tr.box 1 (cs := [(.int .i64 p0.X0), (.int .i64 p0.Y0), (.int .i64 p0.X1), (.int .i64 p0.Y1)]) (wn rfl) rfl rfl rfl fun b1 => ?_
  refine Tr.box 2 (cs := [(.int .i64 p1.X), (.int .i64 p1.Y)]) (wn rfl) rfl rfl rfl fun b2 => ?_
  refine Tr.val (wn rfl) rfl (fun _ _ h1 h2 => run_assign (h1.ev rfl)) ?_
  refine Tr.nil (Tr.normThen ?_)
  refine Tr.seq ?_
  refine Tr.region ?_
  refine Tr.val (wn rfl) rfl (fun _ _ h1 h2 => run_fieldAddr fo_32_0 (h1.ev rfl)) ?_
  refine Tr.val (wn rfl) rfl (fun _ _ h1 h2 => run_load1 ag_3 (h1.ev rfl) (rdb h2 (vs := [(.int .i64 p1.X), (.int .i64 p1.Y)]) (k := 2) rfl 0) rfl) ?_
  refine Tr.val (wn rfl) rfl (fun _ _ h1 h2 => run_fieldAddr fo_42_0 (h1.ev rfl)) ?_
  refine Tr.val (wn rfl) rfl (fun _ _ h1 h2 => run_load1 ag_3 (h1.ev rfl) (rdb h2 (vs := [(.int .i64 p0.X0), (.int .i64 p0.Y0), (.int .i64 p0.X1), (.int .i64 p0.Y1)]) (k := 1) rfl 0) rfl) ?_
  refine Tr.val (wn rfl) rfl (fun _ _ h1 h2 => run_gtr (h1.ev rfl) (h1.ev rfl)) ?_
  refine Tr.val (wn rfl) rfl (fun _ _ h1 h2 => run_move (h1.ev rfl)) ?_
  refine Tr.mid (σ := Unit) 6 (fun _ => True) (fun _ => [(2, (.pointer (some ⟨b1, 0, none⟩))), (3, (.pointer (some ⟨b2, 0, none⟩))), (16, (.bool ((decide (p0.X0 < p1.X)) && (decide (p1.X < p0.X1)))))]) (fun _ => [(1, bx b1 #[(.int .i64 p0.X0), (.int .i64 p0.Y0), (.int .i64 p0.X1), (.int .i64 p0.Y1)] 42), (2, bx b2 #[(.int .i64 p1.X), (.int .i64 p1.Y)] 32)]) ?_ ?_
  · cases hg0 : (decide (p0.X0 < p1.X))
    · refine Tr.pass rfl rfl rfl rfl rfl (by decide) ?_
      refine Tr.pass rfl rfl rfl rfl rfl (by decide) ?_
      refine Tr.pass rfl rfl rfl rfl rfl (by decide) ?_
      refine Tr.pass rfl rfl rfl rfl rfl (by decide) ?_
      refine Tr.pass rfl rfl rfl rfl rfl (by decide) ?_
      refine Tr.val (wn rfl) rfl (fun _ _ h1 h2 => run_pickF (h1.ev rfl) (h1.ev rfl)) ?_
      exact Tr.nil (Tr.backThen () trivial (.cons rfl (.cons rfl (.cons rfl .nil))) (.cons rfl (.cons rfl .nil)))
    · refine Tr.val (wg rfl rfl rfl) rfl (fun _ _ h1 h2 => run_fieldAddr fo_32_0 (h1.ev rfl)) ?_
      refine Tr.val (wg rfl rfl rfl) rfl (fun _ _ h1 h2 => run_load1 ag_3 (h1.ev rfl) (rdb h2 (vs := [(.int .i64 p1.X), (.int .i64 p1.Y)]) (k := 2) rfl 0) rfl) ?_
      refine Tr.val (wg rfl rfl rfl) rfl (fun _ _ h1 h2 => run_fieldAddr fo_42_2 (h1.ev rfl)) ?_
      refine Tr.val (wg rfl rfl rfl) rfl (fun _ _ h1 h2 => run_load1 ag_3 (h1.ev rfl) (rdb h2 (vs := [(.int .i64 p0.X0), (.int .i64 p0.Y0), (.int .i64 p0.X1), (.int .i64 p0.Y1)]) (k := 1) rfl 2) rfl) ?_
      refine Tr.val (wg rfl rfl rfl) rfl (fun _ _ h1 h2 => run_lss (h1.ev rfl) (h1.ev rfl)) ?_
      refine Tr.val (wn rfl) rfl (fun _ _ h1 h2 => run_pickT (h1.ev rfl) (h1.ev rfl)) ?_
      exact Tr.nil (Tr.backThen () trivial (.cons rfl (.cons rfl (.cons rfl .nil))) (.cons rfl (.cons rfl .nil)))
  · intro _ _
    show Tr _ _ (LF [(2, (.pointer (some ⟨b1, 0, none⟩))), (3, (.pointer (some ⟨b2, 0, none⟩))), (16, (.bool ((decide (p0.X0 < p1.X)) && (decide (p1.X < p0.X1)))))]) (LE [(1, bx b1 #[(.int .i64 p0.X0), (.int .i64 p0.Y0), (.int .i64 p0.X1), (.int .i64 p0.Y1)] 42), (2, bx b2 #[(.int .i64 p1.X), (.int .i64 p1.Y)] 32)]) _
    refine Tr.val (wn rfl) rfl (fun _ _ h1 h2 => run_move (h1.ev rfl)) ?_
    refine Tr.mid (σ := Unit) 6 (fun _ => True) (fun _ => [(2, (.pointer (some ⟨b1, 0, none⟩))), (3, (.pointer (some ⟨b2, 0, none⟩))), (23, (.bool (((decide (p0.X0 < p1.X)) && (decide (p1.X < p0.X1))) && (decide (p0.Y0 < p1.Y)))))]) (fun _ => [(1, bx b1 #[(.int .i64 p0.X0), (.int .i64 p0.Y0), (.int .i64 p0.X1), (.int .i64 p0.Y1)] 42), (2, bx b2 #[(.int .i64 p1.X), (.int .i64 p1.Y)] 32)]) ?_ ?_
    · cases hg0 : ((decide (p0.X0 < p1.X)) && (decide (p1.X < p0.X1)))
      · refine Tr.pass rfl rfl rfl rfl rfl (by decide) ?_
        refine Tr.pass rfl rfl rfl rfl rfl (by decide) ?_
        refine Tr.pass rfl rfl rfl rfl rfl (by decide) ?_
        refine Tr.pass rfl rfl rfl rfl rfl (by decide) ?_
        refine Tr.pass rfl rfl rfl rfl rfl (by decide) ?_
        refine Tr.val (wn rfl) rfl (fun _ _ h1 h2 => run_pickF (h1.ev rfl) (h1.ev rfl)) ?_
        exact Tr.nil (Tr.backThen () trivial (.cons rfl (.cons rfl (.cons rfl .nil))) (.cons rfl (.cons rfl .nil)))
      · refine Tr.val (wg rfl rfl rfl) rfl (fun _ _ h1 h2 => run_fieldAddr fo_32_1 (h1.ev rfl)) ?_
        refine Tr.val (wg rfl rfl rfl) rfl (fun _ _ h1 h2 => run_load1 ag_3 (h1.ev rfl) (rdb h2 (vs := [(.int .i64 p1.X), (.int .i64 p1.Y)]) (k := 2) rfl 1) rfl) ?_
        refine Tr.val (wg rfl rfl rfl) rfl (fun _ _ h1 h2 => run_fieldAddr fo_42_1 (h1.ev rfl)) ?_
        refine Tr.val (wg rfl rfl rfl) rfl (fun _ _ h1 h2 => run_load1 ag_3 (h1.ev rfl) (rdb h2 (vs := [(.int .i64 p0.X0), (.int .i64 p0.Y0), (.int .i64 p0.X1), (.int .i64 p0.Y1)]) (k := 1) rfl 1) rfl) ?_
        refine Tr.val (wg rfl rfl rfl) rfl (fun _ _ h1 h2 => run_gtr (h1.ev rfl) (h1.ev rfl)) ?_
        refine Tr.val (wn rfl) rfl (fun _ _ h1 h2 => run_pickT (h1.ev rfl) (h1.ev rfl)) ?_
        exact Tr.nil (Tr.backThen () trivial (.cons rfl (.cons rfl (.cons rfl .nil))) (.cons rfl (.cons rfl .nil)))
    · intro _ _
      show Tr _ _ (LF [(2, (.pointer (some ⟨b1, 0, none⟩))), (3, (.pointer (some ⟨b2, 0, none⟩))), (23, (.bool (((decide (p0.X0 < p1.X)) && (decide (p1.X < p0.X1))) && (decide (p0.Y0 < p1.Y)))))]) (LE [(1, bx b1 #[(.int .i64 p0.X0), (.int .i64 p0.Y0), (.int .i64 p0.X1), (.int .i64 p0.Y1)] 42), (2, bx b2 #[(.int .i64 p1.X), (.int .i64 p1.Y)] 32)]) _
      refine Tr.val (wn rfl) rfl (fun _ _ h1 h2 => run_move (h1.ev rfl)) ?_
      refine Tr.mid (σ := Unit) 6 (fun _ => True) (fun _ => [(30, (.bool ((((decide (p0.X0 < p1.X)) && (decide (p1.X < p0.X1))) && (decide (p0.Y0 < p1.Y))) && (decide (p1.Y < p0.Y1)))))]) (fun _ => [(1, bx b1 #[(.int .i64 p0.X0), (.int .i64 p0.Y0), (.int .i64 p0.X1), (.int .i64 p0.Y1)] 42), (2, bx b2 #[(.int .i64 p1.X), (.int .i64 p1.Y)] 32)]) ?_ ?_
      · cases hg0 : (((decide (p0.X0 < p1.X)) && (decide (p1.X < p0.X1))) && (decide (p0.Y0 < p1.Y)))
        · refine Tr.pass rfl rfl rfl rfl rfl (by decide) ?_
          refine Tr.pass rfl rfl rfl rfl rfl (by decide) ?_
          refine Tr.pass rfl rfl rfl rfl rfl (by decide) ?_
          refine Tr.pass rfl rfl rfl rfl rfl (by decide) ?_
          refine Tr.pass rfl rfl rfl rfl rfl (by decide) ?_
          refine Tr.val (wn rfl) rfl (fun _ _ h1 h2 => run_pickF (h1.ev rfl) (h1.ev rfl)) ?_
          exact Tr.nil (Tr.backThen () trivial (.cons rfl .nil) (.cons rfl (.cons rfl .nil)))
        · refine Tr.val (wg rfl rfl rfl) rfl (fun _ _ h1 h2 => run_fieldAddr fo_32_1 (h1.ev rfl)) ?_
          refine Tr.val (wg rfl rfl rfl) rfl (fun _ _ h1 h2 => run_load1 ag_3 (h1.ev rfl) (rdb h2 (vs := [(.int .i64 p1.X), (.int .i64 p1.Y)]) (k := 2) rfl 1) rfl) ?_
          refine Tr.val (wg rfl rfl rfl) rfl (fun _ _ h1 h2 => run_fieldAddr fo_42_3 (h1.ev rfl)) ?_
          refine Tr.val (wg rfl rfl rfl) rfl (fun _ _ h1 h2 => run_load1 ag_3 (h1.ev rfl) (rdb h2 (vs := [(.int .i64 p0.X0), (.int .i64 p0.Y0), (.int .i64 p0.X1), (.int .i64 p0.Y1)]) (k := 1) rfl 3) rfl) ?_
          refine Tr.val (wg rfl rfl rfl) rfl (fun _ _ h1 h2 => run_lss (h1.ev rfl) (h1.ev rfl)) ?_
          refine Tr.val (wn rfl) rfl (fun _ _ h1 h2 => run_pickT (h1.ev rfl) (h1.ev rfl)) ?_
          exact Tr.nil (Tr.backThen () trivial (.cons rfl .nil) (.cons rfl (.cons rfl .nil)))
      · intro _ _
        show Tr _ _ (LF [(30, (.bool ((((decide (p0.X0 < p1.X)) && (decide (p1.X < p0.X1))) && (decide (p0.Y0 < p1.Y))) && (decide (p1.Y < p0.Y1)))))]) (LE [(1, bx b1 #[(.int .i64 p0.X0), (.int .i64 p0.Y0), (.int .i64 p0.X1), (.int .i64 p0.Y1)] 42), (2, bx b2 #[(.int .i64 p1.X), (.int .i64 p1.Y)] 32)]) _
        refine Tr.val (wn rfl) rfl (fun _ _ h1 h2 => run_assign (h1.ev rfl)) ?_
        refine Tr.nil (Tr.normThen ?_)
        refine Tr.ret ?_
        obtain rfl := Option.some.inj H
        exact Tr.out (m := [(.bool ((((decide (p0.X0 < p1.X)) && (decide (p1.X < p0.X1))) && (decide (p0.Y0 < p1.Y))) && (decide (p1.Y < p0.Y1))))]) [] (res_tmp rfl res_nil) (fun W hW => ⟨rfl, hW.below⟩)

theorem F_panel_open_1_ok {w : World} (p0 : TRect) (q0 : TPoint) (bq0 : Nat) (hc0 : CellsAt w bq0 0 [(.int .i64 q0.X), (.int .i64 q0.Y)]) (hb0 : bq0 < w.heap.size) (r : Bool) (H : F_panel_open_1 p0 q0 = some r) : Calls Try.prog 96 [(.agg #[(.int .i64 p0.X0), (.int .i64 p0.Y0), (.int .i64 p0.X1), (.int .i64 p0.Y1)]), (.pointer (some ⟨bq0, 0, none⟩))].toArray w fun e W' => e = .returned (.bool r) ∧ Below w.heap.size w W' := by
  unfold F_panel_open_1 at H
  refine Tr.enter (n := 7) Try.func96 rfl rfl rfl ?_
  refine Tr.seq ?_
  refine Tr.region ?_
  refine Tr.box 1 (cs := [(.int .i64 p0.X0), (.int .i64 p0.Y0), (.int .i64 p0.X1), (.int .i64 p0.Y1)]) (wn rfl) rfl rfl rfl fun b1 => ?_
  refine Tr.val (wn rfl) rfl (fun _ _ h1 h2 => run_assign (h1.ev rfl)) ?_
  refine Tr.nil (Tr.normThen ?_)
  refine Tr.seq ?_
  refine Tr.region ?_
  refine Tr.val (wn rfl) rfl (fun _ _ h1 h2 => run_loadN (cs := [(.int .i64 p0.X0), (.int .i64 p0.Y0), (.int .i64 p0.X1), (.int .i64 p0.Y1)]) ag_42 sz_42 (h1.ev rfl) (CellsAt.take (rdb h2 (vs := [(.int .i64 p0.X0), (.int .i64 p0.Y0), (.int .i64 p0.X1), (.int .i64 p0.Y1)]) (k := 1) rfl 0) 4) rfl) ?_
  refine Tr.val (wn rfl) rfl (fun _ _ h1 h2 => run_loadN (cs := [(.int .i64 q0.X), (.int .i64 q0.Y)]) ag_32 sz_32 (h1.ev rfl) (CellsAt.take (Rd.cap hc0 hb0 _ h2) 2) rfl) ?_
  obtain ⟨y1, hy1, H⟩ := bnd H
  refine Tr.call0 (r := (.bool y1)) (wn rfl) rfl Try.call74 (evl_cons rfl (evl_cons rfl evl_nil)) (fun W hW => F_panel_isInside_ok p0 q0 y1 hy1) ?_
  refine Tr.val (wn rfl) rfl (fun _ _ h1 h2 => run_assign (h1.ev rfl)) ?_
  refine Tr.nil (Tr.normThen ?_)
  refine Tr.ret ?_
  obtain rfl := Option.some.inj H
  exact Tr.out (m := [(.bool y1)]) [] (res_tmp rfl res_nil) (fun W hW => ⟨rfl, hW.below⟩)

theorem F_slices_Index_Point_ok {w : World} (p0 : (List TPoint)) (Ap0_0 : Option Addr) (cp0_0 : Nat) (hp0_0 : Sl (lo w.heap.size) w fl_TPoint Ap0_0 cp0_0 p0) (p1 : TPoint) (r : Int) (H : F_slices_Index_Point p0 p1 = some r) : Calls Try.prog 116 [(.slice Ap0_0 (p0).length cp0_0), (.agg #[(.int .i64 p1.X), (.int .i64 p1.Y)])].toArray w fun e W' => e = .returned (.int .i64 r) ∧ Below w.heap.size w W' := by
  unfold F_slices_Index_Point at H
  refine Tr.enter (n := 19) Try.func116 rfl rfl rfl ?_
  refine Tr.seq ?_
  refine Tr.region ?_
  refine Tr.box 1 (cs := [(.int .i64 p1.X), (.int .i64 p1.Y)]) (wn rfl) rfl rfl rfl fun b1 => ?_
  refine Tr.val (wn rfl) rfl (fun _ _ h1 h2 => run_assign (h1.ev rfl)) ?_
  refine Tr.nil (Tr.normThen ?_)
  refine Tr.seq ?_
  refine Tr.seq ?_
  refine Tr.region ?_
  refine Tr.val (wn rfl) rfl (fun _ _ h1 h2 => run_move (h1.ev rfl)) ?_
  refine Tr.val (wn rfl) rfl (fun _ _ h1 h2 => run_len un_24 (h1.ev rfl)) ?_
  refine Tr.val (wn rfl) rfl (fun _ _ h1 h2 => run_move (h1.ev rfl)) ?_
  refine Tr.nil (Tr.normThen ?_)
  refine Tr.block ?_
  refine Tr.loop (σ := (List TPoint) × Nat) (fun m s => m = s.1.length + 1 ∧ s.1 = List.drop s.2 p0 ∧ s.2 ≤ p0.length ∧ F_slices_Index_Point_L1 p1 s.1 s.2 = some r) (fun s => [(0, (.slice Ap0_0 (p0).length cp0_0)), (3, (.pointer (some ⟨b1, 0, none⟩))), (7, (.int .i64 (p0.length : Int))), (8, (.int .i64 (s.2 : Int)))]) (fun s => [(1, bx b1 #[(.int .i64 p1.X), (.int .i64 p1.Y)] 32)]) (p0.length + 1) (p0, 0) ⟨rfl, rfl, Nat.zero_le _, H⟩ (.cons rfl (.cons rfl (.cons rfl (.cons rfl .nil)))) (.cons rfl .nil) (fun _ h => absurd h.1 (by simp)) ?_
  intro m s hs
  obtain ⟨restF_slices_Index_Point_L1, iF_slices_Index_Point_L1⟩ := s
  obtain ⟨hmF_slices_Index_Point_L1, hdF_slices_Index_Point_L1, hiF_slices_Index_Point_L1, H⟩ := hs
  replace hdF_slices_Index_Point_L1 : restF_slices_Index_Point_L1 = List.drop iF_slices_Index_Point_L1 p0 := hdF_slices_Index_Point_L1
  replace H : F_slices_Index_Point_L1 p1 restF_slices_Index_Point_L1 iF_slices_Index_Point_L1 = some r := H
  replace hmF_slices_Index_Point_L1 : m + 1 = restF_slices_Index_Point_L1.length + 1 := hmF_slices_Index_Point_L1
  obtain rfl : m = restF_slices_Index_Point_L1.length := by omega
  clear hmF_slices_Index_Point_L1
  show Tr _ _ (LF [(0, (.slice Ap0_0 (p0).length cp0_0)), (3, (.pointer (some ⟨b1, 0, none⟩))), (7, (.int .i64 (p0.length : Int))), (8, (.int .i64 (iF_slices_Index_Point_L1 : Int)))]) (LE [(1, bx b1 #[(.int .i64 p1.X), (.int .i64 p1.Y)] 32)]) _
  cases restF_slices_Index_Point_L1 with
  | nil =>
    rw [F_slices_Index_Point_L1.eq_1] at H
    refine Tr.seq ?_
    refine Tr.region ?_
    refine Tr.val (wn rfl) rfl (fun _ _ h1 h2 => run_lss (h1.ev rfl) (h1.ev rfl)) ?_
    refine Tr.nil (Tr.normThen ?_)
    refine Tr.seq ?_
    refine Tr.condF rfl (range_nil hdF_slices_Index_Point_L1) ?_
    refine Tr.exit (Tr.exitThen (Tr.exitThen (Tr.exitBlock (Tr.normThen ?_))))
    refine Tr.seq ?_
    refine Tr.region ?_
    refine Tr.val (wn rfl) rfl (fun _ _ h1 h2 => run_assign (h1.ev rfl)) ?_
    refine Tr.nil (Tr.normThen ?_)
    refine Tr.ret ?_
    obtain rfl := Option.some.inj H
    exact Tr.out (m := [(.int .i64 (-1))]) [] (res_tmp rfl res_nil) (fun W hW => ⟨rfl, hW.below⟩)
  | cons xF_slices_Index_Point_L1 restF_slices_Index_Point_L1 =>
    rw [F_slices_Index_Point_L1.eq_2] at H
    refine Tr.seq ?_
    refine Tr.region ?_
    refine Tr.val (wn rfl) rfl (fun _ _ h1 h2 => run_lss (h1.ev rfl) (h1.ev rfl)) ?_
    refine Tr.nil (Tr.normThen ?_)
    refine Tr.seq ?_
    refine Tr.condT rfl (range_on hdF_slices_Index_Point_L1) ?_
    refine Tr.skip (Tr.normThen ?_)
    refine Tr.seq ?_
    refine Tr.block ?_
    refine Tr.seq ?_
    refine Tr.region ?_
    refine Tr.val (wn rfl) rfl (fun _ _ h1 h2 => run_move (h1.ev rfl)) ?_
    refine Tr.val (wn rfl) rfl (fun _ _ h1 h2 => run_assign (h1.ev rfl)) ?_
    refine Tr.nil (Tr.normThen ?_)
    refine Tr.seq ?_
    refine Tr.draw (by kernel_rfl) (by kernel_rfl) ?_
    refine Tq.val (wn rfl) rfl (fun _ _ h1 h2 => run_loadN (cs := [(.int .i64 p1.X), (.int .i64 p1.Y)]) ag_32 sz_32 (h1.ev rfl) (CellsAt.take (rdb h2 (vs := [(.int .i64 p1.X), (.int .i64 p1.Y)]) (k := 1) rfl 0) 2) rfl) ?_
    refine Tq.val (wn rfl) rfl (fun _ _ h1 h2 => run_move (h1.ev rfl)) ?_
    refine Tq.val (wn rfl) rfl (fun _ _ h1 h2 => run_move (h1.ev rfl)) ?_
    refine Tq.val (wn rfl) rfl (fun _ _ h1 h2 => run_indexAddr el_24 (h1.ev rfl) hp0_0.form (h1.ev rfl) (Int.natCast_nonneg _) (range_lt hdF_slices_Index_Point_L1)) ?_
    refine Tq.val (wn rfl) rfl (fun _ _ h1 h2 => run_loadN (cs := [(.int .i64 xF_slices_Index_Point_L1.X), (.int .i64 xF_slices_Index_Point_L1.Y)]) ag_32 sz_32 (h1.ev rfl) (CellsAt.take (Rd.arg hp0_0 (range_at hdF_slices_Index_Point_L1) _ h2) 2) rfl) ?_
    refine Tq.val (wn rfl) rfl (fun _ _ h1 h2 => run_eql_32 p1 xF_slices_Index_Point_L1 (h1.ev rfl) (h1.ev rfl)) ?_
    refine Tq.nil (Tr.normThen ?_)
    refine Tr.cond rfl H (fun H => ?_) (fun H => ?_)
    · refine Tr.seq ?_
      refine Tr.region ?_
      refine Tr.val (wn rfl) rfl (fun _ _ h1 h2 => run_move (h1.ev rfl)) ?_
      refine Tr.val (wn rfl) rfl (fun _ _ h1 h2 => run_assign (h1.ev rfl)) ?_
      refine Tr.nil (Tr.normThen ?_)
      refine Tr.ret (Tr.retBlock (Tr.retThen (Tr.retThen (Tr.retBlock (Tr.retThen ?_)))))
      obtain rfl := Option.some.inj H
      exact Tr.out (m := [(.int .i64 (iF_slices_Index_Point_L1 : Int))]) [] (res_tmp rfl res_nil) (fun W hW => ⟨rfl, hW.below⟩)
    · refine Tr.skip (Tr.normBlock (Tr.normThen ?_))
      refine Tr.region ?_
      refine Tr.val (wn rfl) rfl (fun _ _ h1 h2 => run_add (h1.ev rfl) (h1.ev rfl)) ?_
      refine Tr.val (wn rfl) rfl (fun _ _ h1 h2 => run_move (h1.ev rfl)) ?_
      refine Tr.nil ?_
      exact Tr.backThen (restF_slices_Index_Point_L1, (iF_slices_Index_Point_L1 + 1)) ⟨rfl, range_tl hdF_slices_Index_Point_L1, range_lt hdF_slices_Index_Point_L1, H⟩ (.cons rfl (.cons rfl (.cons rfl (.cons (congrArg (fun z => some (Value.int .i64 z)) (range_up hdF_slices_Index_Point_L1 hp0_0.form)) .nil)))) (.cons rfl .nil)

theorem F_slices_Contains_Point_ok {w : World} (p0 : (List TPoint)) (Ap0_0 : Option Addr) (cp0_0 : Nat) (hp0_0 : Sl (lo w.heap.size) w fl_TPoint Ap0_0 cp0_0 p0) (p1 : TPoint) (r : Bool) (H : F_slices_Contains_Point p0 p1 = some r) : Calls Try.prog 97 [(.slice Ap0_0 (p0).length cp0_0), (.agg #[(.int .i64 p1.X), (.int .i64 p1.Y)])].toArray w fun e W' => e = .returned (.bool r) ∧ Below w.heap.size w W' := by
  unfold F_slices_Contains_Point at H
  refine Tr.enter (n := 9) Try.func97 rfl rfl rfl ?_
  refine Tr.seq ?_
  refine Tr.region ?_
  refine Tr.box 1 (cs := [(.int .i64 p1.X), (.int .i64 p1.Y)]) (wn rfl) rfl rfl rfl fun b1 => ?_
  refine Tr.val (wn rfl) rfl (fun _ _ h1 h2 => run_assign (h1.ev rfl)) ?_
  refine Tr.nil (Tr.normThen ?_)
  refine Tr.seq ?_
  refine Tr.region ?_
  refine Tr.val (wn rfl) rfl (fun _ _ h1 h2 => run_move (h1.ev rfl)) ?_
  refine Tr.val (wn rfl) rfl (fun _ _ h1 h2 => run_loadN (cs := [(.int .i64 p1.X), (.int .i64 p1.Y)]) ag_32 sz_32 (h1.ev rfl) (CellsAt.take (rdb h2 (vs := [(.int .i64 p1.X), (.int .i64 p1.Y)]) (k := 1) rfl 0) 2) rfl) ?_
  obtain ⟨y1, hy1, H⟩ := bnd H
  refine Tr.call0 (r := (.int .i64 y1)) (wn rfl) rfl Try.call116 (evl_cons rfl (evl_cons rfl evl_nil)) (fun W hW => F_slices_Index_Point_ok p0 Ap0_0 cp0_0 (Sl.up hp0_0 hW) p1 y1 hy1) ?_
  refine Tr.val (wn rfl) rfl (fun _ _ h1 h2 => run_geq (h1.ev rfl) (h1.ev rfl)) ?_
  refine Tr.val (wn rfl) rfl (fun _ _ h1 h2 => run_assign (h1.ev rfl)) ?_
  refine Tr.nil (Tr.normThen ?_)
  refine Tr.ret ?_
  obtain rfl := Option.some.inj H
  exact Tr.out (m := [(.bool (decide (0 ≤ y1)))]) [] (res_tmp rfl res_nil) (fun W hW => ⟨rfl, hW.below⟩)

theorem F_panel_open_ok (N : Nat) {w : World} (p0 : TPanel) (Ap0_0 : Option Addr) (cp0_0 : Nat) (hp0_0 : Sl (lo w.heap.size) w fl_TBoardKind Ap0_0 cp0_0 p0.Kinds) (Ap0_1 : Option Addr) (cp0_1 : Nat) (hp0_1 : Sl (lo w.heap.size) w fl_TSlot Ap0_1 cp0_1 p0.Slots) (Ap0_2 : Option Addr) (cp0_2 : Nat) (hp0_2 : Sl (lo w.heap.size) w fl_TPoint Ap0_2 cp0_2 p0.Marks) (r : ((List TRect) × Int)) (H : F_panel_open N p0 = some r) : Calls Try.prog 47 [(.agg #[(.int .i64 p0.W), (.int .i64 p0.H), (.int .i64 p0.Rail), (.int .i64 p0.Gap), (.slice Ap0_0 (p0.Kinds).length cp0_0), (.slice Ap0_1 (p0.Slots).length cp0_1), (.slice Ap0_2 (p0.Marks).length cp0_2)])].toArray w fun e W' => ∃ u : Option Addr × Nat, e = .returned (.tuple #[(.slice u.1 (r.1).length u.2), (.int .i64 r.2)]) ∧ SlF u.1 (r.1).length u.2 ∧ Below w.heap.size w W' ∧ (∀ B, (ow u.1 u.2 42 fl_TRect r.1).loc B) ∧ (ow u.1 u.2 42 fl_TRect r.1).φ W' ∧ ∀ b, (ow u.1 u.2 42 fl_TRect r.1).S b → w.heap.size ≤ b ∧ b < W'.heap.size := by
  unfold F_panel_open at H
  refine Tr.enter (n := 75) Try.func47 rfl rfl rfl ?_
  refine Tr.seq ?_
  refine Tr.region ?_
  refine Tr.box 1 (cs := [(.int .i64 p0.W), (.int .i64 p0.H), (.int .i64 p0.Rail), (.int .i64 p0.Gap), (.slice Ap0_0 (p0.Kinds).length cp0_0), (.slice Ap0_1 (p0.Slots).length cp0_1), (.slice Ap0_2 (p0.Marks).length cp0_2)]) (wn rfl) rfl rfl rfl fun b1 => ?_
  refine Tr.val (wn rfl) rfl (fun _ _ h1 h2 => run_assign (h1.ev rfl)) ?_
  refine Tr.nilOwn 2 42 fl_TRect ?_
  refine Tr.val (wn rfl) rfl (fun _ _ h1 h2 => run_assign (h1.ev rfl)) ?_
  refine Tr.nil (Tr.normThen ?_)
  refine Tr.seq ?_
  refine Tr.seq ?_
  refine Tr.region ?_
  refine Tr.val (wn rfl) rfl (fun _ _ h1 h2 => run_fieldAddr fo_26_0 (h1.ev rfl)) ?_
  refine Tr.val (wn rfl) rfl (fun _ _ h1 h2 => run_load1 ag_3 (h1.ev rfl) (rdb h2 (vs := [(.int .i64 p0.W), (.int .i64 p0.H), (.int .i64 p0.Rail), (.int .i64 p0.Gap), (.slice Ap0_0 (p0.Kinds).length cp0_0), (.slice Ap0_1 (p0.Slots).length cp0_1), (.slice Ap0_2 (p0.Marks).length cp0_2)]) (k := 1) rfl 0) rfl) ?_
  obtain ⟨y1, hy1, H⟩ := bnd H
  refine Tr.call0 (r := (.bool y1)) (wn rfl) rfl Try.call46 (evl_cons rfl (evl_cons rfl (evl_cons rfl evl_nil))) (fun W hW => F_panel_within_ok p0.W 1 1000000 y1 hy1) ?_
  refine Tr.val (wn rfl) rfl (fun _ _ h1 h2 => run_not (h1.ev rfl)) ?_
  refine Tr.val (wn rfl) rfl (fun _ _ h1 h2 => run_move (h1.ev rfl)) ?_
  obtain ⟨g3, hg3, H⟩ := bnd H
  refine Tr.mid (σ := Unit) 5 (fun _ => True) (fun _ => [(1, (.pointer (some ⟨b1, 0, none⟩))), (18, (.bool g3))]) (fun _ => [(1, bx b1 #[(.int .i64 p0.W), (.int .i64 p0.H), (.int .i64 p0.Rail), (.int .i64 p0.Gap), (.slice Ap0_0 (p0.Kinds).length cp0_0), (.slice Ap0_1 (p0.Slots).length cp0_1), (.slice Ap0_2 (p0.Marks).length cp0_2)] 26), (2, ow none 0 42 fl_TRect ([] : List TRect))]) ?_ ?_
  · cases hg22 : (!y1)
    · rw [hg22] at hg3
      rw [if_neg (by decide)] at hg3
      have H := hg3
      refine Tr.val (wg rfl rfl rfl) rfl (fun _ _ h1 h2 => run_fieldAddr fo_26_1 (h1.ev rfl)) ?_
      refine Tr.val (wg rfl rfl rfl) rfl (fun _ _ h1 h2 => run_load1 ag_3 (h1.ev rfl) (rdb h2 (vs := [(.int .i64 p0.W), (.int .i64 p0.H), (.int .i64 p0.Rail), (.int .i64 p0.Gap), (.slice Ap0_0 (p0.Kinds).length cp0_0), (.slice Ap0_1 (p0.Slots).length cp0_1), (.slice Ap0_2 (p0.Marks).length cp0_2)]) (k := 1) rfl 1) rfl) ?_
      obtain ⟨y4, hy4, H⟩ := bnd H
      refine Tr.call0 (r := (.bool y4)) (wg rfl rfl rfl) rfl Try.call46 (evl_cons rfl (evl_cons rfl (evl_cons rfl evl_nil))) (fun W hW => F_panel_within_ok p0.H 1 1000000 y4 hy4) ?_
      refine Tr.val (wg rfl rfl rfl) rfl (fun _ _ h1 h2 => run_not (h1.ev rfl)) ?_
      refine Tr.val (wn rfl) rfl (fun _ _ h1 h2 => run_pickF (h1.ev rfl) (h1.ev rfl)) ?_
      obtain rfl := Option.some.inj H
      exact Tr.nil (Tr.backThen () trivial (.cons rfl (.cons rfl .nil)) (.cons rfl (.cons rfl .nil)))
    · rw [hg22] at hg3
      rw [if_pos rfl] at hg3
      have H := hg3
      obtain rfl := Option.some.inj H
      refine Tr.pass rfl rfl rfl rfl rfl (by decide) ?_
      refine Tr.pass rfl rfl rfl rfl rfl (by decide) ?_
      refine Tr.pass rfl rfl rfl rfl rfl (by decide) ?_
      refine Tr.pass rfl rfl rfl rfl rfl (by decide) ?_
      refine Tr.val (wn rfl) rfl (fun _ _ h1 h2 => run_pickT (h1.ev rfl) (h1.ev rfl)) ?_
      exact Tr.nil (Tr.backThen () trivial (.cons rfl (.cons rfl .nil)) (.cons rfl (.cons rfl .nil)))
  · intro _ _
    show Tr _ _ (LF [(1, (.pointer (some ⟨b1, 0, none⟩))), (18, (.bool g3))]) (LE [(1, bx b1 #[(.int .i64 p0.W), (.int .i64 p0.H), (.int .i64 p0.Rail), (.int .i64 p0.Gap), (.slice Ap0_0 (p0.Kinds).length cp0_0), (.slice Ap0_1 (p0.Slots).length cp0_1), (.slice Ap0_2 (p0.Marks).length cp0_2)] 26), (2, ow none 0 42 fl_TRect ([] : List TRect))]) _
    refine Tr.val (wn rfl) rfl (fun _ _ h1 h2 => run_move (h1.ev rfl)) ?_
    obtain ⟨g6, hg6, H⟩ := bnd H
    refine Tr.mid (σ := Unit) 5 (fun _ => True) (fun _ => [(1, (.pointer (some ⟨b1, 0, none⟩))), (24, (.bool g6))]) (fun _ => [(1, bx b1 #[(.int .i64 p0.W), (.int .i64 p0.H), (.int .i64 p0.Rail), (.int .i64 p0.Gap), (.slice Ap0_0 (p0.Kinds).length cp0_0), (.slice Ap0_1 (p0.Slots).length cp0_1), (.slice Ap0_2 (p0.Marks).length cp0_2)] 26), (2, ow none 0 42 fl_TRect ([] : List TRect))]) ?_ ?_
    · cases hg22 : g3
      · rw [hg22] at hg6
        rw [if_neg (by decide)] at hg6
        have H := hg6
        refine Tr.val (wg rfl rfl rfl) rfl (fun _ _ h1 h2 => run_fieldAddr fo_26_2 (h1.ev rfl)) ?_
        refine Tr.val (wg rfl rfl rfl) rfl (fun _ _ h1 h2 => run_load1 ag_3 (h1.ev rfl) (rdb h2 (vs := [(.int .i64 p0.W), (.int .i64 p0.H), (.int .i64 p0.Rail), (.int .i64 p0.Gap), (.slice Ap0_0 (p0.Kinds).length cp0_0), (.slice Ap0_1 (p0.Slots).length cp0_1), (.slice Ap0_2 (p0.Marks).length cp0_2)]) (k := 1) rfl 2) rfl) ?_
        obtain ⟨y7, hy7, H⟩ := bnd H
        refine Tr.call0 (r := (.bool y7)) (wg rfl rfl rfl) rfl Try.call46 (evl_cons rfl (evl_cons rfl (evl_cons rfl evl_nil))) (fun W hW => F_panel_within_ok p0.Rail 0 1000000 y7 hy7) ?_
        refine Tr.val (wg rfl rfl rfl) rfl (fun _ _ h1 h2 => run_not (h1.ev rfl)) ?_
        refine Tr.val (wn rfl) rfl (fun _ _ h1 h2 => run_pickF (h1.ev rfl) (h1.ev rfl)) ?_
        obtain rfl := Option.some.inj H
        exact Tr.nil (Tr.backThen () trivial (.cons rfl (.cons rfl .nil)) (.cons rfl (.cons rfl .nil)))
      · rw [hg22] at hg6
        rw [if_pos rfl] at hg6
        have H := hg6
        obtain rfl := Option.some.inj H
        refine Tr.pass rfl rfl rfl rfl rfl (by decide) ?_
        refine Tr.pass rfl rfl rfl rfl rfl (by decide) ?_
        refine Tr.pass rfl rfl rfl rfl rfl (by decide) ?_
        refine Tr.pass rfl rfl rfl rfl rfl (by decide) ?_
        refine Tr.val (wn rfl) rfl (fun _ _ h1 h2 => run_pickT (h1.ev rfl) (h1.ev rfl)) ?_
        exact Tr.nil (Tr.backThen () trivial (.cons rfl (.cons rfl .nil)) (.cons rfl (.cons rfl .nil)))
    · intro _ _
      show Tr _ _ (LF [(1, (.pointer (some ⟨b1, 0, none⟩))), (24, (.bool g6))]) (LE [(1, bx b1 #[(.int .i64 p0.W), (.int .i64 p0.H), (.int .i64 p0.Rail), (.int .i64 p0.Gap), (.slice Ap0_0 (p0.Kinds).length cp0_0), (.slice Ap0_1 (p0.Slots).length cp0_1), (.slice Ap0_2 (p0.Marks).length cp0_2)] 26), (2, ow none 0 42 fl_TRect ([] : List TRect))]) _
      refine Tr.val (wn rfl) rfl (fun _ _ h1 h2 => run_move (h1.ev rfl)) ?_
      obtain ⟨g9, hg9, H⟩ := bnd H
      refine Tr.mid (σ := Unit) 5 (fun _ => True) (fun _ => [(1, (.pointer (some ⟨b1, 0, none⟩))), (30, (.bool g9))]) (fun _ => [(1, bx b1 #[(.int .i64 p0.W), (.int .i64 p0.H), (.int .i64 p0.Rail), (.int .i64 p0.Gap), (.slice Ap0_0 (p0.Kinds).length cp0_0), (.slice Ap0_1 (p0.Slots).length cp0_1), (.slice Ap0_2 (p0.Marks).length cp0_2)] 26), (2, ow none 0 42 fl_TRect ([] : List TRect))]) ?_ ?_
      · cases hg22 : g6
        · rw [hg22] at hg9
          rw [if_neg (by decide)] at hg9
          have H := hg9
          refine Tr.val (wg rfl rfl rfl) rfl (fun _ _ h1 h2 => run_fieldAddr fo_26_3 (h1.ev rfl)) ?_
          refine Tr.val (wg rfl rfl rfl) rfl (fun _ _ h1 h2 => run_load1 ag_3 (h1.ev rfl) (rdb h2 (vs := [(.int .i64 p0.W), (.int .i64 p0.H), (.int .i64 p0.Rail), (.int .i64 p0.Gap), (.slice Ap0_0 (p0.Kinds).length cp0_0), (.slice Ap0_1 (p0.Slots).length cp0_1), (.slice Ap0_2 (p0.Marks).length cp0_2)]) (k := 1) rfl 3) rfl) ?_
          obtain ⟨y10, hy10, H⟩ := bnd H
          refine Tr.call0 (r := (.bool y10)) (wg rfl rfl rfl) rfl Try.call46 (evl_cons rfl (evl_cons rfl (evl_cons rfl evl_nil))) (fun W hW => F_panel_within_ok p0.Gap 0 1000000 y10 hy10) ?_
          refine Tr.val (wg rfl rfl rfl) rfl (fun _ _ h1 h2 => run_not (h1.ev rfl)) ?_
          refine Tr.val (wn rfl) rfl (fun _ _ h1 h2 => run_pickF (h1.ev rfl) (h1.ev rfl)) ?_
          obtain rfl := Option.some.inj H
          exact Tr.nil (Tr.backThen () trivial (.cons rfl (.cons rfl .nil)) (.cons rfl (.cons rfl .nil)))
        · rw [hg22] at hg9
          rw [if_pos rfl] at hg9
          have H := hg9
          obtain rfl := Option.some.inj H
          refine Tr.pass rfl rfl rfl rfl rfl (by decide) ?_
          refine Tr.pass rfl rfl rfl rfl rfl (by decide) ?_
          refine Tr.pass rfl rfl rfl rfl rfl (by decide) ?_
          refine Tr.pass rfl rfl rfl rfl rfl (by decide) ?_
          refine Tr.val (wn rfl) rfl (fun _ _ h1 h2 => run_pickT (h1.ev rfl) (h1.ev rfl)) ?_
          exact Tr.nil (Tr.backThen () trivial (.cons rfl (.cons rfl .nil)) (.cons rfl (.cons rfl .nil)))
      · intro _ _
        show Tr _ _ (LF [(1, (.pointer (some ⟨b1, 0, none⟩))), (30, (.bool g9))]) (LE [(1, bx b1 #[(.int .i64 p0.W), (.int .i64 p0.H), (.int .i64 p0.Rail), (.int .i64 p0.Gap), (.slice Ap0_0 (p0.Kinds).length cp0_0), (.slice Ap0_1 (p0.Slots).length cp0_1), (.slice Ap0_2 (p0.Marks).length cp0_2)] 26), (2, ow none 0 42 fl_TRect ([] : List TRect))]) _
        refine Tr.nil (Tr.normThen ?_)
        refine Tr.cond rfl H (fun H => ?_) (fun H => ?_)
        · refine Tr.seq ?_
          refine Tr.region ?_
          refine Tr.val (wn rfl) rfl (fun _ _ h1 h2 => run_assign (h1.ev rfl)) ?_
          refine Tr.nilOwn 3 42 fl_TRect ?_
          refine Tr.val (wn rfl) rfl (fun _ _ h1 h2 => run_assign (h1.ev rfl)) ?_
          refine Tr.nil (Tr.normThen ?_)
          refine Tr.ret (Tr.retThen ?_)
          obtain rfl := Option.some.inj H
          exact Tr.out (m := [(.slice none (([] : List TRect)).length 0), (.int .i64 1)]) [] (res_tmp rfl (res_tmp rfl res_nil)) (fun W hW => ⟨(none, 0), rfl, slf_nil, hW.below, fun B => ow_loc B _ _ _ _ _, hW.ow (k := 3) rfl, fun b hb => hW.bd 3 b hb⟩)
        · refine Tr.skip (Tr.normThen ?_)
          refine Tr.seq ?_
          refine Tr.seq ?_
          refine Tr.region ?_
          refine Tr.val (wn rfl) rfl (fun _ _ h1 h2 => run_fieldAddr fo_26_4 (h1.ev rfl)) ?_
          refine Tr.val (wn rfl) rfl (fun _ _ h1 h2 => run_load1 ag_22 (h1.ev rfl) (rdb h2 (vs := [(.int .i64 p0.W), (.int .i64 p0.H), (.int .i64 p0.Rail), (.int .i64 p0.Gap), (.slice Ap0_0 (p0.Kinds).length cp0_0), (.slice Ap0_1 (p0.Slots).length cp0_1), (.slice Ap0_2 (p0.Marks).length cp0_2)]) (k := 1) rfl 4) rfl) ?_
          obtain ⟨y11, hy11, H⟩ := bnd H
          refine Tr.call0 (r := (.int .i64 y11)) (wn rfl) rfl Try.call94 (evl_cons rfl evl_nil) (fun W hW => F_panel_checkKinds_ok N p0.Kinds Ap0_0 cp0_0 (Sl.up hp0_0 hW) y11 hy11) ?_
          refine Tr.val (wn rfl) rfl (fun _ _ h1 h2 => run_assign (h1.ev rfl)) ?_
          refine Tr.nil (Tr.normThen ?_)
          refine Tr.seq ?_
          refine Tr.region ?_
          refine Tr.val (wn rfl) rfl (fun _ _ h1 h2 => run_move (h1.ev rfl)) ?_
          refine Tr.val (wn rfl) rfl (fun _ _ h1 h2 => run_neq (h1.ev rfl) (h1.ev rfl)) ?_
          refine Tr.nil (Tr.normThen ?_)
          refine Tr.cond rfl H (fun H => ?_) (fun H => ?_)
          · refine Tr.seq ?_
            refine Tr.region ?_
            refine Tr.val (wn rfl) rfl (fun _ _ h1 h2 => run_move (h1.ev rfl)) ?_
            refine Tr.val (wn rfl) rfl (fun _ _ h1 h2 => run_assign (h1.ev rfl)) ?_
            refine Tr.nilOwn 4 42 fl_TRect ?_
            refine Tr.val (wn rfl) rfl (fun _ _ h1 h2 => run_assign (h1.ev rfl)) ?_
            refine Tr.nil (Tr.normThen ?_)
            refine Tr.ret (Tr.retThen ?_)
            obtain rfl := Option.some.inj H
            exact Tr.out (m := [(.slice none (([] : List TRect)).length 0), (.int .i64 y11)]) [] (res_tmp rfl (res_tmp rfl res_nil)) (fun W hW => ⟨(none, 0), rfl, slf_nil, hW.below, fun B => ow_loc B _ _ _ _ _, hW.ow (k := 4) rfl, fun b hb => hW.bd 4 b hb⟩)
          · refine Tr.skip (Tr.normThen ?_)
            refine Tr.seq ?_
            refine Tr.region ?_
            refine Tr.val (wn rfl) rfl (fun _ _ h1 h2 => run_loadN (cs := [(.int .i64 p0.W), (.int .i64 p0.H), (.int .i64 p0.Rail), (.int .i64 p0.Gap), (.slice Ap0_0 (p0.Kinds).length cp0_0), (.slice Ap0_1 (p0.Slots).length cp0_1), (.slice Ap0_2 (p0.Marks).length cp0_2)]) ag_26 sz_26 (h1.ev rfl) (CellsAt.take (rdb h2 (vs := [(.int .i64 p0.W), (.int .i64 p0.H), (.int .i64 p0.Rail), (.int .i64 p0.Gap), (.slice Ap0_0 (p0.Kinds).length cp0_0), (.slice Ap0_1 (p0.Slots).length cp0_1), (.slice Ap0_2 (p0.Marks).length cp0_2)]) (k := 1) rfl 0) 7) rfl) ?_
            obtain ⟨y12, hy12, H⟩ := bnd H
            refine Tr.call 5 (U := Option Addr × Nat) (fun u => (.tuple #[(.slice u.1 (y12.1).length u.2), (.int .i64 y12.2)])) (fun u => SlF u.1 (y12.1).length u.2) (fun u => ow u.1 u.2 42 fl_TRect y12.1) (wn rfl) rfl Try.call95 (evl_cons rfl evl_nil) (fun W hW => F_panel_cells_ok p0 Ap0_0 cp0_0 (Sl.up hp0_0 hW) Ap0_1 cp0_1 (Sl.up hp0_1 hW) Ap0_2 cp0_2 (Sl.up hp0_2 hW) y12 hy12) ?_
            intro u hu
            obtain ⟨Ay12, cy12⟩ := u
            have hAy12 : SlF Ay12 (y12.1).length cy12 := hu
            show Tr _ _ (uf _ 39 (.tuple #[(.slice Ay12 (y12.1).length cy12), (.int .i64 y12.2)])) (up _ 5 (ow Ay12 cy12 42 fl_TRect y12.1)) _
            refine Tr.val (wn rfl) rfl (fun _ _ h1 h2 => run_move (h1.ev rfl)) ?_
            refine Tr.val (wn rfl) rfl (fun _ _ h1 h2 => run_extract (h1.ev rfl) rfl) ?_
            refine Tr.val (wn rfl) rfl (fun _ _ h1 h2 => run_extract (h1.ev rfl) rfl) ?_
            refine Tr.val (wn rfl) rfl (fun _ _ h1 h2 => run_assign (h1.ev rfl)) ?_
            refine Tr.val (wn rfl) rfl (fun _ _ h1 h2 => run_assign (h1.ev rfl)) ?_
            refine Tr.nil (Tr.normThen ?_)
            refine Tr.seq ?_
            refine Tr.seq ?_
            refine Tr.region ?_
            refine Tr.val (wn rfl) rfl (fun _ _ h1 h2 => run_move (h1.ev rfl)) ?_
            refine Tr.val (wn rfl) rfl (fun _ _ h1 h2 => run_neq (h1.ev rfl) (h1.ev rfl)) ?_
            refine Tr.nil (Tr.normThen ?_)
            refine Tr.cond rfl H (fun H => ?_) (fun H => ?_)
            · refine Tr.seq ?_
              refine Tr.region ?_
              refine Tr.val (wn rfl) rfl (fun _ _ h1 h2 => run_move (h1.ev rfl)) ?_
              refine Tr.val (wn rfl) rfl (fun _ _ h1 h2 => run_assign (h1.ev rfl)) ?_
              refine Tr.nilOwn 6 42 fl_TRect ?_
              refine Tr.val (wn rfl) rfl (fun _ _ h1 h2 => run_assign (h1.ev rfl)) ?_
              refine Tr.nil (Tr.normThen ?_)
              refine Tr.ret (Tr.retThen ?_)
              obtain rfl := Option.some.inj H
              exact Tr.out (m := [(.slice none (([] : List TRect)).length 0), (.int .i64 y12.2)]) [] (res_tmp rfl (res_tmp rfl res_nil)) (fun W hW => ⟨(none, 0), rfl, slf_nil, hW.below, fun B => ow_loc B _ _ _ _ _, hW.ow (k := 6) rfl, fun b hb => hW.bd 6 b hb⟩)
            · refine Tr.skip (Tr.normThen ?_)
              refine Tr.seq ?_
              refine Tr.seq ?_
              refine Tr.region ?_
              refine Tr.val (wn rfl) rfl (fun _ _ h1 h2 => run_fieldAddr fo_26_6 (h1.ev rfl)) ?_
              refine Tr.val (wn rfl) rfl (fun _ _ h1 h2 => run_load1 ag_24 (h1.ev rfl) (rdb h2 (vs := [(.int .i64 p0.W), (.int .i64 p0.H), (.int .i64 p0.Rail), (.int .i64 p0.Gap), (.slice Ap0_0 (p0.Kinds).length cp0_0), (.slice Ap0_1 (p0.Slots).length cp0_1), (.slice Ap0_2 (p0.Marks).length cp0_2)]) (k := 1) rfl 6) rfl) ?_
              refine Tr.val (wn rfl) rfl (fun _ _ h1 h2 => run_len un_24 (h1.ev rfl)) ?_
              refine Tr.val (wn rfl) rfl (fun _ _ h1 h2 => run_gtr (h1.ev rfl) (h1.ev rfl)) ?_
              refine Tr.nil (Tr.normThen ?_)
              refine Tr.cond rfl H (fun H => ?_) (fun H => ?_)
              · refine Tr.seq ?_
                refine Tr.region ?_
                refine Tr.val (wn rfl) rfl (fun _ _ h1 h2 => run_assign (h1.ev rfl)) ?_
                refine Tr.nilOwn 7 42 fl_TRect ?_
                refine Tr.val (wn rfl) rfl (fun _ _ h1 h2 => run_assign (h1.ev rfl)) ?_
                refine Tr.nil (Tr.normThen ?_)
                refine Tr.ret (Tr.retThen ?_)
                obtain rfl := Option.some.inj H
                exact Tr.out (m := [(.slice none (([] : List TRect)).length 0), (.int .i64 2)]) [] (res_tmp rfl (res_tmp rfl res_nil)) (fun W hW => ⟨(none, 0), rfl, slf_nil, hW.below, fun B => ow_loc B _ _ _ _ _, hW.ow (k := 7) rfl, fun b hb => hW.bd 7 b hb⟩)
              · refine Tr.skip (Tr.normThen ?_)
                refine Tr.seq ?_
                refine Tr.seq ?_
                refine Tr.region ?_
                refine Tr.val (wn rfl) rfl (fun _ _ h1 h2 => run_fieldAddr fo_26_6 (h1.ev rfl)) ?_
                refine Tr.val (wn rfl) rfl (fun _ _ h1 h2 => run_load1 ag_24 (h1.ev rfl) (rdb h2 (vs := [(.int .i64 p0.W), (.int .i64 p0.H), (.int .i64 p0.Rail), (.int .i64 p0.Gap), (.slice Ap0_0 (p0.Kinds).length cp0_0), (.slice Ap0_1 (p0.Slots).length cp0_1), (.slice Ap0_2 (p0.Marks).length cp0_2)]) (k := 1) rfl 6) rfl) ?_
                refine Tr.val (wn rfl) rfl (fun _ _ h1 h2 => run_len un_24 (h1.ev rfl)) ?_
                refine Tr.val (wn rfl) rfl (fun _ _ h1 h2 => run_move (h1.ev rfl)) ?_
                refine Tr.nil (Tr.normThen ?_)
                refine Tr.block ?_
                refine Tr.loop (σ := (List TPoint) × Nat) (fun m s => m = s.1.length + 1 ∧ s.1 = List.drop s.2 p0.Marks ∧ s.2 ≤ p0.Marks.length ∧ F_panel_open_L1 p0 y12 s.1 s.2 = some r) (fun s => [(1, (.pointer (some ⟨b1, 0, none⟩))), (5, (.slice Ay12 (y12.1).length cy12)), (50, (.slice Ap0_2 (p0.Marks).length cp0_2)), (51, (.int .i64 (p0.Marks.length : Int))), (52, (.int .i64 (s.2 : Int)))]) (fun s => [(1, bx b1 #[(.int .i64 p0.W), (.int .i64 p0.H), (.int .i64 p0.Rail), (.int .i64 p0.Gap), (.slice Ap0_0 (p0.Kinds).length cp0_0), (.slice Ap0_1 (p0.Slots).length cp0_1), (.slice Ap0_2 (p0.Marks).length cp0_2)] 26), (5, ow Ay12 cy12 42 fl_TRect y12.1)]) (p0.Marks.length + 1) (p0.Marks, 0) ⟨rfl, rfl, Nat.zero_le _, H⟩ (.cons rfl (.cons rfl (.cons rfl (.cons rfl (.cons rfl .nil))))) (.cons rfl (.cons rfl .nil)) (fun _ h => absurd h.1 (by simp)) ?_
                intro m s hs
                obtain ⟨restF_panel_open_L1, iF_panel_open_L1⟩ := s
                obtain ⟨hmF_panel_open_L1, hdF_panel_open_L1, hiF_panel_open_L1, H⟩ := hs
                replace hdF_panel_open_L1 : restF_panel_open_L1 = List.drop iF_panel_open_L1 p0.Marks := hdF_panel_open_L1
                replace H : F_panel_open_L1 p0 y12 restF_panel_open_L1 iF_panel_open_L1 = some r := H
                replace hmF_panel_open_L1 : m + 1 = restF_panel_open_L1.length + 1 := hmF_panel_open_L1
                obtain rfl : m = restF_panel_open_L1.length := by omega
                clear hmF_panel_open_L1
                show Tr _ _ (LF [(1, (.pointer (some ⟨b1, 0, none⟩))), (5, (.slice Ay12 (y12.1).length cy12)), (50, (.slice Ap0_2 (p0.Marks).length cp0_2)), (51, (.int .i64 (p0.Marks.length : Int))), (52, (.int .i64 (iF_panel_open_L1 : Int)))]) (LE [(1, bx b1 #[(.int .i64 p0.W), (.int .i64 p0.H), (.int .i64 p0.Rail), (.int .i64 p0.Gap), (.slice Ap0_0 (p0.Kinds).length cp0_0), (.slice Ap0_1 (p0.Slots).length cp0_1), (.slice Ap0_2 (p0.Marks).length cp0_2)] 26), (5, ow Ay12 cy12 42 fl_TRect y12.1)]) _
                cases restF_panel_open_L1 with
                | nil =>
                  rw [F_panel_open_L1.eq_1] at H
                  refine Tr.seq ?_
                  refine Tr.region ?_
                  refine Tr.val (wn rfl) rfl (fun _ _ h1 h2 => run_lss (h1.ev rfl) (h1.ev rfl)) ?_
                  refine Tr.nil (Tr.normThen ?_)
                  refine Tr.seq ?_
                  refine Tr.condF rfl (range_nil hdF_panel_open_L1) ?_
                  refine Tr.exit (Tr.exitThen (Tr.exitThen (Tr.exitBlock (Tr.normThen ?_))))
                  refine Tr.seq ?_
                  refine Tr.region ?_
                  refine Tr.val (wn rfl) rfl (fun _ _ h1 h2 => run_move (h1.ev rfl)) ?_
                  refine Tr.val (wn rfl) rfl (fun _ _ h1 h2 => run_assign (h1.ev rfl)) ?_
                  refine Tr.val (wn rfl) rfl (fun _ _ h1 h2 => run_assign (h1.ev rfl)) ?_
                  refine Tr.nil (Tr.normThen ?_)
                  refine Tr.ret ?_
                  obtain rfl := Option.some.inj H
                  exact Tr.out (m := [(.slice Ay12 (y12.1).length cy12), (.int .i64 0)]) [] (res_tmp rfl (res_tmp rfl res_nil)) (fun W hW => ⟨(Ay12, cy12), rfl, hAy12, hW.below, fun B => ow_loc B _ _ _ _ _, hW.ow (k := 5) rfl, fun b hb => hW.bd 5 b hb⟩)
                | cons xF_panel_open_L1 restF_panel_open_L1 =>
                  rw [F_panel_open_L1.eq_2] at H
                  refine Tr.seq ?_
                  refine Tr.region ?_
                  refine Tr.val (wn rfl) rfl (fun _ _ h1 h2 => run_lss (h1.ev rfl) (h1.ev rfl)) ?_
                  refine Tr.nil (Tr.normThen ?_)
                  refine Tr.seq ?_
                  refine Tr.condT rfl (range_on hdF_panel_open_L1) ?_
                  refine Tr.skip (Tr.normThen ?_)
                  refine Tr.seq ?_
                  refine Tr.block ?_
                  refine Tr.seq ?_
                  refine Tr.region ?_
                  refine Tr.val (wn rfl) rfl (fun _ _ h1 h2 => run_move (h1.ev rfl)) ?_
                  refine Tr.val (wn rfl) rfl (fun _ _ h1 h2 => run_indexAddr el_24 (h1.ev rfl) hp0_2.form (h1.ev rfl) (Int.natCast_nonneg _) (range_lt hdF_panel_open_L1)) ?_
                  refine Tr.val (wn rfl) rfl (fun _ _ h1 h2 => run_loadN (cs := [(.int .i64 xF_panel_open_L1.X), (.int .i64 xF_panel_open_L1.Y)]) ag_32 sz_32 (h1.ev rfl) (CellsAt.take (Rd.arg hp0_2 (range_at hdF_panel_open_L1) _ h2) 2) rfl) ?_
                  refine Tr.alloc 12 (wn rfl) rfl ze_32 fun b12 => ?_
                  refine Tr.val (wn rfl) rfl (fun _ _ h1 h2 => run_assign (h1.ev rfl)) ?_
                  refine Tr.store 12 (cs := [(.int .i64 xF_panel_open_L1.X), (.int .i64 xF_panel_open_L1.Y)]) [(.int .i64 xF_panel_open_L1.X), (.int .i64 xF_panel_open_L1.Y)] (wn rfl) rfl rfl rfl rfl sz_32 rfl rfl rfl ?_
                  refine Tr.nil (Tr.normThen ?_)
                  refine Tr.block ?_
                  refine Tr.seq ?_
                  refine Tr.region ?_
                  refine Tr.val (wn rfl) rfl (fun _ _ h1 h2 => run_loadN (cs := [(.int .i64 p0.W), (.int .i64 p0.H), (.int .i64 p0.Rail), (.int .i64 p0.Gap), (.slice Ap0_0 (p0.Kinds).length cp0_0), (.slice Ap0_1 (p0.Slots).length cp0_1), (.slice Ap0_2 (p0.Marks).length cp0_2)]) ag_26 sz_26 (h1.ev rfl) (CellsAt.take (rdb h2 (vs := [(.int .i64 p0.W), (.int .i64 p0.H), (.int .i64 p0.Rail), (.int .i64 p0.Gap), (.slice Ap0_0 (p0.Kinds).length cp0_0), (.slice Ap0_1 (p0.Slots).length cp0_1), (.slice Ap0_2 (p0.Marks).length cp0_2)]) (k := 1) rfl 0) 7) rfl) ?_
                  refine Tr.val (wn rfl) rfl (fun _ _ h1 h2 => run_loadN (cs := [(.int .i64 xF_panel_open_L1.X), (.int .i64 xF_panel_open_L1.Y)]) ag_32 sz_32 (h1.ev rfl) (CellsAt.take (rdb h2 (vs := [(.int .i64 xF_panel_open_L1.X), (.int .i64 xF_panel_open_L1.Y)]) (k := 12) rfl 0) 2) rfl) ?_
                  obtain ⟨y19, hy19, H⟩ := bnd H
                  refine Tr.call0 (r := (.bool y19)) (wn rfl) rfl Try.call57 (evl_cons rfl (evl_cons rfl evl_nil)) (fun W hW => F_panel_isOnPanel_ok p0 Ap0_0 cp0_0 (Sl.up hp0_0 hW) Ap0_1 cp0_1 (Sl.up hp0_1 hW) Ap0_2 cp0_2 (Sl.up hp0_2 hW) xF_panel_open_L1 y19 hy19) ?_
                  refine Tr.val (wn rfl) rfl (fun _ _ h1 h2 => run_not (h1.ev rfl)) ?_
                  refine Tr.val (wn rfl) rfl (fun _ _ h1 h2 => run_assign (h1.ev rfl)) ?_
                  refine Tr.nil (Tr.normThen ?_)
                  refine Tr.cond rfl H (fun H => ?_) (fun H => ?_)
                  · refine Tr.seq ?_
                    refine Tr.region ?_
                    refine Tr.val (wn rfl) rfl (fun _ _ h1 h2 => run_assign (h1.ev rfl)) ?_
                    refine Tr.nilOwn 13 42 fl_TRect ?_
                    refine Tr.val (wn rfl) rfl (fun _ _ h1 h2 => run_assign (h1.ev rfl)) ?_
                    refine Tr.nil (Tr.normThen ?_)
                    refine Tr.ret (Tr.retBlock (Tr.retBlock (Tr.retThen (Tr.retThen (Tr.retBlock (Tr.retThen ?_))))))
                    obtain rfl := Option.some.inj H
                    exact Tr.out (m := [(.slice none (([] : List TRect)).length 0), (.int .i64 1)]) [] (res_tmp rfl (res_tmp rfl res_nil)) (fun W hW => ⟨(none, 0), rfl, slf_nil, hW.below, fun B => ow_loc B _ _ _ _ _, hW.ow (k := 13) rfl, fun b hb => hW.bd 13 b hb⟩)
                  · refine Tr.seq ?_
                    refine Tr.region ?_
                    refine Tr.val (wn rfl) rfl (fun _ _ h1 h2 => run_move (h1.ev rfl)) ?_
                    refine Tr.mkFunc (vs := [(.pointer (some ⟨b12, 0, none⟩))]) (wn rfl) rfl (evl_cons rfl evl_nil) ?_
                    obtain ⟨y20, hy20, H⟩ := bnd H
                    refine Tr.call0 (r := (.bool y20)) (wn rfl) rfl Try.call69 (evl_cons rfl (evl_cons rfl evl_nil)) (fun W hW => F_slices_ContainsFunc_Rect_ok y12.1 Ay12 cy12 (hW.sl (k := 5) rfl) (fun z0 => F_panel_open_1 z0 xF_panel_open_L1) 96 [(.pointer (some ⟨b12, 0, none⟩))] Try.call96 (fun z0 W' hb y hy => F_panel_open_1_ok z0 xF_panel_open_L1 b12 (hW.cap (k := 12) rfl hb) (hW.capLt (k := 12) rfl hb) y hy) y20 hy20) ?_
                    refine Tr.val (wn rfl) rfl (fun _ _ h1 h2 => run_assign (h1.ev rfl)) ?_
                    refine Tr.nil (Tr.normThen ?_)
                    refine Tr.cond rfl H (fun H => ?_) (fun H => ?_)
                    · refine Tr.seq ?_
                      refine Tr.region ?_
                      refine Tr.val (wn rfl) rfl (fun _ _ h1 h2 => run_assign (h1.ev rfl)) ?_
                      refine Tr.nilOwn 14 42 fl_TRect ?_
                      refine Tr.val (wn rfl) rfl (fun _ _ h1 h2 => run_assign (h1.ev rfl)) ?_
                      refine Tr.nil (Tr.normThen ?_)
                      refine Tr.ret (Tr.retBlock (Tr.retBlock (Tr.retThen (Tr.retThen (Tr.retBlock (Tr.retThen ?_))))))
                      obtain rfl := Option.some.inj H
                      exact Tr.out (m := [(.slice none (([] : List TRect)).length 0), (.int .i64 12)]) [] (res_tmp rfl (res_tmp rfl res_nil)) (fun W hW => ⟨(none, 0), rfl, slf_nil, hW.below, fun B => ow_loc B _ _ _ _ _, hW.ow (k := 14) rfl, fun b hb => hW.bd 14 b hb⟩)
                    · refine Tr.seq ?_
                      refine Tr.draw (by kernel_rfl) (by kernel_rfl) ?_
                      refine Tq.val (wn rfl) rfl (fun _ _ h1 h2 => run_fieldAddr fo_26_6 (h1.ev rfl)) ?_
                      refine Tq.val (wn rfl) rfl (fun _ _ h1 h2 => run_load1 ag_24 (h1.ev rfl) (rdb h2 (vs := [(.int .i64 p0.W), (.int .i64 p0.H), (.int .i64 p0.Rail), (.int .i64 p0.Gap), (.slice Ap0_0 (p0.Kinds).length cp0_0), (.slice Ap0_1 (p0.Slots).length cp0_1), (.slice Ap0_2 (p0.Marks).length cp0_2)]) (k := 1) rfl 6) rfl) ?_
                      refine Tq.val (wn rfl) rfl (fun _ _ h1 h2 => run_move (h1.ev rfl)) ?_
                      obtain ⟨l21, hl21, H⟩ := bnd H
                      refine Tq.val (wn rfl) rfl (fun _ _ h1 h2 => run_cutH el_24 (h1.ev rfl) hp0_2.form (h1.ev rfl) hl21) ?_
                      refine Tq.val (wn rfl) rfl (fun _ _ h1 h2 => run_loadN (cs := [(.int .i64 xF_panel_open_L1.X), (.int .i64 xF_panel_open_L1.Y)]) ag_32 sz_32 (h1.ev rfl) (CellsAt.take (rdb h2 (vs := [(.int .i64 xF_panel_open_L1.X), (.int .i64 xF_panel_open_L1.Y)]) (k := 12) rfl 0) 2) rfl) ?_
                      obtain ⟨y22, hy22, H⟩ := bnd H
                      refine Tq.call0 (r := (.bool y22)) (wn rfl) rfl Try.call97 (evl_cons rfl (evl_cons rfl evl_nil)) (fun W hW => F_slices_Contains_Point_ok l21 (cutA Ap0_2 0 2 cp0_2) (cp0_2 - 0) (Sl.cut (Sl.up hp0_2 hW) hl21) xF_panel_open_L1 y22 hy22) ?_
                      refine Tq.val (wn rfl) rfl (fun _ _ h1 h2 => run_assign (h1.ev rfl)) ?_
                      refine Tq.nil (Tr.normThen ?_)
                      refine Tr.cond rfl H (fun H => ?_) (fun H => ?_)
                      · refine Tr.seq ?_
                        refine Tr.region ?_
                        refine Tr.val (wn rfl) rfl (fun _ _ h1 h2 => run_assign (h1.ev rfl)) ?_
                        refine Tr.nilOwn 15 42 fl_TRect ?_
                        refine Tr.val (wn rfl) rfl (fun _ _ h1 h2 => run_assign (h1.ev rfl)) ?_
                        refine Tr.nil (Tr.normThen ?_)
                        refine Tr.ret (Tr.retBlock (Tr.retBlock (Tr.retThen (Tr.retThen (Tr.retBlock (Tr.retThen ?_))))))
                        obtain rfl := Option.some.inj H
                        exact Tr.out (m := [(.slice none (([] : List TRect)).length 0), (.int .i64 7)]) [] (res_tmp rfl (res_tmp rfl res_nil)) (fun W hW => ⟨(none, 0), rfl, slf_nil, hW.below, fun B => ow_loc B _ _ _ _ _, hW.ow (k := 15) rfl, fun b hb => hW.bd 15 b hb⟩)
                      · refine Tr.skip (Tr.normBlock (Tr.normBlock (Tr.normThen ?_)))
                        refine Tr.region ?_
                        refine Tr.val (wn rfl) rfl (fun _ _ h1 h2 => run_add (h1.ev rfl) (h1.ev rfl)) ?_
                        refine Tr.val (wn rfl) rfl (fun _ _ h1 h2 => run_move (h1.ev rfl)) ?_
                        refine Tr.nil ?_
                        exact Tr.backThen (restF_panel_open_L1, (iF_panel_open_L1 + 1)) ⟨rfl, range_tl hdF_panel_open_L1, range_lt hdF_panel_open_L1, H⟩ (.cons rfl (.cons rfl (.cons rfl (.cons rfl (.cons (congrArg (fun z => some (Value.int .i64 z)) (range_up hdF_panel_open_L1 hp0_2.form)) .nil))))) (.cons rfl (.cons rfl .nil))

theorem F_panel_CheckPanel_ok (N : Nat) {w : World} (p0 : TPanel) (Ap0_0 : Option Addr) (cp0_0 : Nat) (hp0_0 : Sl (lo w.heap.size) w fl_TBoardKind Ap0_0 cp0_0 p0.Kinds) (Ap0_1 : Option Addr) (cp0_1 : Nat) (hp0_1 : Sl (lo w.heap.size) w fl_TSlot Ap0_1 cp0_1 p0.Slots) (Ap0_2 : Option Addr) (cp0_2 : Nat) (hp0_2 : Sl (lo w.heap.size) w fl_TPoint Ap0_2 cp0_2 p0.Marks) (r : Int) (H : F_panel_CheckPanel N p0 = some r) : Calls Try.prog 31 [(.agg #[(.int .i64 p0.W), (.int .i64 p0.H), (.int .i64 p0.Rail), (.int .i64 p0.Gap), (.slice Ap0_0 (p0.Kinds).length cp0_0), (.slice Ap0_1 (p0.Slots).length cp0_1), (.slice Ap0_2 (p0.Marks).length cp0_2)])].toArray w fun e W' => e = .returned (.int .i64 r) ∧ Below w.heap.size w W' := by
  unfold F_panel_CheckPanel at H
  refine Tr.enter (n := 11) Try.func31 rfl rfl rfl ?_
  refine Tr.seq ?_
  refine Tr.region ?_
  refine Tr.box 1 (cs := [(.int .i64 p0.W), (.int .i64 p0.H), (.int .i64 p0.Rail), (.int .i64 p0.Gap), (.slice Ap0_0 (p0.Kinds).length cp0_0), (.slice Ap0_1 (p0.Slots).length cp0_1), (.slice Ap0_2 (p0.Marks).length cp0_2)]) (wn rfl) rfl rfl rfl fun b1 => ?_
  refine Tr.val (wn rfl) rfl (fun _ _ h1 h2 => run_assign (h1.ev rfl)) ?_
  refine Tr.nil (Tr.normThen ?_)
  refine Tr.seq ?_
  refine Tr.region ?_
  refine Tr.val (wn rfl) rfl (fun _ _ h1 h2 => run_loadN (cs := [(.int .i64 p0.W), (.int .i64 p0.H), (.int .i64 p0.Rail), (.int .i64 p0.Gap), (.slice Ap0_0 (p0.Kinds).length cp0_0), (.slice Ap0_1 (p0.Slots).length cp0_1), (.slice Ap0_2 (p0.Marks).length cp0_2)]) ag_26 sz_26 (h1.ev rfl) (CellsAt.take (rdb h2 (vs := [(.int .i64 p0.W), (.int .i64 p0.H), (.int .i64 p0.Rail), (.int .i64 p0.Gap), (.slice Ap0_0 (p0.Kinds).length cp0_0), (.slice Ap0_1 (p0.Slots).length cp0_1), (.slice Ap0_2 (p0.Marks).length cp0_2)]) (k := 1) rfl 0) 7) rfl) ?_
  obtain ⟨y1, hy1, H⟩ := bnd H
  refine Tr.call 2 (U := Option Addr × Nat) (fun u => (.tuple #[(.slice u.1 (y1.1).length u.2), (.int .i64 y1.2)])) (fun u => SlF u.1 (y1.1).length u.2) (fun u => ow u.1 u.2 42 fl_TRect y1.1) (wn rfl) rfl Try.call47 (evl_cons rfl evl_nil) (fun W hW => F_panel_open_ok N p0 Ap0_0 cp0_0 (Sl.up hp0_0 hW) Ap0_1 cp0_1 (Sl.up hp0_1 hW) Ap0_2 cp0_2 (Sl.up hp0_2 hW) y1 hy1) ?_
  intro u hu
  obtain ⟨Ay1, cy1⟩ := u
  have hAy1 : SlF Ay1 (y1.1).length cy1 := hu
  show Tr _ _ (uf _ 7 (.tuple #[(.slice Ay1 (y1.1).length cy1), (.int .i64 y1.2)])) (up _ 2 (ow Ay1 cy1 42 fl_TRect y1.1)) _
  refine Tr.val (wn rfl) rfl (fun _ _ h1 h2 => run_move (h1.ev rfl)) ?_
  refine Tr.val (wn rfl) rfl (fun _ _ h1 h2 => run_extract (h1.ev rfl) rfl) ?_
  refine Tr.val (wn rfl) rfl (fun _ _ h1 h2 => run_extract (h1.ev rfl) rfl) ?_
  refine Tr.val (wn rfl) rfl (fun _ _ h1 h2 => run_assign (h1.ev rfl)) ?_
  refine Tr.val (wn rfl) rfl (fun _ _ h1 h2 => run_assign (h1.ev rfl)) ?_
  refine Tr.nil (Tr.normThen ?_)
  refine Tr.seq ?_
  refine Tr.region ?_
  refine Tr.val (wn rfl) rfl (fun _ _ h1 h2 => run_move (h1.ev rfl)) ?_
  refine Tr.val (wn rfl) rfl (fun _ _ h1 h2 => run_assign (h1.ev rfl)) ?_
  refine Tr.nil (Tr.normThen ?_)
  refine Tr.ret ?_
  obtain rfl := Option.some.inj H
  exact Tr.out (m := [(.int .i64 y1.2)]) [] (res_tmp rfl res_nil) (fun W hW => ⟨rfl, hW.below⟩)

theorem F_panel_turnOf_ok {w : World} (p0 : TPanel) (Ap0_0 : Option Addr) (cp0_0 : Nat) (hp0_0 : Sl (lo w.heap.size) w fl_TBoardKind Ap0_0 cp0_0 p0.Kinds) (Ap0_1 : Option Addr) (cp0_1 : Nat) (hp0_1 : Sl (lo w.heap.size) w fl_TSlot Ap0_1 cp0_1 p0.Slots) (Ap0_2 : Option Addr) (cp0_2 : Nat) (hp0_2 : Sl (lo w.heap.size) w fl_TPoint Ap0_2 cp0_2 p0.Marks) (p1 : TSlot) (r : TTurn) (H : F_panel_turnOf p0 p1 = some r) : Calls Try.prog 52 [(.agg #[(.int .i64 p0.W), (.int .i64 p0.H), (.int .i64 p0.Rail), (.int .i64 p0.Gap), (.slice Ap0_0 (p0.Kinds).length cp0_0), (.slice Ap0_1 (p0.Slots).length cp0_1), (.slice Ap0_2 (p0.Marks).length cp0_2)]), (.agg #[(.string p1.Board), (.int .i64 p1.Quarters), (.int .i64 p1.At.X), (.int .i64 p1.At.Y)])].toArray w fun e W' => e = .returned (.agg #[(.bool r.Flip), (.int .i64 r.Quarters), (.int .i64 r.At.X), (.int .i64 r.At.Y)]) ∧ Below w.heap.size w W' := by
  unfold F_panel_turnOf at H
  refine Tr.enter (n := 53) Try.func52 rfl rfl rfl ?_
  refine Tr.seq ?_
  refine Tr.region ?_
  refine Tr.box 1 (cs := [(.int .i64 p0.W), (.int .i64 p0.H), (.int .i64 p0.Rail), (.int .i64 p0.Gap), (.slice Ap0_0 (p0.Kinds).length cp0_0), (.slice Ap0_1 (p0.Slots).length cp0_1), (.slice Ap0_2 (p0.Marks).length cp0_2)]) (wn rfl) rfl rfl rfl fun b1 => ?_
  refine Tr.box 2 (cs := [(.string p1.Board), (.int .i64 p1.Quarters), (.int .i64 p1.At.X), (.int .i64 p1.At.Y)]) (wn rfl) rfl rfl rfl fun b2 => ?_
  refine Tr.alloc 3 (wn rfl) rfl ze_46 fun b3 => ?_
  refine Tr.nil (Tr.normThen ?_)
  refine Tr.seq ?_
  obtain ⟨y2, hy2, H⟩ := bnd H
  obtain ⟨x3, hx3, H⟩ := bnd H
  obtain ⟨hx30, hx31, hx32⟩ := idx_some hx3
  refine Tr.drawF 9 [(8, .makeFunc (.func 0) #[] #[])] [(8, ⟨5, 4, (.func (.func 0) #[] #[]), fun b => .pointer (some ⟨b, 0, none⟩), fun b => bx b #[(.string ⟨#[]⟩), (.int .i64 0), (.int .i64 0)] 82⟩)] [(0, (.agg #[(.int .i64 p0.W), (.int .i64 p0.H), (.int .i64 p0.Rail), (.int .i64 p0.Gap), (.slice Ap0_0 (p0.Kinds).length cp0_0), (.slice Ap0_1 (p0.Slots).length cp0_1), (.slice Ap0_2 (p0.Marks).length cp0_2)])), (1, (.agg #[(.string p1.Board), (.int .i64 p1.Quarters), (.int .i64 p1.At.X), (.int .i64 p1.At.Y)])), (2, (.pointer (some ⟨b1, 0, none⟩))), (3, (.pointer (some ⟨b2, 0, none⟩))), (4, (.pointer (some ⟨b3, 0, none⟩))), (5, (.func (.func 0) #[] #[])), (7, (.pointer (some ⟨b1, 4, none⟩))), (8, (.slice Ap0_0 (p0.Kinds).length cp0_0)), (9, (.agg #[(.int .i64 p0.W), (.int .i64 p0.H), (.int .i64 p0.Rail), (.int .i64 p0.Gap), (.slice Ap0_0 (p0.Kinds).length cp0_0), (.slice Ap0_1 (p0.Slots).length cp0_1), (.slice Ap0_2 (p0.Marks).length cp0_2)])), (10, (.pointer (some ⟨b2, 0, none⟩))), (11, (.string p1.Board)), (12, (.int .i64 y2)), (13, (.pointer (some ⟨adB Ap0_0, adO Ap0_0 + (y2).toNat * 3, none⟩))), (14, (.agg #[(.string x3.Name), (.int .i64 x3.W), (.int .i64 x3.H)]))] (by kernel_rfl) (by kernel_rfl) (by kernel_rfl) (by kernel_rfl) (by kernel_rfl) (by kernel_rfl) (by kernel_rfl) (fall_cons (fr_alloc rfl rfl ze_82) fall_nil) (fall_cons rfl fall_nil) (fall_cons rfl fall_nil) ?_ ?_
  · refine Tq.val (wn rfl) rfl (fun _ _ h1 h2 => run_fieldAddr fo_26_4 (h1.ev rfl)) ?_
    refine Tq.val (wn rfl) rfl (fun _ _ h1 h2 => run_load1 ag_22 (h1.ev rfl) (rdb h2 (vs := [(.int .i64 p0.W), (.int .i64 p0.H), (.int .i64 p0.Rail), (.int .i64 p0.Gap), (.slice Ap0_0 (p0.Kinds).length cp0_0), (.slice Ap0_1 (p0.Slots).length cp0_1), (.slice Ap0_2 (p0.Marks).length cp0_2)]) (k := 1) rfl 4) rfl) ?_
    refine Tq.val (wn rfl) rfl (fun _ _ h1 h2 => run_loadN (cs := [(.int .i64 p0.W), (.int .i64 p0.H), (.int .i64 p0.Rail), (.int .i64 p0.Gap), (.slice Ap0_0 (p0.Kinds).length cp0_0), (.slice Ap0_1 (p0.Slots).length cp0_1), (.slice Ap0_2 (p0.Marks).length cp0_2)]) ag_26 sz_26 (h1.ev rfl) (CellsAt.take (rdb h2 (vs := [(.int .i64 p0.W), (.int .i64 p0.H), (.int .i64 p0.Rail), (.int .i64 p0.Gap), (.slice Ap0_0 (p0.Kinds).length cp0_0), (.slice Ap0_1 (p0.Slots).length cp0_1), (.slice Ap0_2 (p0.Marks).length cp0_2)]) (k := 1) rfl 0) 7) rfl) ?_
    refine Tq.val (wn rfl) rfl (fun _ _ h1 h2 => run_fieldAddr fo_34_0 (h1.ev rfl)) ?_
    refine Tq.val (wn rfl) rfl (fun _ _ h1 h2 => run_load1 ag_9 (h1.ev rfl) (rdb h2 (vs := [(.string p1.Board), (.int .i64 p1.Quarters), (.int .i64 p1.At.X), (.int .i64 p1.At.Y)]) (k := 2) rfl 0) rfl) ?_
    refine Tq.call0 (r := (.int .i64 y2)) (wn rfl) rfl Try.call45 (evl_cons rfl (evl_cons rfl evl_nil)) (fun W hW => F_panel_kindAt_ok p0 Ap0_0 cp0_0 (Sl.up hp0_0 hW) Ap0_1 cp0_1 (Sl.up hp0_1 hW) Ap0_2 cp0_2 (Sl.up hp0_2 hW) p1.Board y2 hy2) ?_
    refine Tq.val (wn rfl) rfl (fun _ _ h1 h2 => run_indexAddr el_22 (h1.ev rfl) hp0_0.form (h1.ev rfl) hx30 hx31) ?_
    refine Tq.val (wn rfl) rfl (fun _ _ h1 h2 => run_loadN (cs := [(.string x3.Name), (.int .i64 x3.W), (.int .i64 x3.H)]) ag_82 sz_82 (h1.ev rfl) (CellsAt.take (Rd.arg hp0_0 hx32 _ h2) 3) rfl) ?_
    refine Tq.mkFunc (vs := []) (wn rfl) rfl evl_nil ?_
    exact Tq.fin (.cons rfl (.cons rfl (.cons rfl (.cons rfl (.cons rfl (.cons rfl (.cons rfl (.cons rfl (.cons rfl (.cons rfl (.cons rfl (.cons rfl (.cons rfl (.cons rfl .nil))))))))))))))
  · intro bs1
    refine Tr.sel (lf := [(3, (.pointer (some ⟨b2, 0, none⟩))), (4, (.pointer (some ⟨b3, 0, none⟩))), (5, (.pointer (some ⟨(bs1 8), 0, none⟩))), (14, (.agg #[(.string x3.Name), (.int .i64 x3.W), (.int .i64 x3.H)]))]) (le := [(1, bx b1 #[(.int .i64 p0.W), (.int .i64 p0.H), (.int .i64 p0.Rail), (.int .i64 p0.Gap), (.slice Ap0_0 (p0.Kinds).length cp0_0), (.slice Ap0_1 (p0.Slots).length cp0_1), (.slice Ap0_2 (p0.Marks).length cp0_2)] 26), (2, bx b2 #[(.string p1.Board), (.int .i64 p1.Quarters), (.int .i64 p1.At.X), (.int .i64 p1.At.Y)] 34), (3, bx b3 #[(.bool false), (.int .i64 0), (.int .i64 0), (.int .i64 0)] 46), (4, bx (bs1 8) #[(.string ⟨#[]⟩), (.int .i64 0), (.int .i64 0)] 82)]) (.cons rfl (.cons rfl (.cons rfl (.cons rfl .nil)))) (.cons rfl (.cons rfl (.cons rfl (.cons rfl .nil)))) ?_
    refine Tr.store 4 (cs := [(.string x3.Name), (.int .i64 x3.W), (.int .i64 x3.H)]) [(.string x3.Name), (.int .i64 x3.W), (.int .i64 x3.H)] (wn rfl) rfl rfl rfl rfl sz_82 rfl rfl rfl ?_
    refine Tr.nil (Tr.normThen ?_)
    refine Tr.seq ?_
    refine Tr.region ?_
    refine Tr.val (wn rfl) rfl (fun _ _ h1 h2 => run_fieldAddr fo_34_2 (h1.ev rfl)) ?_
    refine Tr.val (wn rfl) rfl (fun _ _ h1 h2 => run_loadN (cs := [(.int .i64 p1.At.X), (.int .i64 p1.At.Y)]) ag_32 sz_32 (h1.ev rfl) (CellsAt.take (rdb h2 (vs := [(.string p1.Board), (.int .i64 p1.Quarters), (.int .i64 p1.At.X), (.int .i64 p1.At.Y)]) (k := 2) rfl 2) 2) rfl) ?_
    refine Tr.alloc 5 (wn rfl) rfl ze_32 fun b5 => ?_
    refine Tr.store 5 (cs := [(.int .i64 p1.At.X), (.int .i64 p1.At.Y)]) [(.int .i64 p1.At.X), (.int .i64 p1.At.Y)] (wn rfl) rfl rfl rfl rfl sz_32 rfl rfl rfl ?_
    refine Tr.nil (Tr.normThen ?_)
    refine Tr.cutJ (σ := Int × Int) (fun s => F_panel_turnOf_J1 p1 s.1 s.2 = some r) (fun s => [(3, (.pointer (some ⟨b2, 0, none⟩))), (4, (.pointer (some ⟨b3, 0, none⟩))), (6, (.pointer (some ⟨b5, 0, none⟩)))]) (fun s => [(2, bx b2 #[(.string p1.Board), (.int .i64 p1.Quarters), (.int .i64 p1.At.X), (.int .i64 p1.At.Y)] 34), (3, bx b3 #[(.bool false), (.int .i64 0), (.int .i64 0), (.int .i64 0)] 46), (5, bx b5 #[(.int .i64 s.1), (.int .i64 s.2)] 32)]) ?_ ?_
    · refine Tr.seq ?_
      refine Tr.region ?_
      refine Tr.val (wn rfl) rfl (fun _ _ h1 h2 => run_fieldAddr fo_34_1 (h1.ev rfl)) ?_
      refine Tr.val (wn rfl) rfl (fun _ _ h1 h2 => run_load1 ag_3 (h1.ev rfl) (rdb h2 (vs := [(.string p1.Board), (.int .i64 p1.Quarters), (.int .i64 p1.At.X), (.int .i64 p1.At.Y)]) (k := 2) rfl 1) rfl) ?_
      refine Tr.nil (Tr.normThen ?_)
      refine Tr.block ?_
      refine Tr.seq ?_
      refine Tr.region ?_
      refine Tr.val (wn rfl) rfl (fun _ _ h1 h2 => run_eql (h1.ev rfl) (h1.ev rfl)) ?_
      refine Tr.val (wn rfl) rfl (fun _ _ h1 h2 => run_assign (h1.ev rfl)) ?_
      refine Tr.nil (Tr.normThen ?_)
      refine Tr.cond rfl H (fun H => ?_) (fun H => ?_)
      · refine Tr.region ?_
        refine Tr.val (wn rfl) rfl (fun _ _ h1 h2 => run_fieldAddr fo_32_0 (h1.ev rfl)) ?_
        refine Tr.val (wn rfl) rfl (fun _ _ h1 h2 => run_load1 ag_3 (h1.ev rfl) (rdb h2 (vs := [(.int .i64 p1.At.X), (.int .i64 p1.At.Y)]) (k := 5) rfl 0) rfl) ?_
        refine Tr.val (wn rfl) rfl (fun _ _ h1 h2 => run_fieldAddr fo_82_2 (h1.ev rfl)) ?_
        refine Tr.val (wn rfl) rfl (fun _ _ h1 h2 => run_load1 ag_3 (h1.ev rfl) (rdb h2 (vs := [(.string x3.Name), (.int .i64 x3.W), (.int .i64 x3.H)]) (k := 4) rfl 2) rfl) ?_
        refine Tr.val (wn rfl) rfl (fun _ _ h1 h2 => run_add (h1.ev rfl) (h1.ev rfl)) ?_
        refine Tr.val (wn rfl) rfl (fun _ _ h1 h2 => run_fieldAddr fo_32_0 (h1.ev rfl)) ?_
        refine Tr.store 5 (cs := [(.int .i64 (w64 (p1.At.X + x3.H)))]) [(.int .i64 (w64 (p1.At.X + x3.H))), (.int .i64 p1.At.Y)] (wn rfl) rfl rfl rfl rfl sz_3 rfl rfl rfl ?_
        refine Tr.nil (Tr.normBlock ?_)
        exact Tr.backThen ((w64 (p1.At.X + x3.H)), p1.At.Y) H (.cons rfl (.cons rfl (.cons rfl .nil))) (.cons rfl (.cons rfl (.cons rfl .nil)))
      · refine Tr.seq ?_
        refine Tr.region ?_
        refine Tr.val (wn rfl) rfl (fun _ _ h1 h2 => run_eql (h1.ev rfl) (h1.ev rfl)) ?_
        refine Tr.val (wn rfl) rfl (fun _ _ h1 h2 => run_assign (h1.ev rfl)) ?_
        refine Tr.nil (Tr.normThen ?_)
        refine Tr.cond rfl H (fun H => ?_) (fun H => ?_)
        · refine Tr.drawC 12 [(11, b5)] [] (by kernel_rfl) (by kernel_rfl) fun sz7 hlosz7 hEsz7 => ?_
          refine Dr.quiet 0 [(3, (.pointer (some ⟨b2, 0, none⟩))), (4, (.pointer (some ⟨b3, 0, none⟩))), (5, (.pointer (some ⟨(bs1 8), 0, none⟩))), (6, (.pointer (some ⟨b5, 0, none⟩))), (14, (.agg #[(.string x3.Name), (.int .i64 x3.W), (.int .i64 x3.H)])), (15, (.pointer (some ⟨b2, 2, none⟩))), (16, (.agg #[(.int .i64 p1.At.X), (.int .i64 p1.At.Y)])), (17, (.pointer (some ⟨b2, 1, none⟩))), (18, (.int .i64 p1.Quarters)), (19, (.bool (p1.Quarters == 1))), (20, (.bool (p1.Quarters == 1))), (27, (.bool (p1.Quarters == 2))), (28, (.bool (p1.Quarters == 2))), (29, (.pointer (some ⟨b5, 0, none⟩)))] (by kernel_rfl) rfl rfl (by kernel_rfl) ?_ rfl rfl ?_
          · refine Tq.val (wn rfl) rfl (fun _ _ h1 h2 => run_fieldAddr fo_32_0 (h1.ev rfl)) ?_
            exact Tq.fin (.cons rfl (.cons rfl (.cons rfl (.cons rfl (.cons rfl (.cons rfl (.cons rfl (.cons rfl (.cons rfl (.cons rfl (.cons rfl (.cons rfl (.cons rfl (.cons rfl .nil))))))))))))))
          refine Dr.quiet 1 [(3, (.pointer (some ⟨b2, 0, none⟩))), (4, (.pointer (some ⟨b3, 0, none⟩))), (5, (.pointer (some ⟨(bs1 8), 0, none⟩))), (6, (.pointer (some ⟨b5, 0, none⟩))), (14, (.agg #[(.string x3.Name), (.int .i64 x3.W), (.int .i64 x3.H)])), (15, (.pointer (some ⟨b2, 2, none⟩))), (16, (.agg #[(.int .i64 p1.At.X), (.int .i64 p1.At.Y)])), (17, (.pointer (some ⟨b2, 1, none⟩))), (18, (.int .i64 p1.Quarters)), (19, (.bool (p1.Quarters == 1))), (20, (.bool (p1.Quarters == 1))), (27, (.bool (p1.Quarters == 2))), (28, (.bool (p1.Quarters == 2))), (29, (.pointer (some ⟨b5, 0, none⟩))), (30, (.int .i64 p1.At.X))] (by kernel_rfl) rfl rfl (by kernel_rfl) ?_ rfl rfl ?_
          · refine Tq.val (wn rfl) rfl (fun _ _ h1 h2 => run_load1 ag_3 (h1.ev rfl) (rdb h2 (vs := [(.int .i64 p1.At.X), (.int .i64 p1.At.Y)]) (k := 5) rfl 0) rfl) ?_
            exact Tq.fin (.cons rfl (.cons rfl (.cons rfl (.cons rfl (.cons rfl (.cons rfl (.cons rfl (.cons rfl (.cons rfl (.cons rfl (.cons rfl (.cons rfl (.cons rfl (.cons rfl (.cons rfl .nil)))))))))))))))
          refine Dr.quiet 2 [(3, (.pointer (some ⟨b2, 0, none⟩))), (4, (.pointer (some ⟨b3, 0, none⟩))), (5, (.pointer (some ⟨(bs1 8), 0, none⟩))), (6, (.pointer (some ⟨b5, 0, none⟩))), (14, (.agg #[(.string x3.Name), (.int .i64 x3.W), (.int .i64 x3.H)])), (15, (.pointer (some ⟨b2, 2, none⟩))), (16, (.agg #[(.int .i64 p1.At.X), (.int .i64 p1.At.Y)])), (17, (.pointer (some ⟨b2, 1, none⟩))), (18, (.int .i64 p1.Quarters)), (19, (.bool (p1.Quarters == 1))), (20, (.bool (p1.Quarters == 1))), (27, (.bool (p1.Quarters == 2))), (28, (.bool (p1.Quarters == 2))), (29, (.pointer (some ⟨b5, 0, none⟩))), (30, (.int .i64 p1.At.X)), (31, (.pointer (some ⟨(bs1 8), 1, none⟩)))] (by kernel_rfl) rfl rfl (by kernel_rfl) ?_ rfl rfl ?_
          · refine Tq.val (wn rfl) rfl (fun _ _ h1 h2 => run_fieldAddr fo_82_1 (h1.ev rfl)) ?_
            exact Tq.fin (.cons rfl (.cons rfl (.cons rfl (.cons rfl (.cons rfl (.cons rfl (.cons rfl (.cons rfl (.cons rfl (.cons rfl (.cons rfl (.cons rfl (.cons rfl (.cons rfl (.cons rfl (.cons rfl .nil))))))))))))))))
          refine Dr.quiet 3 [(3, (.pointer (some ⟨b2, 0, none⟩))), (4, (.pointer (some ⟨b3, 0, none⟩))), (5, (.pointer (some ⟨(bs1 8), 0, none⟩))), (6, (.pointer (some ⟨b5, 0, none⟩))), (14, (.agg #[(.string x3.Name), (.int .i64 x3.W), (.int .i64 x3.H)])), (15, (.pointer (some ⟨b2, 2, none⟩))), (16, (.agg #[(.int .i64 p1.At.X), (.int .i64 p1.At.Y)])), (17, (.pointer (some ⟨b2, 1, none⟩))), (18, (.int .i64 p1.Quarters)), (19, (.bool (p1.Quarters == 1))), (20, (.bool (p1.Quarters == 1))), (27, (.bool (p1.Quarters == 2))), (28, (.bool (p1.Quarters == 2))), (29, (.pointer (some ⟨b5, 0, none⟩))), (30, (.int .i64 p1.At.X)), (31, (.pointer (some ⟨(bs1 8), 1, none⟩))), (32, (.int .i64 x3.W))] (by kernel_rfl) rfl rfl (by kernel_rfl) ?_ rfl rfl ?_
          · refine Tq.val (wn rfl) rfl (fun _ _ h1 h2 => run_load1 ag_3 (h1.ev rfl) (rdb h2 (vs := [(.string x3.Name), (.int .i64 x3.W), (.int .i64 x3.H)]) (k := 4) rfl 1) rfl) ?_
            exact Tq.fin (.cons rfl (.cons rfl (.cons rfl (.cons rfl (.cons rfl (.cons rfl (.cons rfl (.cons rfl (.cons rfl (.cons rfl (.cons rfl (.cons rfl (.cons rfl (.cons rfl (.cons rfl (.cons rfl (.cons rfl .nil)))))))))))))))))
          refine Dr.quiet 4 [(3, (.pointer (some ⟨b2, 0, none⟩))), (4, (.pointer (some ⟨b3, 0, none⟩))), (5, (.pointer (some ⟨(bs1 8), 0, none⟩))), (6, (.pointer (some ⟨b5, 0, none⟩))), (14, (.agg #[(.string x3.Name), (.int .i64 x3.W), (.int .i64 x3.H)])), (15, (.pointer (some ⟨b2, 2, none⟩))), (16, (.agg #[(.int .i64 p1.At.X), (.int .i64 p1.At.Y)])), (17, (.pointer (some ⟨b2, 1, none⟩))), (18, (.int .i64 p1.Quarters)), (19, (.bool (p1.Quarters == 1))), (20, (.bool (p1.Quarters == 1))), (27, (.bool (p1.Quarters == 2))), (28, (.bool (p1.Quarters == 2))), (29, (.pointer (some ⟨b5, 0, none⟩))), (30, (.int .i64 p1.At.X)), (31, (.pointer (some ⟨(bs1 8), 1, none⟩))), (32, (.int .i64 x3.W)), (33, (.int .i64 (w64 (p1.At.X + x3.W))))] (by kernel_rfl) rfl rfl (by kernel_rfl) ?_ rfl rfl ?_
          · refine Tq.val (wn rfl) rfl (fun _ _ h1 h2 => run_add (h1.ev rfl) (h1.ev rfl)) ?_
            exact Tq.fin (.cons rfl (.cons rfl (.cons rfl (.cons rfl (.cons rfl (.cons rfl (.cons rfl (.cons rfl (.cons rfl (.cons rfl (.cons rfl (.cons rfl (.cons rfl (.cons rfl (.cons rfl (.cons rfl (.cons rfl (.cons rfl .nil))))))))))))))))))
          refine Dr.quiet 5 [(3, (.pointer (some ⟨b2, 0, none⟩))), (4, (.pointer (some ⟨b3, 0, none⟩))), (5, (.pointer (some ⟨(bs1 8), 0, none⟩))), (6, (.pointer (some ⟨b5, 0, none⟩))), (14, (.agg #[(.string x3.Name), (.int .i64 x3.W), (.int .i64 x3.H)])), (15, (.pointer (some ⟨b2, 2, none⟩))), (16, (.agg #[(.int .i64 p1.At.X), (.int .i64 p1.At.Y)])), (17, (.pointer (some ⟨b2, 1, none⟩))), (18, (.int .i64 p1.Quarters)), (19, (.bool (p1.Quarters == 1))), (20, (.bool (p1.Quarters == 1))), (27, (.bool (p1.Quarters == 2))), (28, (.bool (p1.Quarters == 2))), (29, (.pointer (some ⟨b5, 0, none⟩))), (30, (.int .i64 p1.At.X)), (31, (.pointer (some ⟨(bs1 8), 1, none⟩))), (32, (.int .i64 x3.W)), (33, (.int .i64 (w64 (p1.At.X + x3.W)))), (34, (.pointer (some ⟨b5, 1, none⟩)))] (by kernel_rfl) rfl rfl (by kernel_rfl) ?_ rfl rfl ?_
          · refine Tq.val (wn rfl) rfl (fun _ _ h1 h2 => run_fieldAddr fo_32_1 (h1.ev rfl)) ?_
            exact Tq.fin (.cons rfl (.cons rfl (.cons rfl (.cons rfl (.cons rfl (.cons rfl (.cons rfl (.cons rfl (.cons rfl (.cons rfl (.cons rfl (.cons rfl (.cons rfl (.cons rfl (.cons rfl (.cons rfl (.cons rfl (.cons rfl (.cons rfl .nil)))))))))))))))))))
          refine Dr.quiet 6 [(3, (.pointer (some ⟨b2, 0, none⟩))), (4, (.pointer (some ⟨b3, 0, none⟩))), (5, (.pointer (some ⟨(bs1 8), 0, none⟩))), (6, (.pointer (some ⟨b5, 0, none⟩))), (14, (.agg #[(.string x3.Name), (.int .i64 x3.W), (.int .i64 x3.H)])), (15, (.pointer (some ⟨b2, 2, none⟩))), (16, (.agg #[(.int .i64 p1.At.X), (.int .i64 p1.At.Y)])), (17, (.pointer (some ⟨b2, 1, none⟩))), (18, (.int .i64 p1.Quarters)), (19, (.bool (p1.Quarters == 1))), (20, (.bool (p1.Quarters == 1))), (27, (.bool (p1.Quarters == 2))), (28, (.bool (p1.Quarters == 2))), (29, (.pointer (some ⟨b5, 0, none⟩))), (30, (.int .i64 p1.At.X)), (31, (.pointer (some ⟨(bs1 8), 1, none⟩))), (32, (.int .i64 x3.W)), (33, (.int .i64 (w64 (p1.At.X + x3.W)))), (34, (.pointer (some ⟨b5, 1, none⟩))), (35, (.int .i64 p1.At.Y))] (by kernel_rfl) rfl rfl (by kernel_rfl) ?_ rfl rfl ?_
          · refine Tq.val (wn rfl) rfl (fun _ _ h1 h2 => run_load1 ag_3 (h1.ev rfl) (rdb h2 (vs := [(.int .i64 p1.At.X), (.int .i64 p1.At.Y)]) (k := 5) rfl 1) rfl) ?_
            exact Tq.fin (.cons rfl (.cons rfl (.cons rfl (.cons rfl (.cons rfl (.cons rfl (.cons rfl (.cons rfl (.cons rfl (.cons rfl (.cons rfl (.cons rfl (.cons rfl (.cons rfl (.cons rfl (.cons rfl (.cons rfl (.cons rfl (.cons rfl (.cons rfl .nil))))))))))))))))))))
          refine Dr.quietZ 7 [(3, (.pointer (some ⟨b2, 0, none⟩))), (4, (.pointer (some ⟨b3, 0, none⟩))), (5, (.pointer (some ⟨(bs1 8), 0, none⟩))), (6, (.pointer (some ⟨b5, 0, none⟩))), (14, (.agg #[(.string x3.Name), (.int .i64 x3.W), (.int .i64 x3.H)])), (15, (.pointer (some ⟨b2, 2, none⟩))), (16, (.agg #[(.int .i64 p1.At.X), (.int .i64 p1.At.Y)])), (17, (.pointer (some ⟨b2, 1, none⟩))), (18, (.int .i64 p1.Quarters)), (19, (.bool (p1.Quarters == 1))), (20, (.bool (p1.Quarters == 1))), (27, (.bool (p1.Quarters == 2))), (28, (.bool (p1.Quarters == 2))), (29, (.pointer (some ⟨b5, 0, none⟩))), (30, (.int .i64 p1.At.X)), (31, (.pointer (some ⟨(bs1 8), 1, none⟩))), (32, (.int .i64 x3.W)), (33, (.int .i64 (w64 (p1.At.X + x3.W)))), (34, (.pointer (some ⟨b5, 1, none⟩))), (35, (.int .i64 p1.At.Y)), (36, (.pointer (some ⟨(bs1 8), 2, none⟩)))] [11] false (by kernel_rfl) rfl rfl (by kernel_rfl) (fun W W' h2 hsW hk => HF.keepZ (le := []) (ks := [(5, b5)]) (s0 := sz7) h2 hk hlosz7 .nil (fun b hb => hb.elim (fun hb => .inl (by simp at hb ⊢; simpa [eq_comm] using hb)) (fun hb => absurd hb.1 (by decide))) (fun p hp => by simp at hp; first | (subst hp; exact ⟨_, _, rfl⟩) | (rcases hp with rfl | rfl <;> exact ⟨_, _, rfl⟩)) rfl) ?_ rfl rfl ?_
          · refine Tq.val (wn rfl) rfl (fun _ _ h1 h2 => run_fieldAddr fo_82_2 (h1.ev rfl)) ?_
            exact Tq.fin (.cons rfl (.cons rfl (.cons rfl (.cons rfl (.cons rfl (.cons rfl (.cons rfl (.cons rfl (.cons rfl (.cons rfl (.cons rfl (.cons rfl (.cons rfl (.cons rfl (.cons rfl (.cons rfl (.cons rfl (.cons rfl (.cons rfl (.cons rfl (.cons rfl .nil)))))))))))))))))))))
          refine Dr.quietZ 8 [(3, (.pointer (some ⟨b2, 0, none⟩))), (4, (.pointer (some ⟨b3, 0, none⟩))), (5, (.pointer (some ⟨(bs1 8), 0, none⟩))), (6, (.pointer (some ⟨b5, 0, none⟩))), (14, (.agg #[(.string x3.Name), (.int .i64 x3.W), (.int .i64 x3.H)])), (15, (.pointer (some ⟨b2, 2, none⟩))), (16, (.agg #[(.int .i64 p1.At.X), (.int .i64 p1.At.Y)])), (17, (.pointer (some ⟨b2, 1, none⟩))), (18, (.int .i64 p1.Quarters)), (19, (.bool (p1.Quarters == 1))), (20, (.bool (p1.Quarters == 1))), (27, (.bool (p1.Quarters == 2))), (28, (.bool (p1.Quarters == 2))), (29, (.pointer (some ⟨b5, 0, none⟩))), (30, (.int .i64 p1.At.X)), (31, (.pointer (some ⟨(bs1 8), 1, none⟩))), (32, (.int .i64 x3.W)), (33, (.int .i64 (w64 (p1.At.X + x3.W)))), (34, (.pointer (some ⟨b5, 1, none⟩))), (35, (.int .i64 p1.At.Y)), (36, (.pointer (some ⟨(bs1 8), 2, none⟩))), (37, (.int .i64 x3.H))] [11] false (by kernel_rfl) rfl rfl (by kernel_rfl) (fun W W' h2 hsW hk => HF.keepZ (le := [(4, bx (bs1 8) #[(.string x3.Name), (.int .i64 x3.W), (.int .i64 x3.H)] 82)]) (ks := [(5, b5)]) (s0 := sz7) h2 hk hlosz7 (.cons rfl .nil) (fun b hb => hb.elim (fun hb => .inl (by simp at hb ⊢; simpa [eq_comm] using hb)) (fun hb => absurd hb.1 (by decide))) (fun p hp => by simp at hp; first | (subst hp; exact ⟨_, _, rfl⟩) | (rcases hp with rfl | rfl <;> exact ⟨_, _, rfl⟩)) rfl) ?_ rfl rfl ?_
          · refine Tq.val (wn rfl) rfl (fun _ _ h1 h2 => run_load1 ag_3 (h1.ev rfl) (rdb h2 (vs := [(.string x3.Name), (.int .i64 x3.W), (.int .i64 x3.H)]) (k := 4) rfl 2) rfl) ?_
            exact Tq.fin (.cons rfl (.cons rfl (.cons rfl (.cons rfl (.cons rfl (.cons rfl (.cons rfl (.cons rfl (.cons rfl (.cons rfl (.cons rfl (.cons rfl (.cons rfl (.cons rfl (.cons rfl (.cons rfl (.cons rfl (.cons rfl (.cons rfl (.cons rfl (.cons rfl (.cons rfl .nil))))))))))))))))))))))
          refine Dr.quietZ 9 [(3, (.pointer (some ⟨b2, 0, none⟩))), (4, (.pointer (some ⟨b3, 0, none⟩))), (5, (.pointer (some ⟨(bs1 8), 0, none⟩))), (6, (.pointer (some ⟨b5, 0, none⟩))), (14, (.agg #[(.string x3.Name), (.int .i64 x3.W), (.int .i64 x3.H)])), (15, (.pointer (some ⟨b2, 2, none⟩))), (16, (.agg #[(.int .i64 p1.At.X), (.int .i64 p1.At.Y)])), (17, (.pointer (some ⟨b2, 1, none⟩))), (18, (.int .i64 p1.Quarters)), (19, (.bool (p1.Quarters == 1))), (20, (.bool (p1.Quarters == 1))), (27, (.bool (p1.Quarters == 2))), (28, (.bool (p1.Quarters == 2))), (29, (.pointer (some ⟨b5, 0, none⟩))), (30, (.int .i64 p1.At.X)), (31, (.pointer (some ⟨(bs1 8), 1, none⟩))), (32, (.int .i64 x3.W)), (33, (.int .i64 (w64 (p1.At.X + x3.W)))), (34, (.pointer (some ⟨b5, 1, none⟩))), (35, (.int .i64 p1.At.Y)), (36, (.pointer (some ⟨(bs1 8), 2, none⟩))), (37, (.int .i64 x3.H)), (38, (.int .i64 (w64 (p1.At.Y + x3.H))))] [11] false (by kernel_rfl) rfl rfl (by kernel_rfl) (fun W W' h2 hsW hk => HF.keepZ (le := []) (ks := [(5, b5)]) (s0 := sz7) h2 hk hlosz7 .nil (fun b hb => hb.elim (fun hb => .inl (by simp at hb ⊢; simpa [eq_comm] using hb)) (fun hb => absurd hb.1 (by decide))) (fun p hp => by simp at hp; first | (subst hp; exact ⟨_, _, rfl⟩) | (rcases hp with rfl | rfl <;> exact ⟨_, _, rfl⟩)) rfl) ?_ rfl rfl ?_
          · refine Tq.val (wn rfl) rfl (fun _ _ h1 h2 => run_add (h1.ev rfl) (h1.ev rfl)) ?_
            exact Tq.fin (.cons rfl (.cons rfl (.cons rfl (.cons rfl (.cons rfl (.cons rfl (.cons rfl (.cons rfl (.cons rfl (.cons rfl (.cons rfl (.cons rfl (.cons rfl (.cons rfl (.cons rfl (.cons rfl (.cons rfl (.cons rfl (.cons rfl (.cons rfl (.cons rfl (.cons rfl (.cons rfl .nil)))))))))))))))))))))))
          refine Dr.quiet 10 [(3, (.pointer (some ⟨b2, 0, none⟩))), (4, (.pointer (some ⟨b3, 0, none⟩))), (5, (.pointer (some ⟨(bs1 8), 0, none⟩))), (6, (.pointer (some ⟨b5, 0, none⟩))), (14, (.agg #[(.string x3.Name), (.int .i64 x3.W), (.int .i64 x3.H)])), (15, (.pointer (some ⟨b2, 2, none⟩))), (16, (.agg #[(.int .i64 p1.At.X), (.int .i64 p1.At.Y)])), (17, (.pointer (some ⟨b2, 1, none⟩))), (18, (.int .i64 p1.Quarters)), (19, (.bool (p1.Quarters == 1))), (20, (.bool (p1.Quarters == 1))), (27, (.bool (p1.Quarters == 2))), (28, (.bool (p1.Quarters == 2))), (29, (.pointer (some ⟨b5, 0, none⟩))), (30, (.int .i64 p1.At.X)), (31, (.pointer (some ⟨(bs1 8), 1, none⟩))), (32, (.int .i64 x3.W)), (33, (.int .i64 (w64 (p1.At.X + x3.W)))), (34, (.pointer (some ⟨b5, 1, none⟩))), (35, (.int .i64 p1.At.Y)), (36, (.pointer (some ⟨(bs1 8), 2, none⟩))), (37, (.int .i64 x3.H)), (38, (.int .i64 (w64 (p1.At.Y + x3.H)))), (39, (.pointer (some ⟨b5, 0, none⟩)))] (by kernel_rfl) rfl rfl (by kernel_rfl) ?_ rfl rfl ?_
          · refine Tq.val (wn rfl) rfl (fun _ _ h1 h2 => run_fieldAddr fo_32_0 (h1.ev rfl)) ?_
            exact Tq.fin (.cons rfl (.cons rfl (.cons rfl (.cons rfl (.cons rfl (.cons rfl (.cons rfl (.cons rfl (.cons rfl (.cons rfl (.cons rfl (.cons rfl (.cons rfl (.cons rfl (.cons rfl (.cons rfl (.cons rfl (.cons rfl (.cons rfl (.cons rfl (.cons rfl (.cons rfl (.cons rfl (.cons rfl .nil))))))))))))))))))))))))
          refine Dr.one 11 (by kernel_rfl) ?_
          refine St.store 11 5 (cs := [(.int .i64 (w64 (p1.At.X + x3.W)))]) [(.int .i64 (w64 (p1.At.X + x3.W))), (.int .i64 p1.At.Y)] rfl (wn rfl) (.inl (by simp)) rfl rfl rfl rfl sz_3 rfl rfl rfl ?_
          refine Dr.tail (by kernel_rfl) ?_
          refine Tr.val (wn rfl) rfl (fun _ _ h1 h2 => run_fieldAddr fo_32_1 (h1.ev rfl)) ?_
          refine Tr.store 5 (cs := [(.int .i64 (w64 (p1.At.Y + x3.H)))]) [(.int .i64 (w64 (p1.At.X + x3.W))), (.int .i64 (w64 (p1.At.Y + x3.H)))] (wn rfl) rfl rfl rfl rfl sz_3 rfl rfl rfl ?_
          refine Tr.nil (Tr.normBlock ?_)
          exact Tr.backThen ((w64 (p1.At.X + x3.W)), (w64 (p1.At.Y + x3.H))) H (.cons rfl (.cons rfl (.cons rfl .nil))) (.cons rfl (.cons rfl (.cons rfl .nil)))
        · refine Tr.seq ?_
          refine Tr.region ?_
          refine Tr.val (wn rfl) rfl (fun _ _ h1 h2 => run_eql (h1.ev rfl) (h1.ev rfl)) ?_
          refine Tr.val (wn rfl) rfl (fun _ _ h1 h2 => run_assign (h1.ev rfl)) ?_
          refine Tr.nil (Tr.normThen ?_)
          refine Tr.cond rfl H (fun H => ?_) (fun H => ?_)
          · refine Tr.region ?_
            refine Tr.val (wn rfl) rfl (fun _ _ h1 h2 => run_fieldAddr fo_32_1 (h1.ev rfl)) ?_
            refine Tr.val (wn rfl) rfl (fun _ _ h1 h2 => run_load1 ag_3 (h1.ev rfl) (rdb h2 (vs := [(.int .i64 p1.At.X), (.int .i64 p1.At.Y)]) (k := 5) rfl 1) rfl) ?_
            refine Tr.val (wn rfl) rfl (fun _ _ h1 h2 => run_fieldAddr fo_82_1 (h1.ev rfl)) ?_
            refine Tr.val (wn rfl) rfl (fun _ _ h1 h2 => run_load1 ag_3 (h1.ev rfl) (rdb h2 (vs := [(.string x3.Name), (.int .i64 x3.W), (.int .i64 x3.H)]) (k := 4) rfl 1) rfl) ?_
            refine Tr.val (wn rfl) rfl (fun _ _ h1 h2 => run_add (h1.ev rfl) (h1.ev rfl)) ?_
            refine Tr.val (wn rfl) rfl (fun _ _ h1 h2 => run_fieldAddr fo_32_1 (h1.ev rfl)) ?_
            refine Tr.store 5 (cs := [(.int .i64 (w64 (p1.At.Y + x3.W)))]) [(.int .i64 p1.At.X), (.int .i64 (w64 (p1.At.Y + x3.W)))] (wn rfl) rfl rfl rfl rfl sz_3 rfl rfl rfl ?_
            refine Tr.nil (Tr.normBlock ?_)
            exact Tr.backThen (p1.At.X, (w64 (p1.At.Y + x3.W))) H (.cons rfl (.cons rfl (.cons rfl .nil))) (.cons rfl (.cons rfl (.cons rfl .nil)))
          · refine Tr.skip (Tr.normBlock ?_)
            exact Tr.backThen (p1.At.X, p1.At.Y) H (.cons rfl (.cons rfl (.cons rfl .nil))) (.cons rfl (.cons rfl (.cons rfl .nil)))
    · intro s hs
      obtain ⟨x5, x6⟩ := s
      have H := hs
      replace H : F_panel_turnOf_J1 p1 x5 x6 = some r := H
      unfold F_panel_turnOf_J1 at H
      show Tr _ _ (LF [(3, (.pointer (some ⟨b2, 0, none⟩))), (4, (.pointer (some ⟨b3, 0, none⟩))), (6, (.pointer (some ⟨b5, 0, none⟩)))]) (LE [(2, bx b2 #[(.string p1.Board), (.int .i64 p1.Quarters), (.int .i64 p1.At.X), (.int .i64 p1.At.Y)] 34), (3, bx b3 #[(.bool false), (.int .i64 0), (.int .i64 0), (.int .i64 0)] 46), (5, bx b5 #[(.int .i64 x5), (.int .i64 x6)] 32)]) _
      refine Tr.seq ?_
      refine Tr.region ?_
      refine Tr.val (wn rfl) rfl (fun _ _ h1 h2 => run_fieldAddr fo_34_1 (h1.ev rfl)) ?_
      refine Tr.val (wn rfl) rfl (fun _ _ h1 h2 => run_load1 ag_3 (h1.ev rfl) (rdb h2 (vs := [(.string p1.Board), (.int .i64 p1.Quarters), (.int .i64 p1.At.X), (.int .i64 p1.At.Y)]) (k := 2) rfl 1) rfl) ?_
      refine Tr.val (wn rfl) rfl (fun _ _ h1 h2 => run_loadN (cs := [(.int .i64 x5), (.int .i64 x6)]) ag_32 sz_32 (h1.ev rfl) (CellsAt.take (rdb h2 (vs := [(.int .i64 x5), (.int .i64 x6)]) (k := 5) rfl 0) 2) rfl) ?_
      refine Tr.build (vs := [(1, (.int .i64 p1.Quarters)), (2, (.agg #[(.int .i64 x5), (.int .i64 x6)]))]) (cs := [(.bool false), (.int .i64 p1.Quarters), (.int .i64 x5), (.int .i64 x6)]) (wn rfl) rfl (evs_cons rfl (evs_cons rfl evs_nil)) (by kernel_rfl) ?_
      refine Tr.store 3 (cs := [(.bool false), (.int .i64 p1.Quarters), (.int .i64 x5), (.int .i64 x6)]) [(.bool false), (.int .i64 p1.Quarters), (.int .i64 x5), (.int .i64 x6)] (wn rfl) rfl rfl rfl rfl sz_46 rfl rfl rfl ?_
      refine Tr.nil (Tr.normThen ?_)
      refine Tr.ret ?_
      obtain rfl := Option.some.inj H
      exact Tr.out (m := [(.agg #[(.bool false), (.int .i64 p1.Quarters), (.int .i64 x5), (.int .i64 x6)])]) [3] (res_cell rfl rfl ag_46 sz_46 res_nil) (fun W hW => ⟨rfl, hW.below⟩)

end Go.Proofs.Ytpkicpnbpldkpaa
