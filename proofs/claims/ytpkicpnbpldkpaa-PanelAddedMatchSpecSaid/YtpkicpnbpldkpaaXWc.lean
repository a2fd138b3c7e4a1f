/- The walks: each function computes its plain function. -/
import Derived.Test.YtpkicpnbpldkpaaXWb
namespace Go.Proofs.Ytpkicpnbpldkpaa
open Go.RowKit
set_option maxRecDepth 100000
set_option maxHeartbeats 1000000
theorem F_etchhouseref9_within_ok {w : Bs} (p0 : Int) (p1 : Int) (p2 : Int) (r : Bool) (H : F_etchhouseref9_within p0 p1 p2 = some r) (hE : HF w w.W E0) : Calls Try.prog 49 [(.int .i64 p0), (.int .i64 p1), (.int .i64 p2)].toArray w.W fun e W' => e = .returned (.bool r) ∧ HF w W' E0 := by
  unfold F_etchhouseref9_within at H
  have leB := Bs.Le.refl w
  refine Tr.enter (n := 15) Try.func49 rfl rfl rfl hE ?_
  refine Tr.seq ?_
  refine Tr.region ?_
  refine Tr.val (wn rfl) rfl (fun _ _ h1 h2 => run_assign (h1.ev rfl)) ?_
  refine Tr.nil (Tr.normThen ?_)
  refine Tr.seq ?_
  refine Tr.region ?_
  refine Tr.val (wn rfl) rfl (fun _ _ h1 h2 => run_move (h1.ev rfl)) ?_
  refine Tr.val (wn rfl) rfl (fun _ _ h1 h2 => run_move (h1.ev rfl)) ?_
  refine Tr.val (wn rfl) rfl (fun _ _ h1 h2 => run_geq (h1.ev rfl) (h1.ev rfl)) ?_
  refine Tr.val (wn rfl) rfl (fun _ _ h1 h2 => run_move (h1.ev rfl)) ?_
  refine Tr.mid0 4 [(14, (.bool ((decide (p1 ≤ p0)) && (decide (p0 ≤ p2)))))] [] ?_ ?_
  · cases hg99 : (decide (p1 ≤ p0))
    · refine Tr.pass rfl rfl rfl rfl rfl (by decide) ?_
      refine Tr.pass rfl rfl rfl rfl rfl (by decide) ?_
      refine Tr.pass rfl rfl rfl rfl rfl (by decide) ?_
      refine Tr.val (wn rfl) rfl (fun _ _ h1 h2 => run_pickF (h1.ev rfl) (h1.ev rfl)) ?_
      exact Tr.nil (Tr.fin0 (.cons rfl .nil) .nil)
    · refine Tr.val (wg rfl rfl rfl) rfl (fun _ _ h1 h2 => run_move (h1.ev rfl)) ?_
      refine Tr.val (wg rfl rfl rfl) rfl (fun _ _ h1 h2 => run_move (h1.ev rfl)) ?_
      refine Tr.val (wg rfl rfl rfl) rfl (fun _ _ h1 h2 => run_leq (h1.ev rfl) (h1.ev rfl)) ?_
      refine Tr.val (wn rfl) rfl (fun _ _ h1 h2 => run_pickT (h1.ev rfl) (h1.ev rfl)) ?_
      exact Tr.nil (Tr.fin0 (.cons rfl .nil) .nil)
  · show Tr _ _ (LF [(14, (.bool ((decide (p1 ≤ p0)) && (decide (p0 ≤ p2)))))]) (LE []) _
    refine Tr.val (wn rfl) rfl (fun _ _ h1 h2 => run_assign (h1.ev rfl)) ?_
    refine Tr.nil (Tr.normThen ?_)
    refine Tr.ret ?_
    obtain rfl := Option.some.inj H
    exact Tr.out (m := [(.bool ((decide (p1 ≤ p0)) && (decide (p0 ≤ p2))))]) [] (res_tmp rfl res_nil) (fun W hW => ⟨rfl, hW.low leB⟩)

theorem F_etchhouseref3_within_ok {w : Bs} (p0 : Int) (p1 : Int) (p2 : Int) (r : Bool) (H : F_etchhouseref3_within p0 p1 p2 = some r) (hE : HF w w.W E0) : Calls Try.prog 112 [(.int .i64 p0), (.int .i64 p1), (.int .i64 p2)].toArray w.W fun e W' => e = .returned (.bool r) ∧ HF w W' E0 := by
  unfold F_etchhouseref3_within at H
  have leB := Bs.Le.refl w
  refine Tr.enter (n := 15) Try.func112 rfl rfl rfl hE ?_
  refine Tr.seq ?_
  refine Tr.region ?_
  refine Tr.val (wn rfl) rfl (fun _ _ h1 h2 => run_assign (h1.ev rfl)) ?_
  refine Tr.nil (Tr.normThen ?_)
  refine Tr.seq ?_
  refine Tr.region ?_
  refine Tr.val (wn rfl) rfl (fun _ _ h1 h2 => run_move (h1.ev rfl)) ?_
  refine Tr.val (wn rfl) rfl (fun _ _ h1 h2 => run_move (h1.ev rfl)) ?_
  refine Tr.val (wn rfl) rfl (fun _ _ h1 h2 => run_geq (h1.ev rfl) (h1.ev rfl)) ?_
  refine Tr.val (wn rfl) rfl (fun _ _ h1 h2 => run_move (h1.ev rfl)) ?_
  refine Tr.mid0 4 [(14, (.bool ((decide (p1 ≤ p0)) && (decide (p0 ≤ p2)))))] [] ?_ ?_
  · cases hg99 : (decide (p1 ≤ p0))
    · refine Tr.pass rfl rfl rfl rfl rfl (by decide) ?_
      refine Tr.pass rfl rfl rfl rfl rfl (by decide) ?_
      refine Tr.pass rfl rfl rfl rfl rfl (by decide) ?_
      refine Tr.val (wn rfl) rfl (fun _ _ h1 h2 => run_pickF (h1.ev rfl) (h1.ev rfl)) ?_
      exact Tr.nil (Tr.fin0 (.cons rfl .nil) .nil)
    · refine Tr.val (wg rfl rfl rfl) rfl (fun _ _ h1 h2 => run_move (h1.ev rfl)) ?_
      refine Tr.val (wg rfl rfl rfl) rfl (fun _ _ h1 h2 => run_move (h1.ev rfl)) ?_
      refine Tr.val (wg rfl rfl rfl) rfl (fun _ _ h1 h2 => run_leq (h1.ev rfl) (h1.ev rfl)) ?_
      refine Tr.val (wn rfl) rfl (fun _ _ h1 h2 => run_pickT (h1.ev rfl) (h1.ev rfl)) ?_
      exact Tr.nil (Tr.fin0 (.cons rfl .nil) .nil)
  · show Tr _ _ (LF [(14, (.bool ((decide (p1 ≤ p0)) && (decide (p0 ≤ p2)))))]) (LE []) _
    refine Tr.val (wn rfl) rfl (fun _ _ h1 h2 => run_assign (h1.ev rfl)) ?_
    refine Tr.nil (Tr.normThen ?_)
    refine Tr.ret ?_
    obtain rfl := Option.some.inj H
    exact Tr.out (m := [(.bool ((decide (p1 ≤ p0)) && (decide (p0 ≤ p2))))]) [] (res_tmp rfl res_nil) (fun W hW => ⟨rfl, hW.low leB⟩)

theorem F_etchhouseref3_IsName_ok (N : Nat) {w : Bs} (p0 : ByteArray) (r : Bool) (H : F_etchhouseref3_IsName N p0 = some r) (hE : HF w w.W E0) : Calls Try.prog 84 [(.string p0)].toArray w.W fun e W' => e = .returned (.bool r) ∧ HF w W' E0 := by
  unfold F_etchhouseref3_IsName at H
  have leB := Bs.Le.refl w
  refine Tr.enter (n := 55) Try.func84 rfl rfl rfl hE ?_
  refine Tr.seq ?_
  refine Tr.region ?_
  refine Tr.val (wn rfl) rfl (fun _ _ h1 h2 => run_assign (h1.ev rfl)) ?_
  refine Tr.nil (Tr.normThen ?_)
  refine Tr.seq ?_
  refine Tr.seq ?_
  refine Tr.region ?_
  refine Tr.val (wn rfl) rfl (fun _ _ h1 h2 => run_assign (h1.ev rfl)) ?_
  refine Tr.nil (Tr.normThen ?_)
  refine Tr.block ?_
  refine Tr.loop (σ := Int) (fun m w s => F_etchhouseref3_IsName_L1 p0 m s = some r) (fun s => [(0, (.string p0)), (3, (.int .i64 s))]) (fun s => []) N 0 H (.cons rfl (.cons rfl .nil)) .nil (fun _ _ h => noSome (h)) ?_
  intro w leF_etchhouseref3_IsName_L1 mF_etchhouseref3_IsName_L1 x105 hs
  have H := hs
  replace H : F_etchhouseref3_IsName_L1 p0 (mF_etchhouseref3_IsName_L1 + 1) x105 = some r := H
  replace leB := leB.trans leF_etchhouseref3_IsName_L1
  rw [F_etchhouseref3_IsName_L1.eq_2] at H
  show Tr _ _ (LF [(0, (.string p0)), (3, (.int .i64 x105))]) (LE []) _
  refine Tr.seq ?_
  refine Tr.seq ?_
  refine Tr.region ?_
  refine Tr.val (wn rfl) rfl (fun _ _ h1 h2 => run_move (h1.ev rfl)) ?_
  refine Tr.val (wn rfl) rfl (fun _ _ h1 h2 => run_move (h1.ev rfl)) ?_
  refine Tr.val (wn rfl) rfl (fun _ _ h1 h2 => run_lenS un_9 (h1.ev rfl)) ?_
  refine Tr.val (wn rfl) rfl (fun _ _ h1 h2 => run_lss (h1.ev rfl) (h1.ev rfl)) ?_
  refine Tr.nil (Tr.normThen ?_)
  refine Tr.cond rfl H (fun H => ?_) (fun H => ?_)
  · refine Tr.skip (Tr.normThen ?_)
    refine Tr.seq ?_
    refine Tr.block ?_
    refine Tr.seq ?_
    refine Tr.region ?_
    refine Tr.val (wn rfl) rfl (fun _ _ h1 h2 => run_move (h1.ev rfl)) ?_
    refine Tr.val (wn rfl) rfl (fun _ _ h1 h2 => run_move (h1.ev rfl)) ?_
    obtain ⟨c106, hc106, H⟩ := bnd H
    refine Tr.val (wn rfl) rfl (fun _ _ h1 h2 => run_indexS un_9 (h1.ev rfl) (h1.ev rfl) hc106) ?_
    refine Tr.val (wn rfl) rfl (fun _ _ h1 h2 => run_assign (h1.ev rfl)) ?_
    refine Tr.nil (Tr.normThen ?_)
    refine Tr.seq ?_
    refine Tr.region ?_
    refine Tr.val (wn rfl) rfl (fun _ _ h1 h2 => run_move (h1.ev rfl)) ?_
    refine Tr.val (wn rfl) rfl (fun _ _ h1 h2 => run_geq (h1.ev rfl) (h1.ev rfl)) ?_
    refine Tr.val (wn rfl) rfl (fun _ _ h1 h2 => run_move (h1.ev rfl)) ?_
    refine Tr.mid0 3 [(0, (.string p0)), (3, (.int .i64 x105)), (4, (.int .u8 c106)), (20, (.bool ((decide (97 ≤ c106)) && (decide (c106 ≤ 122)))))] [] ?_ ?_
    · cases hg106 : (decide (97 ≤ c106))
      · refine Tr.pass rfl rfl rfl rfl rfl (by decide) ?_
        refine Tr.pass rfl rfl rfl rfl rfl (by decide) ?_
        refine Tr.val (wn rfl) rfl (fun _ _ h1 h2 => run_pickF (h1.ev rfl) (h1.ev rfl)) ?_
        exact Tr.nil (Tr.fin0 (.cons rfl (.cons rfl (.cons rfl (.cons rfl .nil)))) .nil)
      · refine Tr.val (wg rfl rfl rfl) rfl (fun _ _ h1 h2 => run_move (h1.ev rfl)) ?_
        refine Tr.val (wg rfl rfl rfl) rfl (fun _ _ h1 h2 => run_leq (h1.ev rfl) (h1.ev rfl)) ?_
        refine Tr.val (wn rfl) rfl (fun _ _ h1 h2 => run_pickT (h1.ev rfl) (h1.ev rfl)) ?_
        exact Tr.nil (Tr.fin0 (.cons rfl (.cons rfl (.cons rfl (.cons rfl .nil)))) .nil)
    · show Tr _ _ (LF [(0, (.string p0)), (3, (.int .i64 x105)), (4, (.int .u8 c106)), (20, (.bool ((decide (97 ≤ c106)) && (decide (c106 ≤ 122)))))]) (LE []) _
      refine Tr.val (wn rfl) rfl (fun _ _ h1 h2 => run_move (h1.ev rfl)) ?_
      refine Tr.mid0 7 [(0, (.string p0)), (3, (.int .i64 x105)), (4, (.int .u8 c106)), (28, (.bool (((decide (97 ≤ c106)) && (decide (c106 ≤ 122))) || ((decide (65 ≤ c106)) && (decide (c106 ≤ 90))))))] [] ?_ ?_
      · cases hg106 : ((decide (97 ≤ c106)) && (decide (c106 ≤ 122)))
        · refine Tr.val (wg rfl rfl rfl) rfl (fun _ _ h1 h2 => run_move (h1.ev rfl)) ?_
          refine Tr.val (wg rfl rfl rfl) rfl (fun _ _ h1 h2 => run_geq (h1.ev rfl) (h1.ev rfl)) ?_
          refine Tr.val (wg rfl rfl rfl) rfl (fun _ _ h1 h2 => run_move (h1.ev rfl)) ?_
          refine Tr.mid0 3 [(0, (.string p0)), (3, (.int .i64 x105)), (4, (.int .u8 c106)), (21, (.bool false)), (27, (.bool ((decide (65 ≤ c106)) && (decide (c106 ≤ 90)))))] [] ?_ ?_
          · cases hg106 : (decide (65 ≤ c106))
            · refine Tr.pass rfl rfl rfl rfl rfl (by decide) ?_
              refine Tr.pass rfl rfl rfl rfl rfl (by decide) ?_
              refine Tr.val (wg rfl rfl rfl) rfl (fun _ _ h1 h2 => run_pickF (h1.ev rfl) (h1.ev rfl)) ?_
              exact Tr.nil (Tr.fin0 (.cons rfl (.cons rfl (.cons rfl (.cons rfl (.cons rfl .nil))))) .nil)
            · refine Tr.val (wg rfl rfl rfl) rfl (fun _ _ h1 h2 => run_move (h1.ev rfl)) ?_
              refine Tr.val (wg rfl rfl rfl) rfl (fun _ _ h1 h2 => run_leq (h1.ev rfl) (h1.ev rfl)) ?_
              refine Tr.val (wg rfl rfl rfl) rfl (fun _ _ h1 h2 => run_pickT (h1.ev rfl) (h1.ev rfl)) ?_
              exact Tr.nil (Tr.fin0 (.cons rfl (.cons rfl (.cons rfl (.cons rfl (.cons rfl .nil))))) .nil)
          · show Tr _ _ (LF [(0, (.string p0)), (3, (.int .i64 x105)), (4, (.int .u8 c106)), (21, (.bool false)), (27, (.bool ((decide (65 ≤ c106)) && (decide (c106 ≤ 90)))))]) (LE []) _
            refine Tr.val (wn rfl) rfl (fun _ _ h1 h2 => run_pickF (h1.ev rfl) (h1.ev rfl)) ?_
            exact Tr.nil (Tr.fin0 (.cons rfl (.cons rfl (.cons rfl (.cons rfl .nil)))) .nil)
        · refine Tr.pass rfl rfl rfl rfl rfl (by decide) ?_
          refine Tr.pass rfl rfl rfl rfl rfl (by decide) ?_
          refine Tr.pass rfl rfl rfl rfl rfl (by decide) ?_
          refine Tr.passU rfl rfl rfl rfl (by decide) ?_
          refine Tr.passU rfl rfl rfl rfl (by decide) ?_
          refine Tr.pass rfl rfl rfl rfl rfl (by decide) ?_
          refine Tr.val (wn rfl) rfl (fun _ _ h1 h2 => run_pickT (h1.ev rfl) (h1.ev rfl)) ?_
          exact Tr.nil (Tr.fin0 (.cons rfl (.cons rfl (.cons rfl (.cons rfl .nil)))) .nil)
      · show Tr _ _ (LF [(0, (.string p0)), (3, (.int .i64 x105)), (4, (.int .u8 c106)), (28, (.bool (((decide (97 ≤ c106)) && (decide (c106 ≤ 122))) || ((decide (65 ≤ c106)) && (decide (c106 ≤ 90))))))]) (LE []) _
        refine Tr.val (wn rfl) rfl (fun _ _ h1 h2 => run_assign (h1.ev rfl)) ?_
        refine Tr.nil (Tr.normThen ?_)
        refine Tr.seq ?_
        refine Tr.region ?_
        refine Tr.val (wn rfl) rfl (fun _ _ h1 h2 => run_move (h1.ev rfl)) ?_
        refine Tr.val (wn rfl) rfl (fun _ _ h1 h2 => run_not (h1.ev rfl)) ?_
        refine Tr.val (wn rfl) rfl (fun _ _ h1 h2 => run_move (h1.ev rfl)) ?_
        refine Tr.mid0 20 [(0, (.string p0)), (3, (.int .i64 x105)), (51, (.bool ((!(((decide (97 ≤ c106)) && (decide (c106 ≤ 122))) || ((decide (65 ≤ c106)) && (decide (c106 ≤ 90))))) && ((x105 == 0) || (((c106 != 95) && (c106 != 45)) && (!((decide (48 ≤ c106)) && (decide (c106 ≤ 57)))))))))] [] ?_ ?_
        · cases hg106 : (!(((decide (97 ≤ c106)) && (decide (c106 ≤ 122))) || ((decide (65 ≤ c106)) && (decide (c106 ≤ 90)))))
          · refine Tr.pass rfl rfl rfl rfl rfl (by decide) ?_
            refine Tr.pass rfl rfl rfl rfl rfl (by decide) ?_
            refine Tr.pass rfl rfl rfl rfl rfl (by decide) ?_
            refine Tr.passU rfl rfl rfl rfl (by decide) ?_
            refine Tr.passU rfl rfl rfl rfl (by decide) ?_
            refine Tr.passU rfl rfl rfl rfl (by decide) ?_
            refine Tr.passU rfl rfl rfl rfl (by decide) ?_
            refine Tr.passU rfl rfl rfl rfl (by decide) ?_
            refine Tr.passU rfl rfl rfl rfl (by decide) ?_
            refine Tr.passU rfl rfl rfl rfl (by decide) ?_
            refine Tr.passU rfl rfl rfl rfl (by decide) ?_
            refine Tr.passU rfl rfl rfl rfl (by decide) ?_
            refine Tr.passU rfl rfl rfl rfl (by decide) ?_
            refine Tr.passU rfl rfl rfl rfl (by decide) ?_
            refine Tr.passU rfl rfl rfl rfl (by decide) ?_
            refine Tr.passU rfl rfl rfl rfl (by decide) ?_
            refine Tr.passU rfl rfl rfl rfl (by decide) ?_
            refine Tr.passU rfl rfl rfl rfl (by decide) ?_
            refine Tr.pass rfl rfl rfl rfl rfl (by decide) ?_
            refine Tr.val (wn rfl) rfl (fun _ _ h1 h2 => run_pickF (h1.ev rfl) (h1.ev rfl)) ?_
            exact Tr.nil (Tr.fin0 (.cons rfl (.cons rfl (.cons rfl .nil))) .nil)
          · refine Tr.val (wg rfl rfl rfl) rfl (fun _ _ h1 h2 => run_move (h1.ev rfl)) ?_
            refine Tr.val (wg rfl rfl rfl) rfl (fun _ _ h1 h2 => run_eql (h1.ev rfl) (h1.ev rfl)) ?_
            refine Tr.val (wg rfl rfl rfl) rfl (fun _ _ h1 h2 => run_move (h1.ev rfl)) ?_
            refine Tr.mid0 16 [(0, (.string p0)), (3, (.int .i64 x105)), (31, (.bool true)), (50, (.bool ((x105 == 0) || (((c106 != 95) && (c106 != 45)) && (!((decide (48 ≤ c106)) && (decide (c106 ≤ 57))))))))] [] ?_ ?_
            · cases hg106 : (x105 == 0)
              · refine Tr.val (wg rfl rfl rfl) rfl (fun _ _ h1 h2 => run_move (h1.ev rfl)) ?_
                refine Tr.val (wg rfl rfl rfl) rfl (fun _ _ h1 h2 => run_neq (h1.ev rfl) (h1.ev rfl)) ?_
                refine Tr.val (wg rfl rfl rfl) rfl (fun _ _ h1 h2 => run_move (h1.ev rfl)) ?_
                refine Tr.mid0 3 [(0, (.string p0)), (3, (.int .i64 x105)), (4, (.int .u8 c106)), (31, (.bool true)), (34, (.bool false)), (40, (.bool ((c106 != 95) && (c106 != 45))))] [] ?_ ?_
                · cases hg106 : (c106 != 95)
                  · refine Tr.pass rfl rfl rfl rfl rfl (by decide) ?_
                    refine Tr.pass rfl rfl rfl rfl rfl (by decide) ?_
                    refine Tr.val (wg rfl rfl rfl) rfl (fun _ _ h1 h2 => run_pickF (h1.ev rfl) (h1.ev rfl)) ?_
                    exact Tr.nil (Tr.fin0 (.cons rfl (.cons rfl (.cons rfl (.cons rfl (.cons rfl (.cons rfl .nil)))))) .nil)
                  · refine Tr.val (wg rfl rfl rfl) rfl (fun _ _ h1 h2 => run_move (h1.ev rfl)) ?_
                    refine Tr.val (wg rfl rfl rfl) rfl (fun _ _ h1 h2 => run_neq (h1.ev rfl) (h1.ev rfl)) ?_
                    refine Tr.val (wg rfl rfl rfl) rfl (fun _ _ h1 h2 => run_pickT (h1.ev rfl) (h1.ev rfl)) ?_
                    exact Tr.nil (Tr.fin0 (.cons rfl (.cons rfl (.cons rfl (.cons rfl (.cons rfl (.cons rfl .nil)))))) .nil)
                · show Tr _ _ (LF [(0, (.string p0)), (3, (.int .i64 x105)), (4, (.int .u8 c106)), (31, (.bool true)), (34, (.bool false)), (40, (.bool ((c106 != 95) && (c106 != 45))))]) (LE []) _
                  refine Tr.val (wg rfl rfl rfl) rfl (fun _ _ h1 h2 => run_move (h1.ev rfl)) ?_
                  refine Tr.mid0 8 [(0, (.string p0)), (3, (.int .i64 x105)), (31, (.bool true)), (34, (.bool false)), (49, (.bool (((c106 != 95) && (c106 != 45)) && (!((decide (48 ≤ c106)) && (decide (c106 ≤ 57)))))))] [] ?_ ?_
                  · cases hg106 : ((c106 != 95) && (c106 != 45))
                    · refine Tr.pass rfl rfl rfl rfl rfl (by decide) ?_
                      refine Tr.pass rfl rfl rfl rfl rfl (by decide) ?_
                      refine Tr.pass rfl rfl rfl rfl rfl (by decide) ?_
                      refine Tr.passU rfl rfl rfl rfl (by decide) ?_
                      refine Tr.passU rfl rfl rfl rfl (by decide) ?_
                      refine Tr.pass rfl rfl rfl rfl rfl (by decide) ?_
                      refine Tr.pass rfl rfl rfl rfl rfl (by decide) ?_
                      refine Tr.val (wg rfl rfl rfl) rfl (fun _ _ h1 h2 => run_pickF (h1.ev rfl) (h1.ev rfl)) ?_
                      exact Tr.nil (Tr.fin0 (.cons rfl (.cons rfl (.cons rfl (.cons rfl (.cons rfl .nil))))) .nil)
                    · refine Tr.val (wg rfl rfl rfl) rfl (fun _ _ h1 h2 => run_move (h1.ev rfl)) ?_
                      refine Tr.val (wg rfl rfl rfl) rfl (fun _ _ h1 h2 => run_geq (h1.ev rfl) (h1.ev rfl)) ?_
                      refine Tr.val (wg rfl rfl rfl) rfl (fun _ _ h1 h2 => run_move (h1.ev rfl)) ?_
                      refine Tr.mid0 3 [(0, (.string p0)), (3, (.int .i64 x105)), (31, (.bool true)), (34, (.bool false)), (41, (.bool true)), (47, (.bool ((decide (48 ≤ c106)) && (decide (c106 ≤ 57)))))] [] ?_ ?_
                      · cases hg106 : (decide (48 ≤ c106))
                        · refine Tr.pass rfl rfl rfl rfl rfl (by decide) ?_
                          refine Tr.pass rfl rfl rfl rfl rfl (by decide) ?_
                          refine Tr.val (wg rfl rfl rfl) rfl (fun _ _ h1 h2 => run_pickF (h1.ev rfl) (h1.ev rfl)) ?_
                          exact Tr.nil (Tr.fin0 (.cons rfl (.cons rfl (.cons rfl (.cons rfl (.cons rfl (.cons rfl .nil)))))) .nil)
                        · refine Tr.val (wg rfl rfl rfl) rfl (fun _ _ h1 h2 => run_move (h1.ev rfl)) ?_
                          refine Tr.val (wg rfl rfl rfl) rfl (fun _ _ h1 h2 => run_leq (h1.ev rfl) (h1.ev rfl)) ?_
                          refine Tr.val (wg rfl rfl rfl) rfl (fun _ _ h1 h2 => run_pickT (h1.ev rfl) (h1.ev rfl)) ?_
                          exact Tr.nil (Tr.fin0 (.cons rfl (.cons rfl (.cons rfl (.cons rfl (.cons rfl (.cons rfl .nil)))))) .nil)
                      · show Tr _ _ (LF [(0, (.string p0)), (3, (.int .i64 x105)), (31, (.bool true)), (34, (.bool false)), (41, (.bool true)), (47, (.bool ((decide (48 ≤ c106)) && (decide (c106 ≤ 57)))))]) (LE []) _
                        refine Tr.val (wg rfl rfl rfl) rfl (fun _ _ h1 h2 => run_not (h1.ev rfl)) ?_
                        refine Tr.val (wg rfl rfl rfl) rfl (fun _ _ h1 h2 => run_pickT (h1.ev rfl) (h1.ev rfl)) ?_
                        exact Tr.nil (Tr.fin0 (.cons rfl (.cons rfl (.cons rfl (.cons rfl (.cons rfl .nil))))) .nil)
                  · show Tr _ _ (LF [(0, (.string p0)), (3, (.int .i64 x105)), (31, (.bool true)), (34, (.bool false)), (49, (.bool (((c106 != 95) && (c106 != 45)) && (!((decide (48 ≤ c106)) && (decide (c106 ≤ 57)))))))]) (LE []) _
                    refine Tr.val (wg rfl rfl rfl) rfl (fun _ _ h1 h2 => run_pickF (h1.ev rfl) (h1.ev rfl)) ?_
                    exact Tr.nil (Tr.fin0 (.cons rfl (.cons rfl (.cons rfl (.cons rfl .nil)))) .nil)
              · refine Tr.pass rfl rfl rfl rfl rfl (by decide) ?_
                refine Tr.pass rfl rfl rfl rfl rfl (by decide) ?_
                refine Tr.pass rfl rfl rfl rfl rfl (by decide) ?_
                refine Tr.passU rfl rfl rfl rfl (by decide) ?_
                refine Tr.passU rfl rfl rfl rfl (by decide) ?_
                refine Tr.pass rfl rfl rfl rfl rfl (by decide) ?_
                refine Tr.pass rfl rfl rfl rfl rfl (by decide) ?_
                refine Tr.passU rfl rfl rfl rfl (by decide) ?_
                refine Tr.passU rfl rfl rfl rfl (by decide) ?_
                refine Tr.passU rfl rfl rfl rfl (by decide) ?_
                refine Tr.passU rfl rfl rfl rfl (by decide) ?_
                refine Tr.passU rfl rfl rfl rfl (by decide) ?_
                refine Tr.passU rfl rfl rfl rfl (by decide) ?_
                refine Tr.passU rfl rfl rfl rfl (by decide) ?_
                refine Tr.pass rfl rfl rfl rfl rfl (by decide) ?_
                refine Tr.val (wg rfl rfl rfl) rfl (fun _ _ h1 h2 => run_pickT (h1.ev rfl) (h1.ev rfl)) ?_
                exact Tr.nil (Tr.fin0 (.cons rfl (.cons rfl (.cons rfl (.cons rfl .nil)))) .nil)
            · show Tr _ _ (LF [(0, (.string p0)), (3, (.int .i64 x105)), (31, (.bool true)), (50, (.bool ((x105 == 0) || (((c106 != 95) && (c106 != 45)) && (!((decide (48 ≤ c106)) && (decide (c106 ≤ 57))))))))]) (LE []) _
              refine Tr.val (wn rfl) rfl (fun _ _ h1 h2 => run_pickT (h1.ev rfl) (h1.ev rfl)) ?_
              exact Tr.nil (Tr.fin0 (.cons rfl (.cons rfl (.cons rfl .nil))) .nil)
        · show Tr _ _ (LF [(0, (.string p0)), (3, (.int .i64 x105)), (51, (.bool ((!(((decide (97 ≤ c106)) && (decide (c106 ≤ 122))) || ((decide (65 ≤ c106)) && (decide (c106 ≤ 90))))) && ((x105 == 0) || (((c106 != 95) && (c106 != 45)) && (!((decide (48 ≤ c106)) && (decide (c106 ≤ 57)))))))))]) (LE []) _
          refine Tr.nil (Tr.normThen ?_)
          refine Tr.cond rfl H (fun H => ?_) (fun H => ?_)
          · refine Tr.seq ?_
            refine Tr.region ?_
            refine Tr.val (wn rfl) rfl (fun _ _ h1 h2 => run_assign (h1.ev rfl)) ?_
            refine Tr.nil (Tr.normThen ?_)
            refine Tr.ret (Tr.retBlock (Tr.retThen (Tr.retThen (Tr.retBlock (Tr.retThen ?_)))))
            obtain rfl := Option.some.inj H
            exact Tr.out (m := [(.bool false)]) [] (res_tmp rfl res_nil) (fun W hW => ⟨rfl, hW.low leB⟩)
          · refine Tr.skip (Tr.normBlock (Tr.normThen ?_))
            refine Tr.region ?_
            refine Tr.val (wn rfl) rfl (fun _ _ h1 h2 => run_move (h1.ev rfl)) ?_
            refine Tr.val (wn rfl) rfl (fun _ _ h1 h2 => run_add (h1.ev rfl) (h1.ev rfl)) ?_
            refine Tr.val (wn rfl) rfl (fun _ _ h1 h2 => run_assign (h1.ev rfl)) ?_
            refine Tr.nil ?_
            exact Tr.backThen leF_etchhouseref3_IsName_L1 (w64 (x105 + 1)) H (.cons rfl (.cons rfl .nil)) .nil
  · refine Tr.exit (Tr.exitThen (Tr.exitThen (Tr.exitBlock (Tr.normThen ?_))))
    refine Tr.seq ?_
    refine Tr.region ?_
    refine Tr.val (wn rfl) rfl (fun _ _ h1 h2 => run_move (h1.ev rfl)) ?_
    refine Tr.val (wn rfl) rfl (fun _ _ h1 h2 => run_lenS un_9 (h1.ev rfl)) ?_
    obtain ⟨y107, hy107, H⟩ := bnd H
    refine Tr.call0 (r := (.bool y107)) (wn rfl) rfl Try.call112 (evl_cons rfl (evl_cons rfl (evl_cons rfl evl_nil))) (fun W hW => F_etchhouseref3_within_ok (p0.size : Int) 1 40 y107 hy107 (HF.start _)) ?_
    refine Tr.val (wn rfl) rfl (fun _ _ h1 h2 => run_assign (h1.ev rfl)) ?_
    refine Tr.nil (Tr.normThen ?_)
    refine Tr.ret ?_
    obtain rfl := Option.some.inj H
    exact Tr.out (m := [(.bool y107)]) [] (res_tmp rfl res_nil) (fun W hW => ⟨rfl, hW.low leB⟩)

theorem F_etchhouseref9_kind_ok (N : Nat) {w : Bs} (p0 : TPanel) (Ap0_0 : Option Addr) (cp0_0 : Nat) (hp0_0 : Sl w.R w.W fl_TBoardKind Ap0_0 cp0_0 p0.Kinds) (Ap0_1 : Option Addr) (cp0_1 : Nat) (hp0_1 : Sl w.R w.W fl_TSlot Ap0_1 cp0_1 p0.Slots) (Ap0_2 : Option Addr) (cp0_2 : Nat) (hp0_2 : Sl w.R w.W fl_TPoint Ap0_2 cp0_2 p0.Marks) (p1 : ByteArray) (r : Int) (H : F_etchhouseref9_kind N p0 p1 = some r) (hE : HF w w.W E0) : Calls Try.prog 55 [(.agg #[(.int .i64 p0.W), (.int .i64 p0.H), (.int .i64 p0.Rail), (.int .i64 p0.Gap), (.slice Ap0_0 (p0.Kinds).length cp0_0), (.slice Ap0_1 (p0.Slots).length cp0_1), (.slice Ap0_2 (p0.Marks).length cp0_2)]), (.string p1)].toArray w.W fun e W' => e = .returned (.int .i64 r) ∧ HF w W' E0 := by
  unfold F_etchhouseref9_kind at H
  have leB := Bs.Le.refl w
  refine Tr.enter (n := 22) Try.func55 rfl rfl rfl hE ?_
  refine Tr.seq ?_
  refine Tr.region ?_
  refine Tr.box 1 (cs := [(.int .i64 p0.W), (.int .i64 p0.H), (.int .i64 p0.Rail), (.int .i64 p0.Gap), (.slice Ap0_0 (p0.Kinds).length cp0_0), (.slice Ap0_1 (p0.Slots).length cp0_1), (.slice Ap0_2 (p0.Marks).length cp0_2)]) (wn rfl) rfl rfl rfl fun b100 => ?_
  refine Tr.val (wn rfl) rfl (fun _ _ h1 h2 => run_assign (h1.ev rfl)) ?_
  refine Tr.nil (Tr.normThen ?_)
  refine Tr.seq ?_
  refine Tr.seq ?_
  refine Tr.region ?_
  refine Tr.val (wn rfl) rfl (fun _ _ h1 h2 => run_assign (h1.ev rfl)) ?_
  refine Tr.nil (Tr.normThen ?_)
  refine Tr.block ?_
  refine Tr.loop (σ := Int) (fun m w s => F_etchhouseref9_kind_L1 p0 p1 m s = some r) (fun s => [(1, (.string p1)), (2, (.pointer (some ⟨b100, 0, none⟩))), (5, (.int .i64 s))]) (fun s => [(1, bx b100 #[(.int .i64 p0.W), (.int .i64 p0.H), (.int .i64 p0.Rail), (.int .i64 p0.Gap), (.slice Ap0_0 (p0.Kinds).length cp0_0), (.slice Ap0_1 (p0.Slots).length cp0_1), (.slice Ap0_2 (p0.Marks).length cp0_2)] 26)]) N 0 H (.cons rfl (.cons rfl (.cons rfl .nil))) (.cons rfl .nil) (fun _ _ h => noSome (h)) ?_
  intro w leF_etchhouseref9_kind_L1 mF_etchhouseref9_kind_L1 x106 hs
  have H := hs
  replace H : F_etchhouseref9_kind_L1 p0 p1 (mF_etchhouseref9_kind_L1 + 1) x106 = some r := H
  replace hp0_0 := hp0_0.leR leF_etchhouseref9_kind_L1
  replace hp0_1 := hp0_1.leR leF_etchhouseref9_kind_L1
  replace hp0_2 := hp0_2.leR leF_etchhouseref9_kind_L1
  replace leB := leB.trans leF_etchhouseref9_kind_L1
  rw [F_etchhouseref9_kind_L1.eq_2] at H
  show Tr _ _ (LF [(1, (.string p1)), (2, (.pointer (some ⟨b100, 0, none⟩))), (5, (.int .i64 x106))]) (LE [(1, bx b100 #[(.int .i64 p0.W), (.int .i64 p0.H), (.int .i64 p0.Rail), (.int .i64 p0.Gap), (.slice Ap0_0 (p0.Kinds).length cp0_0), (.slice Ap0_1 (p0.Slots).length cp0_1), (.slice Ap0_2 (p0.Marks).length cp0_2)] 26)]) _
  refine Tr.seq ?_
  refine Tr.seq ?_
  refine Tr.region ?_
  refine Tr.val (wn rfl) rfl (fun _ _ h1 h2 => run_move (h1.ev rfl)) ?_
  refine Tr.val (wn rfl) rfl (fun _ _ h1 h2 => run_fieldAddr fo_26_4 (h1.ev rfl)) ?_
  refine Tr.val (wn rfl) rfl (fun _ _ h1 h2 => run_load1 ag_22 (h1.ev rfl) (rdb h2 (vs := [(.int .i64 p0.W), (.int .i64 p0.H), (.int .i64 p0.Rail), (.int .i64 p0.Gap), (.slice Ap0_0 (p0.Kinds).length cp0_0), (.slice Ap0_1 (p0.Slots).length cp0_1), (.slice Ap0_2 (p0.Marks).length cp0_2)]) (k := 1) rfl 4) rfl) ?_
  refine Tr.val (wn rfl) rfl (fun _ _ h1 h2 => run_len un_22 (h1.ev rfl)) ?_
  refine Tr.val (wn rfl) rfl (fun _ _ h1 h2 => run_lss (h1.ev rfl) (h1.ev rfl)) ?_
  refine Tr.nil (Tr.normThen ?_)
  refine Tr.cond rfl H (fun H => ?_) (fun H => ?_)
  · refine Tr.skip (Tr.normThen ?_)
    refine Tr.seq ?_
    refine Tr.block ?_
    refine Tr.seq ?_
    refine Tr.region ?_
    refine Tr.val (wn rfl) rfl (fun _ _ h1 h2 => run_fieldAddr fo_26_4 (h1.ev rfl)) ?_
    refine Tr.val (wn rfl) rfl (fun _ _ h1 h2 => run_load1 ag_22 (h1.ev rfl) (rdb h2 (vs := [(.int .i64 p0.W), (.int .i64 p0.H), (.int .i64 p0.Rail), (.int .i64 p0.Gap), (.slice Ap0_0 (p0.Kinds).length cp0_0), (.slice Ap0_1 (p0.Slots).length cp0_1), (.slice Ap0_2 (p0.Marks).length cp0_2)]) (k := 1) rfl 4) rfl) ?_
    refine Tr.val (wn rfl) rfl (fun _ _ h1 h2 => run_move (h1.ev rfl)) ?_
    obtain ⟨x107, hx107, H⟩ := bnd H
    obtain ⟨hx1070, hx1071, hx1072⟩ := idx_some hx107
    refine Tr.val (wn rfl) rfl (fun _ _ h1 h2 => run_indexAddr el_22 (h1.ev rfl) hp0_0.form (h1.ev rfl) hx1070 hx1071) ?_
    refine Tr.val (wn rfl) rfl (fun _ _ h1 h2 => run_fieldAddr fo_82_0 (h1.ev rfl)) ?_
    refine Tr.val (wn rfl) rfl (fun _ _ h1 h2 => run_load1 ag_9 (h1.ev rfl) (CellsAt.drop (rdF ef_TBoardKind hp0_0 hx1072 h2) 0) rfl) ?_
    refine Tr.val (wn rfl) rfl (fun _ _ h1 h2 => run_move (h1.ev rfl)) ?_
    refine Tr.val (wn rfl) rfl (fun _ _ h1 h2 => run_eqlS (h1.ev rfl) (h1.ev rfl)) ?_
    refine Tr.nil (Tr.normThen ?_)
    refine Tr.cond rfl H (fun H => ?_) (fun H => ?_)
    · refine Tr.seq ?_
      refine Tr.region ?_
      refine Tr.val (wn rfl) rfl (fun _ _ h1 h2 => run_move (h1.ev rfl)) ?_
      refine Tr.val (wn rfl) rfl (fun _ _ h1 h2 => run_assign (h1.ev rfl)) ?_
      refine Tr.nil (Tr.normThen ?_)
      refine Tr.ret (Tr.retBlock (Tr.retThen (Tr.retThen (Tr.retBlock (Tr.retThen ?_)))))
      obtain rfl := Option.some.inj H
      exact Tr.out (m := [(.int .i64 x106)]) [] (res_tmp rfl res_nil) (fun W hW => ⟨rfl, hW.low leB⟩)
    · refine Tr.skip (Tr.normBlock (Tr.normThen ?_))
      refine Tr.region ?_
      refine Tr.val (wn rfl) rfl (fun _ _ h1 h2 => run_move (h1.ev rfl)) ?_
      refine Tr.val (wn rfl) rfl (fun _ _ h1 h2 => run_add (h1.ev rfl) (h1.ev rfl)) ?_
      refine Tr.val (wn rfl) rfl (fun _ _ h1 h2 => run_assign (h1.ev rfl)) ?_
      refine Tr.nil ?_
      exact Tr.backThen leF_etchhouseref9_kind_L1 (w64 (x106 + 1)) H (.cons rfl (.cons rfl (.cons rfl .nil))) (.cons rfl .nil)
  · refine Tr.exit (Tr.exitThen (Tr.exitThen (Tr.exitBlock (Tr.normThen ?_))))
    refine Tr.seq ?_
    refine Tr.region ?_
    refine Tr.val (wn rfl) rfl (fun _ _ h1 h2 => run_assign (h1.ev rfl)) ?_
    refine Tr.nil (Tr.normThen ?_)
    refine Tr.ret ?_
    obtain rfl := Option.some.inj H
    exact Tr.out (m := [(.int .i64 (-1))]) [] (res_tmp rfl res_nil) (fun W hW => ⟨rfl, hW.low leB⟩)

theorem F_etchhouseref9_sizeOf_ok {w : Bs} (p0 : TBoardKind) (p1 : Int) (r : (Int × Int)) (H : F_etchhouseref9_sizeOf p0 p1 = some r) (hE : HF w w.W E0) : Calls Try.prog 62 [(.agg #[(.string p0.Name), (.int .i64 p0.W), (.int .i64 p0.H)]), (.int .i64 p1)].toArray w.W fun e W' => e = .returned (.tuple #[(.int .i64 r.1), (.int .i64 r.2)]) ∧ HF w W' E0 := by
  unfold F_etchhouseref9_sizeOf at H
  have leB := Bs.Le.refl w
  refine Tr.enter (n := 17) Try.func62 rfl rfl rfl hE ?_
  refine Tr.seq ?_
  refine Tr.region ?_
  refine Tr.box 1 (cs := [(.string p0.Name), (.int .i64 p0.W), (.int .i64 p0.H)]) (wn rfl) rfl rfl rfl fun b100 => ?_
  refine Tr.val (wn rfl) rfl (fun _ _ h1 h2 => run_assign (h1.ev rfl)) ?_
  refine Tr.val (wn rfl) rfl (fun _ _ h1 h2 => run_assign (h1.ev rfl)) ?_
  refine Tr.nil (Tr.normThen ?_)
  refine Tr.seq ?_
  refine Tr.seq ?_
  refine Tr.region ?_
  refine Tr.val (wn rfl) rfl (fun _ _ h1 h2 => run_move (h1.ev rfl)) ?_
  refine Tr.val (wn rfl) rfl (fun _ _ h1 h2 => run_rem (h1.ev rfl) (h1.ev rfl) (by decide)) ?_
  refine Tr.val (wn rfl) rfl (fun _ _ h1 h2 => run_eql (h1.ev rfl) (h1.ev rfl)) ?_
  refine Tr.nil (Tr.normThen ?_)
  refine Tr.cond rfl H (fun H => ?_) (fun H => ?_)
  · refine Tr.seq ?_
    refine Tr.draw (by kernel_rfl) (by kernel_rfl) ?_
    refine Tq.val (wn rfl) rfl (fun _ _ h1 h2 => run_fieldAddr fo_82_2 (h1.ev rfl)) ?_
    refine Tq.val (wn rfl) rfl (fun _ _ h1 h2 => run_load1 ag_3 (h1.ev rfl) (rdb h2 (vs := [(.string p0.Name), (.int .i64 p0.W), (.int .i64 p0.H)]) (k := 1) rfl 2) rfl) ?_
    refine Tq.val (wn rfl) rfl (fun _ _ h1 h2 => run_fieldAddr fo_82_1 (h1.ev rfl)) ?_
    refine Tq.val (wn rfl) rfl (fun _ _ h1 h2 => run_load1 ag_3 (h1.ev rfl) (rdb h2 (vs := [(.string p0.Name), (.int .i64 p0.W), (.int .i64 p0.H)]) (k := 1) rfl 1) rfl) ?_
    refine Tq.val (wn rfl) rfl (fun _ _ h1 h2 => run_assign (h1.ev rfl)) ?_
    refine Tq.val (wn rfl) rfl (fun _ _ h1 h2 => run_assign (h1.ev rfl)) ?_
    refine Tq.nil (Tr.normThen ?_)
    refine Tr.ret (Tr.retThen ?_)
    obtain rfl := Option.some.inj H
    exact Tr.out (m := [(.int .i64 p0.H), (.int .i64 p0.W)]) [] (res_tmp rfl (res_tmp rfl res_nil)) (fun W hW => ⟨rfl, hW.low leB⟩)
  · refine Tr.skip (Tr.normThen ?_)
    refine Tr.seq ?_
    refine Tr.draw (by kernel_rfl) (by kernel_rfl) ?_
    refine Tq.val (wn rfl) rfl (fun _ _ h1 h2 => run_fieldAddr fo_82_1 (h1.ev rfl)) ?_
    refine Tq.val (wn rfl) rfl (fun _ _ h1 h2 => run_load1 ag_3 (h1.ev rfl) (rdb h2 (vs := [(.string p0.Name), (.int .i64 p0.W), (.int .i64 p0.H)]) (k := 1) rfl 1) rfl) ?_
    refine Tq.val (wn rfl) rfl (fun _ _ h1 h2 => run_fieldAddr fo_82_2 (h1.ev rfl)) ?_
    refine Tq.val (wn rfl) rfl (fun _ _ h1 h2 => run_load1 ag_3 (h1.ev rfl) (rdb h2 (vs := [(.string p0.Name), (.int .i64 p0.W), (.int .i64 p0.H)]) (k := 1) rfl 2) rfl) ?_
    refine Tq.val (wn rfl) rfl (fun _ _ h1 h2 => run_assign (h1.ev rfl)) ?_
    refine Tq.val (wn rfl) rfl (fun _ _ h1 h2 => run_assign (h1.ev rfl)) ?_
    refine Tq.nil (Tr.normThen ?_)
    refine Tr.ret ?_
    obtain rfl := Option.some.inj H
    exact Tr.out (m := [(.int .i64 p0.W), (.int .i64 p0.H)]) [] (res_tmp rfl (res_tmp rfl res_nil)) (fun W hW => ⟨rfl, hW.low leB⟩)

theorem F_etchhouseref9_lies_ok {w : Bs} (p0 : TPanel) (Ap0_0 : Option Addr) (cp0_0 : Nat) (hp0_0 : Sl w.R w.W fl_TBoardKind Ap0_0 cp0_0 p0.Kinds) (Ap0_1 : Option Addr) (cp0_1 : Nat) (hp0_1 : Sl w.R w.W fl_TSlot Ap0_1 cp0_1 p0.Slots) (Ap0_2 : Option Addr) (cp0_2 : Nat) (hp0_2 : Sl w.R w.W fl_TPoint Ap0_2 cp0_2 p0.Marks) (p1 : TPoint) (p2 : Int) (p3 : Int) (r : Bool) (H : F_etchhouseref9_lies p0 p1 p2 p3 = some r) (hE : HF w w.W E0) : Calls Try.prog 108 [(.agg #[(.int .i64 p0.W), (.int .i64 p0.H), (.int .i64 p0.Rail), (.int .i64 p0.Gap), (.slice Ap0_0 (p0.Kinds).length cp0_0), (.slice Ap0_1 (p0.Slots).length cp0_1), (.slice Ap0_2 (p0.Marks).length cp0_2)]), (.agg #[(.int .i64 p1.X), (.int .i64 p1.Y)]), (.int .i64 p2), (.int .i64 p3)].toArray w.W fun e W' => e = .returned (.bool r) ∧ HF w W' E0 := by
  unfold F_etchhouseref9_lies at H
  have leB := Bs.Le.refl w
  refine Tr.enter (n := 35) Try.func108 rfl rfl rfl hE ?_
  refine Tr.seq ?_
  refine Tr.region ?_
  refine Tr.box 1 (cs := [(.int .i64 p0.W), (.int .i64 p0.H), (.int .i64 p0.Rail), (.int .i64 p0.Gap), (.slice Ap0_0 (p0.Kinds).length cp0_0), (.slice Ap0_1 (p0.Slots).length cp0_1), (.slice Ap0_2 (p0.Marks).length cp0_2)]) (wn rfl) rfl rfl rfl fun b100 => ?_
  refine Tr.box 2 (cs := [(.int .i64 p1.X), (.int .i64 p1.Y)]) (wn rfl) rfl rfl rfl fun b101 => ?_
  refine Tr.val (wn rfl) rfl (fun _ _ h1 h2 => run_assign (h1.ev rfl)) ?_
  refine Tr.nil (Tr.normThen ?_)
  refine Tr.seq ?_
  refine Tr.region ?_
  refine Tr.val (wn rfl) rfl (fun _ _ h1 h2 => run_fieldAddr fo_32_0 (h1.ev rfl)) ?_
  refine Tr.val (wn rfl) rfl (fun _ _ h1 h2 => run_load1 ag_3 (h1.ev rfl) (rdb h2 (vs := [(.int .i64 p1.X), (.int .i64 p1.Y)]) (k := 2) rfl 0) rfl) ?_
  refine Tr.val (wn rfl) rfl (fun _ _ h1 h2 => run_fieldAddr fo_26_2 (h1.ev rfl)) ?_
  refine Tr.val (wn rfl) rfl (fun _ _ h1 h2 => run_load1 ag_3 (h1.ev rfl) (rdb h2 (vs := [(.int .i64 p0.W), (.int .i64 p0.H), (.int .i64 p0.Rail), (.int .i64 p0.Gap), (.slice Ap0_0 (p0.Kinds).length cp0_0), (.slice Ap0_1 (p0.Slots).length cp0_1), (.slice Ap0_2 (p0.Marks).length cp0_2)]) (k := 1) rfl 2) rfl) ?_
  refine Tr.val (wn rfl) rfl (fun _ _ h1 h2 => run_fieldAddr fo_26_0 (h1.ev rfl)) ?_
  refine Tr.val (wn rfl) rfl (fun _ _ h1 h2 => run_load1 ag_3 (h1.ev rfl) (rdb h2 (vs := [(.int .i64 p0.W), (.int .i64 p0.H), (.int .i64 p0.Rail), (.int .i64 p0.Gap), (.slice Ap0_0 (p0.Kinds).length cp0_0), (.slice Ap0_1 (p0.Slots).length cp0_1), (.slice Ap0_2 (p0.Marks).length cp0_2)]) (k := 1) rfl 0) rfl) ?_
  refine Tr.val (wn rfl) rfl (fun _ _ h1 h2 => run_fieldAddr fo_26_2 (h1.ev rfl)) ?_
  refine Tr.val (wn rfl) rfl (fun _ _ h1 h2 => run_load1 ag_3 (h1.ev rfl) (rdb h2 (vs := [(.int .i64 p0.W), (.int .i64 p0.H), (.int .i64 p0.Rail), (.int .i64 p0.Gap), (.slice Ap0_0 (p0.Kinds).length cp0_0), (.slice Ap0_1 (p0.Slots).length cp0_1), (.slice Ap0_2 (p0.Marks).length cp0_2)]) (k := 1) rfl 2) rfl) ?_
  refine Tr.val (wn rfl) rfl (fun _ _ h1 h2 => run_sub (h1.ev rfl) (h1.ev rfl)) ?_
  refine Tr.val (wn rfl) rfl (fun _ _ h1 h2 => run_move (h1.ev rfl)) ?_
  refine Tr.val (wn rfl) rfl (fun _ _ h1 h2 => run_sub (h1.ev rfl) (h1.ev rfl)) ?_
  obtain ⟨y102, hy102, H⟩ := bnd H
  refine Tr.call0 (r := (.bool y102)) (wn rfl) rfl Try.call49 (evl_cons rfl (evl_cons rfl (evl_cons rfl evl_nil))) (fun W hW => F_etchhouseref9_within_ok p1.X p0.Rail (w64 ((w64 (p0.W - p0.Rail)) - p2)) y102 hy102 (HF.start _)) ?_
  refine Tr.val (wn rfl) rfl (fun _ _ h1 h2 => run_move (h1.ev rfl)) ?_
  obtain ⟨g104, hg104, H⟩ := bnd H
  refine Tr.mid0 13 [(34, (.bool g104))] [(1, bx b100 #[(.int .i64 p0.W), (.int .i64 p0.H), (.int .i64 p0.Rail), (.int .i64 p0.Gap), (.slice Ap0_0 (p0.Kinds).length cp0_0), (.slice Ap0_1 (p0.Slots).length cp0_1), (.slice Ap0_2 (p0.Marks).length cp0_2)] 26), (2, bx b101 #[(.int .i64 p1.X), (.int .i64 p1.Y)] 32)] ?_ ?_
  · cases hg105 : y102
    · rw [hg105] at hg104
      rw [if_neg (by decide)] at hg104
      have H := hg104
      obtain rfl := Option.some.inj H
      refine Tr.pass rfl rfl rfl rfl rfl (by decide) ?_
      refine Tr.pass rfl rfl rfl rfl rfl (by decide) ?_
      refine Tr.pass rfl rfl rfl rfl rfl (by decide) ?_
      refine Tr.pass rfl rfl rfl rfl rfl (by decide) ?_
      refine Tr.pass rfl rfl rfl rfl rfl (by decide) ?_
      refine Tr.pass rfl rfl rfl rfl rfl (by decide) ?_
      refine Tr.pass rfl rfl rfl rfl rfl (by decide) ?_
      refine Tr.pass rfl rfl rfl rfl rfl (by decide) ?_
      refine Tr.pass rfl rfl rfl rfl rfl (by decide) ?_
      refine Tr.pass rfl rfl rfl rfl rfl (by decide) ?_
      refine Tr.pass rfl rfl rfl rfl rfl (by decide) ?_
      refine Tr.pass rfl rfl rfl rfl rfl (by decide) ?_
      refine Tr.val (wn rfl) rfl (fun _ _ h1 h2 => run_pickF (h1.ev rfl) (h1.ev rfl)) ?_
      exact Tr.nil (Tr.fin0 (.cons rfl .nil) (.cons rfl (.cons rfl .nil)))
    · rw [hg105] at hg104
      rw [if_pos rfl] at hg104
      have H := hg104
      refine Tr.val (wg rfl rfl rfl) rfl (fun _ _ h1 h2 => run_fieldAddr fo_32_1 (h1.ev rfl)) ?_
      refine Tr.val (wg rfl rfl rfl) rfl (fun _ _ h1 h2 => run_load1 ag_3 (h1.ev rfl) (rdb h2 (vs := [(.int .i64 p1.X), (.int .i64 p1.Y)]) (k := 2) rfl 1) rfl) ?_
      refine Tr.val (wg rfl rfl rfl) rfl (fun _ _ h1 h2 => run_fieldAddr fo_26_2 (h1.ev rfl)) ?_
      refine Tr.val (wg rfl rfl rfl) rfl (fun _ _ h1 h2 => run_load1 ag_3 (h1.ev rfl) (rdb h2 (vs := [(.int .i64 p0.W), (.int .i64 p0.H), (.int .i64 p0.Rail), (.int .i64 p0.Gap), (.slice Ap0_0 (p0.Kinds).length cp0_0), (.slice Ap0_1 (p0.Slots).length cp0_1), (.slice Ap0_2 (p0.Marks).length cp0_2)]) (k := 1) rfl 2) rfl) ?_
      refine Tr.val (wg rfl rfl rfl) rfl (fun _ _ h1 h2 => run_fieldAddr fo_26_1 (h1.ev rfl)) ?_
      refine Tr.val (wg rfl rfl rfl) rfl (fun _ _ h1 h2 => run_load1 ag_3 (h1.ev rfl) (rdb h2 (vs := [(.int .i64 p0.W), (.int .i64 p0.H), (.int .i64 p0.Rail), (.int .i64 p0.Gap), (.slice Ap0_0 (p0.Kinds).length cp0_0), (.slice Ap0_1 (p0.Slots).length cp0_1), (.slice Ap0_2 (p0.Marks).length cp0_2)]) (k := 1) rfl 1) rfl) ?_
      refine Tr.val (wg rfl rfl rfl) rfl (fun _ _ h1 h2 => run_fieldAddr fo_26_2 (h1.ev rfl)) ?_
      refine Tr.val (wg rfl rfl rfl) rfl (fun _ _ h1 h2 => run_load1 ag_3 (h1.ev rfl) (rdb h2 (vs := [(.int .i64 p0.W), (.int .i64 p0.H), (.int .i64 p0.Rail), (.int .i64 p0.Gap), (.slice Ap0_0 (p0.Kinds).length cp0_0), (.slice Ap0_1 (p0.Slots).length cp0_1), (.slice Ap0_2 (p0.Marks).length cp0_2)]) (k := 1) rfl 2) rfl) ?_
      refine Tr.val (wg rfl rfl rfl) rfl (fun _ _ h1 h2 => run_sub (h1.ev rfl) (h1.ev rfl)) ?_
      refine Tr.val (wg rfl rfl rfl) rfl (fun _ _ h1 h2 => run_move (h1.ev rfl)) ?_
      refine Tr.val (wg rfl rfl rfl) rfl (fun _ _ h1 h2 => run_sub (h1.ev rfl) (h1.ev rfl)) ?_
      obtain ⟨y105, hy105, H⟩ := bnd H
      refine Tr.call0 (r := (.bool y105)) (wg rfl rfl rfl) rfl Try.call49 (evl_cons rfl (evl_cons rfl (evl_cons rfl evl_nil))) (fun W hW => F_etchhouseref9_within_ok p1.Y p0.Rail (w64 ((w64 (p0.H - p0.Rail)) - p3)) y105 hy105 (HF.start _)) ?_
      refine Tr.val (wn rfl) rfl (fun _ _ h1 h2 => run_pickT (h1.ev rfl) (h1.ev rfl)) ?_
      obtain rfl := Option.some.inj H
      exact Tr.nil (Tr.fin0 (.cons rfl .nil) (.cons rfl (.cons rfl .nil)))
  · show Tr _ _ (LF [(34, (.bool g104))]) (LE [(1, bx b100 #[(.int .i64 p0.W), (.int .i64 p0.H), (.int .i64 p0.Rail), (.int .i64 p0.Gap), (.slice Ap0_0 (p0.Kinds).length cp0_0), (.slice Ap0_1 (p0.Slots).length cp0_1), (.slice Ap0_2 (p0.Marks).length cp0_2)] 26), (2, bx b101 #[(.int .i64 p1.X), (.int .i64 p1.Y)] 32)]) _
    refine Tr.val (wn rfl) rfl (fun _ _ h1 h2 => run_assign (h1.ev rfl)) ?_
    refine Tr.nil (Tr.normThen ?_)
    refine Tr.ret ?_
    obtain rfl := Option.some.inj H
    exact Tr.out (m := [(.bool g104)]) [] (res_tmp rfl res_nil) (fun W hW => ⟨rfl, hW.low leB⟩)

theorem F_etchhouseref9_cellOf_ok (N : Nat) {w : Bs} (p0 : TPanel) (Ap0_0 : Option Addr) (cp0_0 : Nat) (hp0_0 : Sl w.R w.W fl_TBoardKind Ap0_0 cp0_0 p0.Kinds) (Ap0_1 : Option Addr) (cp0_1 : Nat) (hp0_1 : Sl w.R w.W fl_TSlot Ap0_1 cp0_1 p0.Slots) (Ap0_2 : Option Addr) (cp0_2 : Nat) (hp0_2 : Sl w.R w.W fl_TPoint Ap0_2 cp0_2 p0.Marks) (p1 : TSlot) (r : TRect) (H : F_etchhouseref9_cellOf N p0 p1 = some r) (hE : HF w w.W E0) : Calls Try.prog 50 [(.agg #[(.int .i64 p0.W), (.int .i64 p0.H), (.int .i64 p0.Rail), (.int .i64 p0.Gap), (.slice Ap0_0 (p0.Kinds).length cp0_0), (.slice Ap0_1 (p0.Slots).length cp0_1), (.slice Ap0_2 (p0.Marks).length cp0_2)]), (.agg #[(.string p1.Board), (.int .i64 p1.Quarters), (.int .i64 p1.At.X), (.int .i64 p1.At.Y)])].toArray w.W fun e W' => e = .returned (.agg #[(.int .i64 r.X0), (.int .i64 r.Y0), (.int .i64 r.X1), (.int .i64 r.Y1)]) ∧ HF w W' E0 := by
  unfold F_etchhouseref9_cellOf at H
  have leB := Bs.Le.refl w
  refine Tr.enter (n := 38) Try.func50 rfl rfl rfl hE ?_
  refine Tr.seq ?_
  refine Tr.region ?_
  refine Tr.box 1 (cs := [(.int .i64 p0.W), (.int .i64 p0.H), (.int .i64 p0.Rail), (.int .i64 p0.Gap), (.slice Ap0_0 (p0.Kinds).length cp0_0), (.slice Ap0_1 (p0.Slots).length cp0_1), (.slice Ap0_2 (p0.Marks).length cp0_2)]) (wn rfl) rfl rfl rfl fun b100 => ?_
  refine Tr.box 2 (cs := [(.string p1.Board), (.int .i64 p1.Quarters), (.int .i64 p1.At.X), (.int .i64 p1.At.Y)]) (wn rfl) rfl rfl rfl fun b101 => ?_
  refine Tr.alloc 3 (wn rfl) rfl ze_42 fun b102 => ?_
  refine Tr.nil (Tr.normThen ?_)
  refine Tr.seq ?_
  refine Tr.draw (by kernel_rfl) (by kernel_rfl) ?_
  refine Tq.val (wn rfl) rfl (fun _ _ h1 h2 => run_fieldAddr fo_26_4 (h1.ev rfl)) ?_
  refine Tq.val (wn rfl) rfl (fun _ _ h1 h2 => run_load1 ag_22 (h1.ev rfl) (rdb h2 (vs := [(.int .i64 p0.W), (.int .i64 p0.H), (.int .i64 p0.Rail), (.int .i64 p0.Gap), (.slice Ap0_0 (p0.Kinds).length cp0_0), (.slice Ap0_1 (p0.Slots).length cp0_1), (.slice Ap0_2 (p0.Marks).length cp0_2)]) (k := 1) rfl 4) rfl) ?_
  refine Tq.val (wn rfl) rfl (fun _ _ h1 h2 => run_loadN (cs := [(.int .i64 p0.W), (.int .i64 p0.H), (.int .i64 p0.Rail), (.int .i64 p0.Gap), (.slice Ap0_0 (p0.Kinds).length cp0_0), (.slice Ap0_1 (p0.Slots).length cp0_1), (.slice Ap0_2 (p0.Marks).length cp0_2)]) ag_26 sz_26 (h1.ev rfl) (CellsAt.take (rdb h2 (vs := [(.int .i64 p0.W), (.int .i64 p0.H), (.int .i64 p0.Rail), (.int .i64 p0.Gap), (.slice Ap0_0 (p0.Kinds).length cp0_0), (.slice Ap0_1 (p0.Slots).length cp0_1), (.slice Ap0_2 (p0.Marks).length cp0_2)]) (k := 1) rfl 0) 7) rfl) ?_
  refine Tq.val (wn rfl) rfl (fun _ _ h1 h2 => run_fieldAddr fo_34_0 (h1.ev rfl)) ?_
  refine Tq.val (wn rfl) rfl (fun _ _ h1 h2 => run_load1 ag_9 (h1.ev rfl) (rdb h2 (vs := [(.string p1.Board), (.int .i64 p1.Quarters), (.int .i64 p1.At.X), (.int .i64 p1.At.Y)]) (k := 2) rfl 0) rfl) ?_
  obtain ⟨y103, hy103, H⟩ := bnd H
  refine Tq.call0 (r := (.int .i64 y103)) (wn rfl) rfl Try.call55 (evl_cons rfl (evl_cons rfl evl_nil)) (fun W hW => F_etchhouseref9_kind_ok N p0 Ap0_0 cp0_0 (hp0_0.ext hW.extAll) Ap0_1 cp0_1 (hp0_1.ext hW.extAll) Ap0_2 cp0_2 (hp0_2.ext hW.extAll) p1.Board y103 hy103 (HF.start _)) ?_
  obtain ⟨x104, hx104, H⟩ := bnd H
  obtain ⟨hx1040, hx1041, hx1042⟩ := idx_some hx104
  refine Tq.val (wn rfl) rfl (fun _ _ h1 h2 => run_indexAddr el_22 (h1.ev rfl) hp0_0.form (h1.ev rfl) hx1040 hx1041) ?_
  refine Tq.val (wn rfl) rfl (fun _ _ h1 h2 => run_loadN (cs := [(.string x104.Name), (.int .i64 x104.W), (.int .i64 x104.H)]) ag_82 sz_82 (h1.ev rfl) (CellsAt.take (rdF ef_TBoardKind hp0_0 hx1042 h2) 3) rfl) ?_
  refine Tq.val (wn rfl) rfl (fun _ _ h1 h2 => run_fieldAddr fo_34_1 (h1.ev rfl)) ?_
  refine Tq.val (wn rfl) rfl (fun _ _ h1 h2 => run_load1 ag_3 (h1.ev rfl) (rdb h2 (vs := [(.string p1.Board), (.int .i64 p1.Quarters), (.int .i64 p1.At.X), (.int .i64 p1.At.Y)]) (k := 2) rfl 1) rfl) ?_
  obtain ⟨y105, hy105, H⟩ := bnd H
  refine Tq.call0 (r := (.tuple #[(.int .i64 y105.1), (.int .i64 y105.2)])) (wn rfl) rfl Try.call62 (evl_cons rfl (evl_cons rfl evl_nil)) (fun W hW => F_etchhouseref9_sizeOf_ok x104 p1.Quarters y105 hy105 (HF.start _)) ?_
  refine Tq.val (wn rfl) rfl (fun _ _ h1 h2 => run_move (h1.ev rfl)) ?_
  refine Tq.val (wn rfl) rfl (fun _ _ h1 h2 => run_extract (h1.ev rfl) rfl) ?_
  refine Tq.val (wn rfl) rfl (fun _ _ h1 h2 => run_extract (h1.ev rfl) rfl) ?_
  refine Tq.val (wn rfl) rfl (fun _ _ h1 h2 => run_assign (h1.ev rfl)) ?_
  refine Tq.val (wn rfl) rfl (fun _ _ h1 h2 => run_assign (h1.ev rfl)) ?_
  refine Tq.nil (Tr.normThen ?_)
  refine Tr.seq ?_
  refine Tr.region ?_
  refine Tr.val (wn rfl) rfl (fun _ _ h1 h2 => run_fieldAddr fo_34_2 (h1.ev rfl)) ?_
  refine Tr.val (wn rfl) rfl (fun _ _ h1 h2 => run_fieldAddr fo_32_0 (h1.ev rfl)) ?_
  refine Tr.val (wn rfl) rfl (fun _ _ h1 h2 => run_load1 ag_3 (h1.ev rfl) (rdb h2 (vs := [(.string p1.Board), (.int .i64 p1.Quarters), (.int .i64 p1.At.X), (.int .i64 p1.At.Y)]) (k := 2) rfl 2) rfl) ?_
  refine Tr.val (wn rfl) rfl (fun _ _ h1 h2 => run_fieldAddr fo_34_2 (h1.ev rfl)) ?_
  refine Tr.val (wn rfl) rfl (fun _ _ h1 h2 => run_fieldAddr fo_32_1 (h1.ev rfl)) ?_
  refine Tr.val (wn rfl) rfl (fun _ _ h1 h2 => run_load1 ag_3 (h1.ev rfl) (rdb h2 (vs := [(.string p1.Board), (.int .i64 p1.Quarters), (.int .i64 p1.At.X), (.int .i64 p1.At.Y)]) (k := 2) rfl 3) rfl) ?_
  refine Tr.val (wn rfl) rfl (fun _ _ h1 h2 => run_fieldAddr fo_34_2 (h1.ev rfl)) ?_
  refine Tr.val (wn rfl) rfl (fun _ _ h1 h2 => run_fieldAddr fo_32_0 (h1.ev rfl)) ?_
  refine Tr.val (wn rfl) rfl (fun _ _ h1 h2 => run_load1 ag_3 (h1.ev rfl) (rdb h2 (vs := [(.string p1.Board), (.int .i64 p1.Quarters), (.int .i64 p1.At.X), (.int .i64 p1.At.Y)]) (k := 2) rfl 2) rfl) ?_
  refine Tr.val (wn rfl) rfl (fun _ _ h1 h2 => run_move (h1.ev rfl)) ?_
  refine Tr.val (wn rfl) rfl (fun _ _ h1 h2 => run_add (h1.ev rfl) (h1.ev rfl)) ?_
  refine Tr.val (wn rfl) rfl (fun _ _ h1 h2 => run_fieldAddr fo_34_2 (h1.ev rfl)) ?_
  refine Tr.val (wn rfl) rfl (fun _ _ h1 h2 => run_fieldAddr fo_32_1 (h1.ev rfl)) ?_
  refine Tr.val (wn rfl) rfl (fun _ _ h1 h2 => run_load1 ag_3 (h1.ev rfl) (rdb h2 (vs := [(.string p1.Board), (.int .i64 p1.Quarters), (.int .i64 p1.At.X), (.int .i64 p1.At.Y)]) (k := 2) rfl 3) rfl) ?_
  refine Tr.val (wn rfl) rfl (fun _ _ h1 h2 => run_move (h1.ev rfl)) ?_
  refine Tr.val (wn rfl) rfl (fun _ _ h1 h2 => run_add (h1.ev rfl) (h1.ev rfl)) ?_
  refine Tr.build (vs := [(0, (.int .i64 p1.At.X)), (1, (.int .i64 p1.At.Y)), (2, (.int .i64 (w64 (p1.At.X + y105.1)))), (3, (.int .i64 (w64 (p1.At.Y + y105.2))))]) (cs := [(.int .i64 p1.At.X), (.int .i64 p1.At.Y), (.int .i64 (w64 (p1.At.X + y105.1))), (.int .i64 (w64 (p1.At.Y + y105.2)))]) (wn rfl) rfl (evs_cons rfl (evs_cons rfl (evs_cons rfl (evs_cons rfl evs_nil)))) (by kernel_rfl) ?_
  refine Tr.store 3 (cs := [(.int .i64 p1.At.X), (.int .i64 p1.At.Y), (.int .i64 (w64 (p1.At.X + y105.1))), (.int .i64 (w64 (p1.At.Y + y105.2)))]) [(.int .i64 p1.At.X), (.int .i64 p1.At.Y), (.int .i64 (w64 (p1.At.X + y105.1))), (.int .i64 (w64 (p1.At.Y + y105.2)))] (wn rfl) rfl rfl rfl rfl sz_42 rfl rfl rfl ?_
  refine Tr.nil (Tr.normThen ?_)
  refine Tr.ret ?_
  obtain rfl := Option.some.inj H
  exact Tr.out (m := [(.agg #[(.int .i64 p1.At.X), (.int .i64 p1.At.Y), (.int .i64 (w64 (p1.At.X + y105.1))), (.int .i64 (w64 (p1.At.Y + y105.2)))])]) [3] (res_cell rfl rfl ag_42 sz_42 res_nil) (fun W hW => ⟨rfl, hW.low leB⟩)

theorem F_etchhouseref9_apart_ok {w : Bs} (p0 : TRect) (p1 : TRect) (p2 : Int) (r : Bool) (H : F_etchhouseref9_apart p0 p1 p2 = some r) (hE : HF w w.W E0) : Calls Try.prog 110 [(.agg #[(.int .i64 p0.X0), (.int .i64 p0.Y0), (.int .i64 p0.X1), (.int .i64 p0.Y1)]), (.agg #[(.int .i64 p1.X0), (.int .i64 p1.Y0), (.int .i64 p1.X1), (.int .i64 p1.Y1)]), (.int .i64 p2)].toArray w.W fun e W' => e = .returned (.bool r) ∧ HF w W' E0 := by
  unfold F_etchhouseref9_apart at H
  have leB := Bs.Le.refl w
  refine Tr.enter (n := 41) Try.func110 rfl rfl rfl hE ?_
  refine Tr.seq ?_
  refine Tr.region ?_
  refine Tr.box 1 (cs := [(.int .i64 p0.X0), (.int .i64 p0.Y0), (.int .i64 p0.X1), (.int .i64 p0.Y1)]) (wn rfl) rfl rfl rfl fun b100 => ?_
  refine Tr.box 2 (cs := [(.int .i64 p1.X0), (.int .i64 p1.Y0), (.int .i64 p1.X1), (.int .i64 p1.Y1)]) (wn rfl) rfl rfl rfl fun b101 => ?_
  refine Tr.val (wn rfl) rfl (fun _ _ h1 h2 => run_assign (h1.ev rfl)) ?_
  refine Tr.nil (Tr.normThen ?_)
  refine Tr.seq ?_
  refine Tr.region ?_
  refine Tr.val (wn rfl) rfl (fun _ _ h1 h2 => run_fieldAddr fo_42_2 (h1.ev rfl)) ?_
  refine Tr.val (wn rfl) rfl (fun _ _ h1 h2 => run_load1 ag_3 (h1.ev rfl) (rdb h2 (vs := [(.int .i64 p0.X0), (.int .i64 p0.Y0), (.int .i64 p0.X1), (.int .i64 p0.Y1)]) (k := 1) rfl 2) rfl) ?_
  refine Tr.val (wn rfl) rfl (fun _ _ h1 h2 => run_move (h1.ev rfl)) ?_
  refine Tr.val (wn rfl) rfl (fun _ _ h1 h2 => run_add (h1.ev rfl) (h1.ev rfl)) ?_
  refine Tr.val (wn rfl) rfl (fun _ _ h1 h2 => run_fieldAddr fo_42_0 (h1.ev rfl)) ?_
  refine Tr.val (wn rfl) rfl (fun _ _ h1 h2 => run_load1 ag_3 (h1.ev rfl) (rdb h2 (vs := [(.int .i64 p1.X0), (.int .i64 p1.Y0), (.int .i64 p1.X1), (.int .i64 p1.Y1)]) (k := 2) rfl 0) rfl) ?_
  refine Tr.val (wn rfl) rfl (fun _ _ h1 h2 => run_leq (h1.ev rfl) (h1.ev rfl)) ?_
  refine Tr.val (wn rfl) rfl (fun _ _ h1 h2 => run_move (h1.ev rfl)) ?_
  refine Tr.mid0 8 [(2, (.int .i64 p2)), (3, (.pointer (some ⟨b100, 0, none⟩))), (4, (.pointer (some ⟨b101, 0, none⟩))), (22, (.bool ((decide ((w64 (p0.X1 + p2)) ≤ p1.X0)) || (decide ((w64 (p1.X1 + p2)) ≤ p0.X0)))))] [(1, bx b100 #[(.int .i64 p0.X0), (.int .i64 p0.Y0), (.int .i64 p0.X1), (.int .i64 p0.Y1)] 42), (2, bx b101 #[(.int .i64 p1.X0), (.int .i64 p1.Y0), (.int .i64 p1.X1), (.int .i64 p1.Y1)] 42)] ?_ ?_
  · cases hg101 : (decide ((w64 (p0.X1 + p2)) ≤ p1.X0))
    · refine Tr.val (wg rfl rfl rfl) rfl (fun _ _ h1 h2 => run_fieldAddr fo_42_2 (h1.ev rfl)) ?_
      refine Tr.val (wg rfl rfl rfl) rfl (fun _ _ h1 h2 => run_load1 ag_3 (h1.ev rfl) (rdb h2 (vs := [(.int .i64 p1.X0), (.int .i64 p1.Y0), (.int .i64 p1.X1), (.int .i64 p1.Y1)]) (k := 2) rfl 2) rfl) ?_
      refine Tr.val (wg rfl rfl rfl) rfl (fun _ _ h1 h2 => run_move (h1.ev rfl)) ?_
      refine Tr.val (wg rfl rfl rfl) rfl (fun _ _ h1 h2 => run_add (h1.ev rfl) (h1.ev rfl)) ?_
      refine Tr.val (wg rfl rfl rfl) rfl (fun _ _ h1 h2 => run_fieldAddr fo_42_0 (h1.ev rfl)) ?_
      refine Tr.val (wg rfl rfl rfl) rfl (fun _ _ h1 h2 => run_load1 ag_3 (h1.ev rfl) (rdb h2 (vs := [(.int .i64 p0.X0), (.int .i64 p0.Y0), (.int .i64 p0.X1), (.int .i64 p0.Y1)]) (k := 1) rfl 0) rfl) ?_
      refine Tr.val (wg rfl rfl rfl) rfl (fun _ _ h1 h2 => run_leq (h1.ev rfl) (h1.ev rfl)) ?_
      refine Tr.val (wn rfl) rfl (fun _ _ h1 h2 => run_pickF (h1.ev rfl) (h1.ev rfl)) ?_
      exact Tr.nil (Tr.fin0 (.cons rfl (.cons rfl (.cons rfl (.cons rfl .nil)))) (.cons rfl (.cons rfl .nil)))
    · refine Tr.pass rfl rfl rfl rfl rfl (by decide) ?_
      refine Tr.pass rfl rfl rfl rfl rfl (by decide) ?_
      refine Tr.pass rfl rfl rfl rfl rfl (by decide) ?_
      refine Tr.pass rfl rfl rfl rfl rfl (by decide) ?_
      refine Tr.pass rfl rfl rfl rfl rfl (by decide) ?_
      refine Tr.pass rfl rfl rfl rfl rfl (by decide) ?_
      refine Tr.pass rfl rfl rfl rfl rfl (by decide) ?_
      refine Tr.val (wn rfl) rfl (fun _ _ h1 h2 => run_pickT (h1.ev rfl) (h1.ev rfl)) ?_
      exact Tr.nil (Tr.fin0 (.cons rfl (.cons rfl (.cons rfl (.cons rfl .nil)))) (.cons rfl (.cons rfl .nil)))
  · show Tr _ _ (LF [(2, (.int .i64 p2)), (3, (.pointer (some ⟨b100, 0, none⟩))), (4, (.pointer (some ⟨b101, 0, none⟩))), (22, (.bool ((decide ((w64 (p0.X1 + p2)) ≤ p1.X0)) || (decide ((w64 (p1.X1 + p2)) ≤ p0.X0)))))]) (LE [(1, bx b100 #[(.int .i64 p0.X0), (.int .i64 p0.Y0), (.int .i64 p0.X1), (.int .i64 p0.Y1)] 42), (2, bx b101 #[(.int .i64 p1.X0), (.int .i64 p1.Y0), (.int .i64 p1.X1), (.int .i64 p1.Y1)] 42)]) _
    refine Tr.val (wn rfl) rfl (fun _ _ h1 h2 => run_move (h1.ev rfl)) ?_
    refine Tr.mid0 8 [(2, (.int .i64 p2)), (3, (.pointer (some ⟨b100, 0, none⟩))), (4, (.pointer (some ⟨b101, 0, none⟩))), (31, (.bool (((decide ((w64 (p0.X1 + p2)) ≤ p1.X0)) || (decide ((w64 (p1.X1 + p2)) ≤ p0.X0))) || (decide ((w64 (p0.Y1 + p2)) ≤ p1.Y0)))))] [(1, bx b100 #[(.int .i64 p0.X0), (.int .i64 p0.Y0), (.int .i64 p0.X1), (.int .i64 p0.Y1)] 42), (2, bx b101 #[(.int .i64 p1.X0), (.int .i64 p1.Y0), (.int .i64 p1.X1), (.int .i64 p1.Y1)] 42)] ?_ ?_
    · cases hg101 : ((decide ((w64 (p0.X1 + p2)) ≤ p1.X0)) || (decide ((w64 (p1.X1 + p2)) ≤ p0.X0)))
      · refine Tr.val (wg rfl rfl rfl) rfl (fun _ _ h1 h2 => run_fieldAddr fo_42_3 (h1.ev rfl)) ?_
        refine Tr.val (wg rfl rfl rfl) rfl (fun _ _ h1 h2 => run_load1 ag_3 (h1.ev rfl) (rdb h2 (vs := [(.int .i64 p0.X0), (.int .i64 p0.Y0), (.int .i64 p0.X1), (.int .i64 p0.Y1)]) (k := 1) rfl 3) rfl) ?_
        refine Tr.val (wg rfl rfl rfl) rfl (fun _ _ h1 h2 => run_move (h1.ev rfl)) ?_
        refine Tr.val (wg rfl rfl rfl) rfl (fun _ _ h1 h2 => run_add (h1.ev rfl) (h1.ev rfl)) ?_
        refine Tr.val (wg rfl rfl rfl) rfl (fun _ _ h1 h2 => run_fieldAddr fo_42_1 (h1.ev rfl)) ?_
        refine Tr.val (wg rfl rfl rfl) rfl (fun _ _ h1 h2 => run_load1 ag_3 (h1.ev rfl) (rdb h2 (vs := [(.int .i64 p1.X0), (.int .i64 p1.Y0), (.int .i64 p1.X1), (.int .i64 p1.Y1)]) (k := 2) rfl 1) rfl) ?_
        refine Tr.val (wg rfl rfl rfl) rfl (fun _ _ h1 h2 => run_leq (h1.ev rfl) (h1.ev rfl)) ?_
        refine Tr.val (wn rfl) rfl (fun _ _ h1 h2 => run_pickF (h1.ev rfl) (h1.ev rfl)) ?_
        exact Tr.nil (Tr.fin0 (.cons rfl (.cons rfl (.cons rfl (.cons rfl .nil)))) (.cons rfl (.cons rfl .nil)))
      · refine Tr.pass rfl rfl rfl rfl rfl (by decide) ?_
        refine Tr.pass rfl rfl rfl rfl rfl (by decide) ?_
        refine Tr.pass rfl rfl rfl rfl rfl (by decide) ?_
        refine Tr.pass rfl rfl rfl rfl rfl (by decide) ?_
        refine Tr.pass rfl rfl rfl rfl rfl (by decide) ?_
        refine Tr.pass rfl rfl rfl rfl rfl (by decide) ?_
        refine Tr.pass rfl rfl rfl rfl rfl (by decide) ?_
        refine Tr.val (wn rfl) rfl (fun _ _ h1 h2 => run_pickT (h1.ev rfl) (h1.ev rfl)) ?_
        exact Tr.nil (Tr.fin0 (.cons rfl (.cons rfl (.cons rfl (.cons rfl .nil)))) (.cons rfl (.cons rfl .nil)))
    · show Tr _ _ (LF [(2, (.int .i64 p2)), (3, (.pointer (some ⟨b100, 0, none⟩))), (4, (.pointer (some ⟨b101, 0, none⟩))), (31, (.bool (((decide ((w64 (p0.X1 + p2)) ≤ p1.X0)) || (decide ((w64 (p1.X1 + p2)) ≤ p0.X0))) || (decide ((w64 (p0.Y1 + p2)) ≤ p1.Y0)))))]) (LE [(1, bx b100 #[(.int .i64 p0.X0), (.int .i64 p0.Y0), (.int .i64 p0.X1), (.int .i64 p0.Y1)] 42), (2, bx b101 #[(.int .i64 p1.X0), (.int .i64 p1.Y0), (.int .i64 p1.X1), (.int .i64 p1.Y1)] 42)]) _
      refine Tr.val (wn rfl) rfl (fun _ _ h1 h2 => run_move (h1.ev rfl)) ?_
      refine Tr.mid0 8 [(40, (.bool ((((decide ((w64 (p0.X1 + p2)) ≤ p1.X0)) || (decide ((w64 (p1.X1 + p2)) ≤ p0.X0))) || (decide ((w64 (p0.Y1 + p2)) ≤ p1.Y0))) || (decide ((w64 (p1.Y1 + p2)) ≤ p0.Y0)))))] [(1, bx b100 #[(.int .i64 p0.X0), (.int .i64 p0.Y0), (.int .i64 p0.X1), (.int .i64 p0.Y1)] 42), (2, bx b101 #[(.int .i64 p1.X0), (.int .i64 p1.Y0), (.int .i64 p1.X1), (.int .i64 p1.Y1)] 42)] ?_ ?_
      · cases hg101 : (((decide ((w64 (p0.X1 + p2)) ≤ p1.X0)) || (decide ((w64 (p1.X1 + p2)) ≤ p0.X0))) || (decide ((w64 (p0.Y1 + p2)) ≤ p1.Y0)))
        · refine Tr.val (wg rfl rfl rfl) rfl (fun _ _ h1 h2 => run_fieldAddr fo_42_3 (h1.ev rfl)) ?_
          refine Tr.val (wg rfl rfl rfl) rfl (fun _ _ h1 h2 => run_load1 ag_3 (h1.ev rfl) (rdb h2 (vs := [(.int .i64 p1.X0), (.int .i64 p1.Y0), (.int .i64 p1.X1), (.int .i64 p1.Y1)]) (k := 2) rfl 3) rfl) ?_
          refine Tr.val (wg rfl rfl rfl) rfl (fun _ _ h1 h2 => run_move (h1.ev rfl)) ?_
          refine Tr.val (wg rfl rfl rfl) rfl (fun _ _ h1 h2 => run_add (h1.ev rfl) (h1.ev rfl)) ?_
          refine Tr.val (wg rfl rfl rfl) rfl (fun _ _ h1 h2 => run_fieldAddr fo_42_1 (h1.ev rfl)) ?_
          refine Tr.val (wg rfl rfl rfl) rfl (fun _ _ h1 h2 => run_load1 ag_3 (h1.ev rfl) (rdb h2 (vs := [(.int .i64 p0.X0), (.int .i64 p0.Y0), (.int .i64 p0.X1), (.int .i64 p0.Y1)]) (k := 1) rfl 1) rfl) ?_
          refine Tr.val (wg rfl rfl rfl) rfl (fun _ _ h1 h2 => run_leq (h1.ev rfl) (h1.ev rfl)) ?_
          refine Tr.val (wn rfl) rfl (fun _ _ h1 h2 => run_pickF (h1.ev rfl) (h1.ev rfl)) ?_
          exact Tr.nil (Tr.fin0 (.cons rfl .nil) (.cons rfl (.cons rfl .nil)))
        · refine Tr.pass rfl rfl rfl rfl rfl (by decide) ?_
          refine Tr.pass rfl rfl rfl rfl rfl (by decide) ?_
          refine Tr.pass rfl rfl rfl rfl rfl (by decide) ?_
          refine Tr.pass rfl rfl rfl rfl rfl (by decide) ?_
          refine Tr.pass rfl rfl rfl rfl rfl (by decide) ?_
          refine Tr.pass rfl rfl rfl rfl rfl (by decide) ?_
          refine Tr.pass rfl rfl rfl rfl rfl (by decide) ?_
          refine Tr.val (wn rfl) rfl (fun _ _ h1 h2 => run_pickT (h1.ev rfl) (h1.ev rfl)) ?_
          exact Tr.nil (Tr.fin0 (.cons rfl .nil) (.cons rfl (.cons rfl .nil)))
      · show Tr _ _ (LF [(40, (.bool ((((decide ((w64 (p0.X1 + p2)) ≤ p1.X0)) || (decide ((w64 (p1.X1 + p2)) ≤ p0.X0))) || (decide ((w64 (p0.Y1 + p2)) ≤ p1.Y0))) || (decide ((w64 (p1.Y1 + p2)) ≤ p0.Y0)))))]) (LE [(1, bx b100 #[(.int .i64 p0.X0), (.int .i64 p0.Y0), (.int .i64 p0.X1), (.int .i64 p0.Y1)] 42), (2, bx b101 #[(.int .i64 p1.X0), (.int .i64 p1.Y0), (.int .i64 p1.X1), (.int .i64 p1.Y1)] 42)]) _
        refine Tr.val (wn rfl) rfl (fun _ _ h1 h2 => run_assign (h1.ev rfl)) ?_
        refine Tr.nil (Tr.normThen ?_)
        refine Tr.ret ?_
        obtain rfl := Option.some.inj H
        exact Tr.out (m := [(.bool ((((decide ((w64 (p0.X1 + p2)) ≤ p1.X0)) || (decide ((w64 (p1.X1 + p2)) ≤ p0.X0))) || (decide ((w64 (p0.Y1 + p2)) ≤ p1.Y0))) || (decide ((w64 (p1.Y1 + p2)) ≤ p0.Y0))))]) [] (res_tmp rfl res_nil) (fun W hW => ⟨rfl, hW.low leB⟩)

theorem F_etchhouseref9_checkSlot_ok (N : Nat) {w : Bs} (p0 : TPanel) (Ap0_0 : Option Addr) (cp0_0 : Nat) (hp0_0 : Sl w.R w.W fl_TBoardKind Ap0_0 cp0_0 p0.Kinds) (Ap0_1 : Option Addr) (cp0_1 : Nat) (hp0_1 : Sl w.R w.W fl_TSlot Ap0_1 cp0_1 p0.Slots) (Ap0_2 : Option Addr) (cp0_2 : Nat) (hp0_2 : Sl w.R w.W fl_TPoint Ap0_2 cp0_2 p0.Marks) (p1 : Int) (r : Int) (H : F_etchhouseref9_checkSlot N p0 p1 = some r) (hE : HF w w.W E0) : Calls Try.prog 85 [(.agg #[(.int .i64 p0.W), (.int .i64 p0.H), (.int .i64 p0.Rail), (.int .i64 p0.Gap), (.slice Ap0_0 (p0.Kinds).length cp0_0), (.slice Ap0_1 (p0.Slots).length cp0_1), (.slice Ap0_2 (p0.Marks).length cp0_2)]), (.int .i64 p1)].toArray w.W fun e W' => e = .returned (.int .i64 r) ∧ HF w W' E0 := by
  unfold F_etchhouseref9_checkSlot at H
  have leB := Bs.Le.refl w
  refine Tr.enter (n := 62) Try.func85 rfl rfl rfl hE ?_
  refine Tr.seq ?_
  refine Tr.region ?_
  refine Tr.box 1 (cs := [(.int .i64 p0.W), (.int .i64 p0.H), (.int .i64 p0.Rail), (.int .i64 p0.Gap), (.slice Ap0_0 (p0.Kinds).length cp0_0), (.slice Ap0_1 (p0.Slots).length cp0_1), (.slice Ap0_2 (p0.Marks).length cp0_2)]) (wn rfl) rfl rfl rfl fun b100 => ?_
  refine Tr.val (wn rfl) rfl (fun _ _ h1 h2 => run_assign (h1.ev rfl)) ?_
  refine Tr.nil (Tr.normThen ?_)
  refine Tr.seq ?_
  refine Tr.region ?_
  refine Tr.val (wn rfl) rfl (fun _ _ h1 h2 => run_fieldAddr fo_26_5 (h1.ev rfl)) ?_
  refine Tr.val (wn rfl) rfl (fun _ _ h1 h2 => run_load1 ag_23 (h1.ev rfl) (rdb h2 (vs := [(.int .i64 p0.W), (.int .i64 p0.H), (.int .i64 p0.Rail), (.int .i64 p0.Gap), (.slice Ap0_0 (p0.Kinds).length cp0_0), (.slice Ap0_1 (p0.Slots).length cp0_1), (.slice Ap0_2 (p0.Marks).length cp0_2)]) (k := 1) rfl 5) rfl) ?_
  refine Tr.val (wn rfl) rfl (fun _ _ h1 h2 => run_move (h1.ev rfl)) ?_
  obtain ⟨x101, hx101, H⟩ := bnd H
  obtain ⟨hx1010, hx1011, hx1012⟩ := idx_some hx101
  refine Tr.val (wn rfl) rfl (fun _ _ h1 h2 => run_indexAddr el_23 (h1.ev rfl) hp0_1.form (h1.ev rfl) hx1010 hx1011) ?_
  refine Tr.val (wn rfl) rfl (fun _ _ h1 h2 => run_loadN (cs := [(.string x101.Board), (.int .i64 x101.Quarters), (.int .i64 x101.At.X), (.int .i64 x101.At.Y)]) ag_34 sz_34 (h1.ev rfl) (CellsAt.take (rdF ef_TSlot hp0_1 hx1012 h2) 4) rfl) ?_
  refine Tr.alloc 2 (wn rfl) rfl ze_34 fun b102 => ?_
  refine Tr.store 2 (cs := [(.string x101.Board), (.int .i64 x101.Quarters), (.int .i64 x101.At.X), (.int .i64 x101.At.Y)]) [(.string x101.Board), (.int .i64 x101.Quarters), (.int .i64 x101.At.X), (.int .i64 x101.At.Y)] (wn rfl) rfl rfl rfl rfl sz_34 rfl rfl rfl ?_
  refine Tr.nil (Tr.normThen ?_)
  refine Tr.seq ?_
  refine Tr.region ?_
  refine Tr.val (wn rfl) rfl (fun _ _ h1 h2 => run_loadN (cs := [(.int .i64 p0.W), (.int .i64 p0.H), (.int .i64 p0.Rail), (.int .i64 p0.Gap), (.slice Ap0_0 (p0.Kinds).length cp0_0), (.slice Ap0_1 (p0.Slots).length cp0_1), (.slice Ap0_2 (p0.Marks).length cp0_2)]) ag_26 sz_26 (h1.ev rfl) (CellsAt.take (rdb h2 (vs := [(.int .i64 p0.W), (.int .i64 p0.H), (.int .i64 p0.Rail), (.int .i64 p0.Gap), (.slice Ap0_0 (p0.Kinds).length cp0_0), (.slice Ap0_1 (p0.Slots).length cp0_1), (.slice Ap0_2 (p0.Marks).length cp0_2)]) (k := 1) rfl 0) 7) rfl) ?_
  refine Tr.val (wn rfl) rfl (fun _ _ h1 h2 => run_fieldAddr fo_34_0 (h1.ev rfl)) ?_
  refine Tr.val (wn rfl) rfl (fun _ _ h1 h2 => run_load1 ag_9 (h1.ev rfl) (rdb h2 (vs := [(.string x101.Board), (.int .i64 x101.Quarters), (.int .i64 x101.At.X), (.int .i64 x101.At.Y)]) (k := 2) rfl 0) rfl) ?_
  obtain ⟨y103, hy103, H⟩ := bnd H
  refine Tr.call0 (r := (.int .i64 y103)) (wn rfl) rfl Try.call55 (evl_cons rfl (evl_cons rfl evl_nil)) (fun W hW => F_etchhouseref9_kind_ok N p0 Ap0_0 cp0_0 (hp0_0.ext hW.extAll) Ap0_1 cp0_1 (hp0_1.ext hW.extAll) Ap0_2 cp0_2 (hp0_2.ext hW.extAll) x101.Board y103 hy103 (HF.start _)) ?_
  refine Tr.val (wn rfl) rfl (fun _ _ h1 h2 => run_assign (h1.ev rfl)) ?_
  refine Tr.nil (Tr.normThen ?_)
  refine Tr.seq ?_
  refine Tr.seq ?_
  refine Tr.region ?_
  refine Tr.val (wn rfl) rfl (fun _ _ h1 h2 => run_move (h1.ev rfl)) ?_
  refine Tr.val (wn rfl) rfl (fun _ _ h1 h2 => run_lss (h1.ev rfl) (h1.ev rfl)) ?_
  refine Tr.nil (Tr.normThen ?_)
  refine Tr.cond rfl H (fun H => ?_) (fun H => ?_)
  · refine Tr.seq ?_
    refine Tr.region ?_
    refine Tr.val (wn rfl) rfl (fun _ _ h1 h2 => run_assign (h1.ev rfl)) ?_
    refine Tr.nil (Tr.normThen ?_)
    refine Tr.ret (Tr.retThen ?_)
    obtain rfl := Option.some.inj H
    exact Tr.out (m := [(.int .i64 5)]) [] (res_tmp rfl res_nil) (fun W hW => ⟨rfl, hW.low leB⟩)
  · refine Tr.skip (Tr.normThen ?_)
    refine Tr.seq ?_
    refine Tr.seq ?_
    refine Tr.region ?_
    refine Tr.val (wn rfl) rfl (fun _ _ h1 h2 => run_fieldAddr fo_34_1 (h1.ev rfl)) ?_
    refine Tr.val (wn rfl) rfl (fun _ _ h1 h2 => run_load1 ag_3 (h1.ev rfl) (rdb h2 (vs := [(.string x101.Board), (.int .i64 x101.Quarters), (.int .i64 x101.At.X), (.int .i64 x101.At.Y)]) (k := 2) rfl 1) rfl) ?_
    obtain ⟨y104, hy104, H⟩ := bnd H
    refine Tr.call0 (r := (.bool y104)) (wn rfl) rfl Try.call49 (evl_cons rfl (evl_cons rfl (evl_cons rfl evl_nil))) (fun W hW => F_etchhouseref9_within_ok x101.Quarters 0 3 y104 hy104 (HF.start _)) ?_
    refine Tr.val (wn rfl) rfl (fun _ _ h1 h2 => run_not (h1.ev rfl)) ?_
    refine Tr.nil (Tr.normThen ?_)
    refine Tr.cond rfl H (fun H => ?_) (fun H => ?_)
    · refine Tr.seq ?_
      refine Tr.region ?_
      refine Tr.val (wn rfl) rfl (fun _ _ h1 h2 => run_assign (h1.ev rfl)) ?_
      refine Tr.nil (Tr.normThen ?_)
      refine Tr.ret (Tr.retThen ?_)
      obtain rfl := Option.some.inj H
      exact Tr.out (m := [(.int .i64 1)]) [] (res_tmp rfl res_nil) (fun W hW => ⟨rfl, hW.low leB⟩)
    · refine Tr.skip (Tr.normThen ?_)
      refine Tr.seq ?_
      refine Tr.seq ?_
      refine Tr.draw (by kernel_rfl) (by kernel_rfl) ?_
      refine Tq.val (wn rfl) rfl (fun _ _ h1 h2 => run_fieldAddr fo_26_4 (h1.ev rfl)) ?_
      refine Tq.val (wn rfl) rfl (fun _ _ h1 h2 => run_load1 ag_22 (h1.ev rfl) (rdb h2 (vs := [(.int .i64 p0.W), (.int .i64 p0.H), (.int .i64 p0.Rail), (.int .i64 p0.Gap), (.slice Ap0_0 (p0.Kinds).length cp0_0), (.slice Ap0_1 (p0.Slots).length cp0_1), (.slice Ap0_2 (p0.Marks).length cp0_2)]) (k := 1) rfl 4) rfl) ?_
      refine Tq.val (wn rfl) rfl (fun _ _ h1 h2 => run_move (h1.ev rfl)) ?_
      obtain ⟨x105, hx105, H⟩ := bnd H
      obtain ⟨hx1050, hx1051, hx1052⟩ := idx_some hx105
      refine Tq.val (wn rfl) rfl (fun _ _ h1 h2 => run_indexAddr el_22 (h1.ev rfl) hp0_0.form (h1.ev rfl) hx1050 hx1051) ?_
      refine Tq.val (wn rfl) rfl (fun _ _ h1 h2 => run_loadN (cs := [(.string x105.Name), (.int .i64 x105.W), (.int .i64 x105.H)]) ag_82 sz_82 (h1.ev rfl) (CellsAt.take (rdF ef_TBoardKind hp0_0 hx1052 h2) 3) rfl) ?_
      refine Tq.val (wn rfl) rfl (fun _ _ h1 h2 => run_fieldAddr fo_34_1 (h1.ev rfl)) ?_
      refine Tq.val (wn rfl) rfl (fun _ _ h1 h2 => run_load1 ag_3 (h1.ev rfl) (rdb h2 (vs := [(.string x101.Board), (.int .i64 x101.Quarters), (.int .i64 x101.At.X), (.int .i64 x101.At.Y)]) (k := 2) rfl 1) rfl) ?_
      obtain ⟨y106, hy106, H⟩ := bnd H
      refine Tq.call0 (r := (.tuple #[(.int .i64 y106.1), (.int .i64 y106.2)])) (wn rfl) rfl Try.call62 (evl_cons rfl (evl_cons rfl evl_nil)) (fun W hW => F_etchhouseref9_sizeOf_ok x105 x101.Quarters y106 hy106 (HF.start _)) ?_
      refine Tq.val (wn rfl) rfl (fun _ _ h1 h2 => run_move (h1.ev rfl)) ?_
      refine Tq.val (wn rfl) rfl (fun _ _ h1 h2 => run_extract (h1.ev rfl) rfl) ?_
      refine Tq.val (wn rfl) rfl (fun _ _ h1 h2 => run_extract (h1.ev rfl) rfl) ?_
      refine Tq.val (wn rfl) rfl (fun _ _ h1 h2 => run_assign (h1.ev rfl)) ?_
      refine Tq.val (wn rfl) rfl (fun _ _ h1 h2 => run_assign (h1.ev rfl)) ?_
      refine Tq.nil (Tr.normThen ?_)
      refine Tr.seq ?_
      refine Tr.region ?_
      refine Tr.val (wn rfl) rfl (fun _ _ h1 h2 => run_loadN (cs := [(.int .i64 p0.W), (.int .i64 p0.H), (.int .i64 p0.Rail), (.int .i64 p0.Gap), (.slice Ap0_0 (p0.Kinds).length cp0_0), (.slice Ap0_1 (p0.Slots).length cp0_1), (.slice Ap0_2 (p0.Marks).length cp0_2)]) ag_26 sz_26 (h1.ev rfl) (CellsAt.take (rdb h2 (vs := [(.int .i64 p0.W), (.int .i64 p0.H), (.int .i64 p0.Rail), (.int .i64 p0.Gap), (.slice Ap0_0 (p0.Kinds).length cp0_0), (.slice Ap0_1 (p0.Slots).length cp0_1), (.slice Ap0_2 (p0.Marks).length cp0_2)]) (k := 1) rfl 0) 7) rfl) ?_
      refine Tr.val (wn rfl) rfl (fun _ _ h1 h2 => run_fieldAddr fo_34_2 (h1.ev rfl)) ?_
      refine Tr.val (wn rfl) rfl (fun _ _ h1 h2 => run_loadN (cs := [(.int .i64 x101.At.X), (.int .i64 x101.At.Y)]) ag_32 sz_32 (h1.ev rfl) (CellsAt.take (rdb h2 (vs := [(.string x101.Board), (.int .i64 x101.Quarters), (.int .i64 x101.At.X), (.int .i64 x101.At.Y)]) (k := 2) rfl 2) 2) rfl) ?_
      refine Tr.val (wn rfl) rfl (fun _ _ h1 h2 => run_move (h1.ev rfl)) ?_
      refine Tr.val (wn rfl) rfl (fun _ _ h1 h2 => run_move (h1.ev rfl)) ?_
      obtain ⟨y107, hy107, H⟩ := bnd H
      refine Tr.call0 (r := (.bool y107)) (wn rfl) rfl Try.call108 (evl_cons rfl (evl_cons rfl (evl_cons rfl (evl_cons rfl evl_nil)))) (fun W hW => F_etchhouseref9_lies_ok p0 Ap0_0 cp0_0 (hp0_0.ext hW.extAll) Ap0_1 cp0_1 (hp0_1.ext hW.extAll) Ap0_2 cp0_2 (hp0_2.ext hW.extAll) x101.At y106.1 y106.2 y107 hy107 (HF.start _)) ?_
      refine Tr.val (wn rfl) rfl (fun _ _ h1 h2 => run_not (h1.ev rfl)) ?_
      refine Tr.nil (Tr.normThen ?_)
      refine Tr.cond rfl H (fun H => ?_) (fun H => ?_)
      · refine Tr.seq ?_
        refine Tr.region ?_
        refine Tr.val (wn rfl) rfl (fun _ _ h1 h2 => run_assign (h1.ev rfl)) ?_
        refine Tr.nil (Tr.normThen ?_)
        refine Tr.ret (Tr.retThen ?_)
        obtain rfl := Option.some.inj H
        exact Tr.out (m := [(.int .i64 1)]) [] (res_tmp rfl res_nil) (fun W hW => ⟨rfl, hW.low leB⟩)
      · refine Tr.skip (Tr.normThen ?_)
        refine Tr.seq ?_
        refine Tr.seq ?_
        refine Tr.region ?_
        refine Tr.val (wn rfl) rfl (fun _ _ h1 h2 => run_assign (h1.ev rfl)) ?_
        refine Tr.nil (Tr.normThen ?_)
        refine Tr.block ?_
        refine Tr.loop (σ := Int) (fun m w s => F_etchhouseref9_checkSlot_L1 N p0 p1 x101 m s = some r) (fun s => [(1, (.int .i64 p1)), (2, (.pointer (some ⟨b100, 0, none⟩))), (5, (.pointer (some ⟨b102, 0, none⟩))), (9, (.int .i64 s))]) (fun s => [(1, bx b100 #[(.int .i64 p0.W), (.int .i64 p0.H), (.int .i64 p0.Rail), (.int .i64 p0.Gap), (.slice Ap0_0 (p0.Kinds).length cp0_0), (.slice Ap0_1 (p0.Slots).length cp0_1), (.slice Ap0_2 (p0.Marks).length cp0_2)] 26), (2, bx b102 #[(.string x101.Board), (.int .i64 x101.Quarters), (.int .i64 x101.At.X), (.int .i64 x101.At.Y)] 34)]) N 0 H (.cons rfl (.cons rfl (.cons rfl (.cons rfl .nil)))) (.cons rfl (.cons rfl .nil)) (fun _ _ h => noSome (h)) ?_
        intro w leF_etchhouseref9_checkSlot_L1 mF_etchhouseref9_checkSlot_L1 x119 hs
        have H := hs
        replace H : F_etchhouseref9_checkSlot_L1 N p0 p1 x101 (mF_etchhouseref9_checkSlot_L1 + 1) x119 = some r := H
        replace hp0_0 := hp0_0.leR leF_etchhouseref9_checkSlot_L1
        replace hp0_1 := hp0_1.leR leF_etchhouseref9_checkSlot_L1
        replace hp0_2 := hp0_2.leR leF_etchhouseref9_checkSlot_L1
        replace leB := leB.trans leF_etchhouseref9_checkSlot_L1
        rw [F_etchhouseref9_checkSlot_L1.eq_2] at H
        show Tr _ _ (LF [(1, (.int .i64 p1)), (2, (.pointer (some ⟨b100, 0, none⟩))), (5, (.pointer (some ⟨b102, 0, none⟩))), (9, (.int .i64 x119))]) (LE [(1, bx b100 #[(.int .i64 p0.W), (.int .i64 p0.H), (.int .i64 p0.Rail), (.int .i64 p0.Gap), (.slice Ap0_0 (p0.Kinds).length cp0_0), (.slice Ap0_1 (p0.Slots).length cp0_1), (.slice Ap0_2 (p0.Marks).length cp0_2)] 26), (2, bx b102 #[(.string x101.Board), (.int .i64 x101.Quarters), (.int .i64 x101.At.X), (.int .i64 x101.At.Y)] 34)]) _
        refine Tr.seq ?_
        refine Tr.seq ?_
        refine Tr.region ?_
        refine Tr.val (wn rfl) rfl (fun _ _ h1 h2 => run_move (h1.ev rfl)) ?_
        refine Tr.val (wn rfl) rfl (fun _ _ h1 h2 => run_move (h1.ev rfl)) ?_
        refine Tr.val (wn rfl) rfl (fun _ _ h1 h2 => run_lss (h1.ev rfl) (h1.ev rfl)) ?_
        refine Tr.nil (Tr.normThen ?_)
        refine Tr.cond rfl H (fun H => ?_) (fun H => ?_)
        · refine Tr.skip (Tr.normThen ?_)
          refine Tr.seq ?_
          refine Tr.block ?_
          refine Tr.seq ?_
          refine Tr.draw (by kernel_rfl) (by kernel_rfl) ?_
          refine Tq.val (wn rfl) rfl (fun _ _ h1 h2 => run_loadN (cs := [(.int .i64 p0.W), (.int .i64 p0.H), (.int .i64 p0.Rail), (.int .i64 p0.Gap), (.slice Ap0_0 (p0.Kinds).length cp0_0), (.slice Ap0_1 (p0.Slots).length cp0_1), (.slice Ap0_2 (p0.Marks).length cp0_2)]) ag_26 sz_26 (h1.ev rfl) (CellsAt.take (rdb h2 (vs := [(.int .i64 p0.W), (.int .i64 p0.H), (.int .i64 p0.Rail), (.int .i64 p0.Gap), (.slice Ap0_0 (p0.Kinds).length cp0_0), (.slice Ap0_1 (p0.Slots).length cp0_1), (.slice Ap0_2 (p0.Marks).length cp0_2)]) (k := 1) rfl 0) 7) rfl) ?_
          refine Tq.val (wn rfl) rfl (fun _ _ h1 h2 => run_loadN (cs := [(.string x101.Board), (.int .i64 x101.Quarters), (.int .i64 x101.At.X), (.int .i64 x101.At.Y)]) ag_34 sz_34 (h1.ev rfl) (CellsAt.take (rdb h2 (vs := [(.string x101.Board), (.int .i64 x101.Quarters), (.int .i64 x101.At.X), (.int .i64 x101.At.Y)]) (k := 2) rfl 0) 4) rfl) ?_
          obtain ⟨y120, hy120, H⟩ := bnd H
          refine Tq.call0 (r := (.agg #[(.int .i64 y120.X0), (.int .i64 y120.Y0), (.int .i64 y120.X1), (.int .i64 y120.Y1)])) (wn rfl) rfl Try.call50 (evl_cons rfl (evl_cons rfl evl_nil)) (fun W hW => F_etchhouseref9_cellOf_ok N p0 Ap0_0 cp0_0 (hp0_0.ext hW.extAll) Ap0_1 cp0_1 (hp0_1.ext hW.extAll) Ap0_2 cp0_2 (hp0_2.ext hW.extAll) x101 y120 hy120 (HF.start _)) ?_
          refine Tq.val (wn rfl) rfl (fun _ _ h1 h2 => run_loadN (cs := [(.int .i64 p0.W), (.int .i64 p0.H), (.int .i64 p0.Rail), (.int .i64 p0.Gap), (.slice Ap0_0 (p0.Kinds).length cp0_0), (.slice Ap0_1 (p0.Slots).length cp0_1), (.slice Ap0_2 (p0.Marks).length cp0_2)]) ag_26 sz_26 (h1.ev rfl) (CellsAt.take (rdb h2 (vs := [(.int .i64 p0.W), (.int .i64 p0.H), (.int .i64 p0.Rail), (.int .i64 p0.Gap), (.slice Ap0_0 (p0.Kinds).length cp0_0), (.slice Ap0_1 (p0.Slots).length cp0_1), (.slice Ap0_2 (p0.Marks).length cp0_2)]) (k := 1) rfl 0) 7) rfl) ?_
          refine Tq.val (wn rfl) rfl (fun _ _ h1 h2 => run_fieldAddr fo_26_5 (h1.ev rfl)) ?_
          refine Tq.val (wn rfl) rfl (fun _ _ h1 h2 => run_load1 ag_23 (h1.ev rfl) (rdb h2 (vs := [(.int .i64 p0.W), (.int .i64 p0.H), (.int .i64 p0.Rail), (.int .i64 p0.Gap), (.slice Ap0_0 (p0.Kinds).length cp0_0), (.slice Ap0_1 (p0.Slots).length cp0_1), (.slice Ap0_2 (p0.Marks).length cp0_2)]) (k := 1) rfl 5) rfl) ?_
          refine Tq.val (wn rfl) rfl (fun _ _ h1 h2 => run_move (h1.ev rfl)) ?_
          obtain ⟨x121, hx121, H⟩ := bnd H
          obtain ⟨hx1210, hx1211, hx1212⟩ := idx_some hx121
          refine Tq.val (wn rfl) rfl (fun _ _ h1 h2 => run_indexAddr el_23 (h1.ev rfl) hp0_1.form (h1.ev rfl) hx1210 hx1211) ?_
          refine Tq.val (wn rfl) rfl (fun _ _ h1 h2 => run_loadN (cs := [(.string x121.Board), (.int .i64 x121.Quarters), (.int .i64 x121.At.X), (.int .i64 x121.At.Y)]) ag_34 sz_34 (h1.ev rfl) (CellsAt.take (rdF ef_TSlot hp0_1 hx1212 h2) 4) rfl) ?_
          obtain ⟨y122, hy122, H⟩ := bnd H
          refine Tq.call0 (r := (.agg #[(.int .i64 y122.X0), (.int .i64 y122.Y0), (.int .i64 y122.X1), (.int .i64 y122.Y1)])) (wn rfl) rfl Try.call50 (evl_cons rfl (evl_cons rfl evl_nil)) (fun W hW => F_etchhouseref9_cellOf_ok N p0 Ap0_0 cp0_0 (hp0_0.ext hW.extAll) Ap0_1 cp0_1 (hp0_1.ext hW.extAll) Ap0_2 cp0_2 (hp0_2.ext hW.extAll) x121 y122 hy122 (HF.start _)) ?_
          refine Tq.val (wn rfl) rfl (fun _ _ h1 h2 => run_fieldAddr fo_26_3 (h1.ev rfl)) ?_
          refine Tq.val (wn rfl) rfl (fun _ _ h1 h2 => run_load1 ag_3 (h1.ev rfl) (rdb h2 (vs := [(.int .i64 p0.W), (.int .i64 p0.H), (.int .i64 p0.Rail), (.int .i64 p0.Gap), (.slice Ap0_0 (p0.Kinds).length cp0_0), (.slice Ap0_1 (p0.Slots).length cp0_1), (.slice Ap0_2 (p0.Marks).length cp0_2)]) (k := 1) rfl 3) rfl) ?_
          obtain ⟨y123, hy123, H⟩ := bnd H
          refine Tq.call0 (r := (.bool y123)) (wn rfl) rfl Try.call110 (evl_cons rfl (evl_cons rfl (evl_cons rfl evl_nil))) (fun W hW => F_etchhouseref9_apart_ok y120 y122 p0.Gap y123 hy123 (HF.start _)) ?_
          refine Tq.val (wn rfl) rfl (fun _ _ h1 h2 => run_not (h1.ev rfl)) ?_
          refine Tq.nil (Tr.normThen ?_)
          refine Tr.cond rfl H (fun H => ?_) (fun H => ?_)
          · refine Tr.seq ?_
            refine Tr.region ?_
            refine Tr.val (wn rfl) rfl (fun _ _ h1 h2 => run_assign (h1.ev rfl)) ?_
            refine Tr.nil (Tr.normThen ?_)
            refine Tr.ret (Tr.retBlock (Tr.retThen (Tr.retThen (Tr.retBlock (Tr.retThen ?_)))))
            obtain rfl := Option.some.inj H
            exact Tr.out (m := [(.int .i64 12)]) [] (res_tmp rfl res_nil) (fun W hW => ⟨rfl, hW.low leB⟩)
          · refine Tr.skip (Tr.normBlock (Tr.normThen ?_))
            refine Tr.region ?_
            refine Tr.val (wn rfl) rfl (fun _ _ h1 h2 => run_move (h1.ev rfl)) ?_
            refine Tr.val (wn rfl) rfl (fun _ _ h1 h2 => run_add (h1.ev rfl) (h1.ev rfl)) ?_
            refine Tr.val (wn rfl) rfl (fun _ _ h1 h2 => run_assign (h1.ev rfl)) ?_
            refine Tr.nil ?_
            exact Tr.backThen leF_etchhouseref9_checkSlot_L1 (w64 (x119 + 1)) H (.cons rfl (.cons rfl (.cons rfl (.cons rfl .nil)))) (.cons rfl (.cons rfl .nil))
        · refine Tr.exit (Tr.exitThen (Tr.exitThen (Tr.exitBlock (Tr.normThen ?_))))
          refine Tr.seq ?_
          refine Tr.region ?_
          refine Tr.val (wn rfl) rfl (fun _ _ h1 h2 => run_assign (h1.ev rfl)) ?_
          refine Tr.nil (Tr.normThen ?_)
          refine Tr.ret ?_
          obtain rfl := Option.some.inj H
          exact Tr.out (m := [(.int .i64 0)]) [] (res_tmp rfl res_nil) (fun W hW => ⟨rfl, hW.low leB⟩)

theorem F_etchhouseref9_checkMark_ok (N : Nat) {w : Bs} (p0 : TPanel) (Ap0_0 : Option Addr) (cp0_0 : Nat) (hp0_0 : Sl w.R w.W fl_TBoardKind Ap0_0 cp0_0 p0.Kinds) (Ap0_1 : Option Addr) (cp0_1 : Nat) (hp0_1 : Sl w.R w.W fl_TSlot Ap0_1 cp0_1 p0.Slots) (Ap0_2 : Option Addr) (cp0_2 : Nat) (hp0_2 : Sl w.R w.W fl_TPoint Ap0_2 cp0_2 p0.Marks) (p1 : Int) (r : Int) (H : F_etchhouseref9_checkMark N p0 p1 = some r) (hE : HF w w.W E0) : Calls Try.prog 86 [(.agg #[(.int .i64 p0.W), (.int .i64 p0.H), (.int .i64 p0.Rail), (.int .i64 p0.Gap), (.slice Ap0_0 (p0.Kinds).length cp0_0), (.slice Ap0_1 (p0.Slots).length cp0_1), (.slice Ap0_2 (p0.Marks).length cp0_2)]), (.int .i64 p1)].toArray w.W fun e W' => e = .returned (.int .i64 r) ∧ HF w W' E0 := by
  unfold F_etchhouseref9_checkMark at H
  have leB := Bs.Le.refl w
  refine Tr.enter (n := 80) Try.func86 rfl rfl rfl hE ?_
  refine Tr.seq ?_
  refine Tr.region ?_
  refine Tr.box 1 (cs := [(.int .i64 p0.W), (.int .i64 p0.H), (.int .i64 p0.Rail), (.int .i64 p0.Gap), (.slice Ap0_0 (p0.Kinds).length cp0_0), (.slice Ap0_1 (p0.Slots).length cp0_1), (.slice Ap0_2 (p0.Marks).length cp0_2)]) (wn rfl) rfl rfl rfl fun b100 => ?_
  refine Tr.val (wn rfl) rfl (fun _ _ h1 h2 => run_assign (h1.ev rfl)) ?_
  refine Tr.nil (Tr.normThen ?_)
  refine Tr.seq ?_
  refine Tr.region ?_
  refine Tr.val (wn rfl) rfl (fun _ _ h1 h2 => run_fieldAddr fo_26_6 (h1.ev rfl)) ?_
  refine Tr.val (wn rfl) rfl (fun _ _ h1 h2 => run_load1 ag_24 (h1.ev rfl) (rdb h2 (vs := [(.int .i64 p0.W), (.int .i64 p0.H), (.int .i64 p0.Rail), (.int .i64 p0.Gap), (.slice Ap0_0 (p0.Kinds).length cp0_0), (.slice Ap0_1 (p0.Slots).length cp0_1), (.slice Ap0_2 (p0.Marks).length cp0_2)]) (k := 1) rfl 6) rfl) ?_
  refine Tr.val (wn rfl) rfl (fun _ _ h1 h2 => run_move (h1.ev rfl)) ?_
  obtain ⟨x101, hx101, H⟩ := bnd H
  obtain ⟨hx1010, hx1011, hx1012⟩ := idx_some hx101
  refine Tr.val (wn rfl) rfl (fun _ _ h1 h2 => run_indexAddr el_24 (h1.ev rfl) hp0_2.form (h1.ev rfl) hx1010 hx1011) ?_
  refine Tr.val (wn rfl) rfl (fun _ _ h1 h2 => run_loadN (cs := [(.int .i64 x101.X), (.int .i64 x101.Y)]) ag_32 sz_32 (h1.ev rfl) (CellsAt.take (rdF ef_TPoint hp0_2 hx1012 h2) 2) rfl) ?_
  refine Tr.alloc 2 (wn rfl) rfl ze_32 fun b102 => ?_
  refine Tr.store 2 (cs := [(.int .i64 x101.X), (.int .i64 x101.Y)]) [(.int .i64 x101.X), (.int .i64 x101.Y)] (wn rfl) rfl rfl rfl rfl sz_32 rfl rfl rfl ?_
  refine Tr.nil (Tr.normThen ?_)
  refine Tr.seq ?_
  refine Tr.seq ?_
  refine Tr.region ?_
  refine Tr.val (wn rfl) rfl (fun _ _ h1 h2 => run_fieldAddr fo_32_0 (h1.ev rfl)) ?_
  refine Tr.val (wn rfl) rfl (fun _ _ h1 h2 => run_load1 ag_3 (h1.ev rfl) (rdb h2 (vs := [(.int .i64 x101.X), (.int .i64 x101.Y)]) (k := 2) rfl 0) rfl) ?_
  refine Tr.val (wn rfl) rfl (fun _ _ h1 h2 => run_fieldAddr fo_26_0 (h1.ev rfl)) ?_
  refine Tr.val (wn rfl) rfl (fun _ _ h1 h2 => run_load1 ag_3 (h1.ev rfl) (rdb h2 (vs := [(.int .i64 p0.W), (.int .i64 p0.H), (.int .i64 p0.Rail), (.int .i64 p0.Gap), (.slice Ap0_0 (p0.Kinds).length cp0_0), (.slice Ap0_1 (p0.Slots).length cp0_1), (.slice Ap0_2 (p0.Marks).length cp0_2)]) (k := 1) rfl 0) rfl) ?_
  obtain ⟨y103, hy103, H⟩ := bnd H
  refine Tr.call0 (r := (.bool y103)) (wn rfl) rfl Try.call49 (evl_cons rfl (evl_cons rfl (evl_cons rfl evl_nil))) (fun W hW => F_etchhouseref9_within_ok x101.X 0 p0.W y103 hy103 (HF.start _)) ?_
  refine Tr.val (wn rfl) rfl (fun _ _ h1 h2 => run_not (h1.ev rfl)) ?_
  refine Tr.val (wn rfl) rfl (fun _ _ h1 h2 => run_move (h1.ev rfl)) ?_
  obtain ⟨g105, hg105, H⟩ := bnd H
  refine Tr.mid0 7 [(1, (.int .i64 p1)), (2, (.pointer (some ⟨b100, 0, none⟩))), (5, (.pointer (some ⟨b102, 0, none⟩))), (27, (.bool g105))] [(1, bx b100 #[(.int .i64 p0.W), (.int .i64 p0.H), (.int .i64 p0.Rail), (.int .i64 p0.Gap), (.slice Ap0_0 (p0.Kinds).length cp0_0), (.slice Ap0_1 (p0.Slots).length cp0_1), (.slice Ap0_2 (p0.Marks).length cp0_2)] 26), (2, bx b102 #[(.int .i64 x101.X), (.int .i64 x101.Y)] 32)] ?_ ?_
  · cases hg126 : (!y103)
    · rw [hg126] at hg105
      rw [if_neg (by decide)] at hg105
      have H := hg105
      refine Tr.val (wg rfl rfl rfl) rfl (fun _ _ h1 h2 => run_fieldAddr fo_32_1 (h1.ev rfl)) ?_
      refine Tr.val (wg rfl rfl rfl) rfl (fun _ _ h1 h2 => run_load1 ag_3 (h1.ev rfl) (rdb h2 (vs := [(.int .i64 x101.X), (.int .i64 x101.Y)]) (k := 2) rfl 1) rfl) ?_
      refine Tr.val (wg rfl rfl rfl) rfl (fun _ _ h1 h2 => run_fieldAddr fo_26_1 (h1.ev rfl)) ?_
      refine Tr.val (wg rfl rfl rfl) rfl (fun _ _ h1 h2 => run_load1 ag_3 (h1.ev rfl) (rdb h2 (vs := [(.int .i64 p0.W), (.int .i64 p0.H), (.int .i64 p0.Rail), (.int .i64 p0.Gap), (.slice Ap0_0 (p0.Kinds).length cp0_0), (.slice Ap0_1 (p0.Slots).length cp0_1), (.slice Ap0_2 (p0.Marks).length cp0_2)]) (k := 1) rfl 1) rfl) ?_
      obtain ⟨y106, hy106, H⟩ := bnd H
      refine Tr.call0 (r := (.bool y106)) (wg rfl rfl rfl) rfl Try.call49 (evl_cons rfl (evl_cons rfl (evl_cons rfl evl_nil))) (fun W hW => F_etchhouseref9_within_ok x101.Y 0 p0.H y106 hy106 (HF.start _)) ?_
      refine Tr.val (wg rfl rfl rfl) rfl (fun _ _ h1 h2 => run_not (h1.ev rfl)) ?_
      refine Tr.val (wn rfl) rfl (fun _ _ h1 h2 => run_pickF (h1.ev rfl) (h1.ev rfl)) ?_
      obtain rfl := Option.some.inj H
      exact Tr.nil (Tr.fin0 (.cons rfl (.cons rfl (.cons rfl (.cons rfl .nil)))) (.cons rfl (.cons rfl .nil)))
    · rw [hg126] at hg105
      rw [if_pos rfl] at hg105
      have H := hg105
      obtain rfl := Option.some.inj H
      refine Tr.pass rfl rfl rfl rfl rfl (by decide) ?_
      refine Tr.pass rfl rfl rfl rfl rfl (by decide) ?_
      refine Tr.pass rfl rfl rfl rfl rfl (by decide) ?_
      refine Tr.pass rfl rfl rfl rfl rfl (by decide) ?_
      refine Tr.pass rfl rfl rfl rfl rfl (by decide) ?_
      refine Tr.pass rfl rfl rfl rfl rfl (by decide) ?_
      refine Tr.val (wn rfl) rfl (fun _ _ h1 h2 => run_pickT (h1.ev rfl) (h1.ev rfl)) ?_
      exact Tr.nil (Tr.fin0 (.cons rfl (.cons rfl (.cons rfl (.cons rfl .nil)))) (.cons rfl (.cons rfl .nil)))
  · show Tr _ _ (LF [(1, (.int .i64 p1)), (2, (.pointer (some ⟨b100, 0, none⟩))), (5, (.pointer (some ⟨b102, 0, none⟩))), (27, (.bool g105))]) (LE [(1, bx b100 #[(.int .i64 p0.W), (.int .i64 p0.H), (.int .i64 p0.Rail), (.int .i64 p0.Gap), (.slice Ap0_0 (p0.Kinds).length cp0_0), (.slice Ap0_1 (p0.Slots).length cp0_1), (.slice Ap0_2 (p0.Marks).length cp0_2)] 26), (2, bx b102 #[(.int .i64 x101.X), (.int .i64 x101.Y)] 32)]) _
    refine Tr.nil (Tr.normThen ?_)
    refine Tr.cond rfl H (fun H => ?_) (fun H => ?_)
    · refine Tr.seq ?_
      refine Tr.region ?_
      refine Tr.val (wn rfl) rfl (fun _ _ h1 h2 => run_assign (h1.ev rfl)) ?_
      refine Tr.nil (Tr.normThen ?_)
      refine Tr.ret (Tr.retThen ?_)
      obtain rfl := Option.some.inj H
      exact Tr.out (m := [(.int .i64 1)]) [] (res_tmp rfl res_nil) (fun W hW => ⟨rfl, hW.low leB⟩)
    · refine Tr.skip (Tr.normThen ?_)
      refine Tr.seq ?_
      refine Tr.seq ?_
      refine Tr.region ?_
      refine Tr.val (wn rfl) rfl (fun _ _ h1 h2 => run_assign (h1.ev rfl)) ?_
      refine Tr.nil (Tr.normThen ?_)
      refine Tr.block ?_
      refine Tr.loop (σ := Int) (fun m w s => F_etchhouseref9_checkMark_L1 N p0 p1 x101 m s = some r) (fun s => [(1, (.int .i64 p1)), (2, (.pointer (some ⟨b100, 0, none⟩))), (5, (.pointer (some ⟨b102, 0, none⟩))), (6, (.int .i64 s))]) (fun s => [(1, bx b100 #[(.int .i64 p0.W), (.int .i64 p0.H), (.int .i64 p0.Rail), (.int .i64 p0.Gap), (.slice Ap0_0 (p0.Kinds).length cp0_0), (.slice Ap0_1 (p0.Slots).length cp0_1), (.slice Ap0_2 (p0.Marks).length cp0_2)] 26), (2, bx b102 #[(.int .i64 x101.X), (.int .i64 x101.Y)] 32)]) N 0 H (.cons rfl (.cons rfl (.cons rfl (.cons rfl .nil)))) (.cons rfl (.cons rfl .nil)) (fun _ _ h => noSome (h)) ?_
      intro w leF_etchhouseref9_checkMark_L1 mF_etchhouseref9_checkMark_L1 x116 hs
      have H := hs
      replace H : F_etchhouseref9_checkMark_L1 N p0 p1 x101 (mF_etchhouseref9_checkMark_L1 + 1) x116 = some r := H
      replace hp0_0 := hp0_0.leR leF_etchhouseref9_checkMark_L1
      replace hp0_1 := hp0_1.leR leF_etchhouseref9_checkMark_L1
      replace hp0_2 := hp0_2.leR leF_etchhouseref9_checkMark_L1
      replace leB := leB.trans leF_etchhouseref9_checkMark_L1
      rw [F_etchhouseref9_checkMark_L1.eq_2] at H
      show Tr _ _ (LF [(1, (.int .i64 p1)), (2, (.pointer (some ⟨b100, 0, none⟩))), (5, (.pointer (some ⟨b102, 0, none⟩))), (6, (.int .i64 x116))]) (LE [(1, bx b100 #[(.int .i64 p0.W), (.int .i64 p0.H), (.int .i64 p0.Rail), (.int .i64 p0.Gap), (.slice Ap0_0 (p0.Kinds).length cp0_0), (.slice Ap0_1 (p0.Slots).length cp0_1), (.slice Ap0_2 (p0.Marks).length cp0_2)] 26), (2, bx b102 #[(.int .i64 x101.X), (.int .i64 x101.Y)] 32)]) _
      refine Tr.seq ?_
      refine Tr.seq ?_
      refine Tr.region ?_
      refine Tr.val (wn rfl) rfl (fun _ _ h1 h2 => run_move (h1.ev rfl)) ?_
      refine Tr.val (wn rfl) rfl (fun _ _ h1 h2 => run_fieldAddr fo_26_5 (h1.ev rfl)) ?_
      refine Tr.val (wn rfl) rfl (fun _ _ h1 h2 => run_load1 ag_23 (h1.ev rfl) (rdb h2 (vs := [(.int .i64 p0.W), (.int .i64 p0.H), (.int .i64 p0.Rail), (.int .i64 p0.Gap), (.slice Ap0_0 (p0.Kinds).length cp0_0), (.slice Ap0_1 (p0.Slots).length cp0_1), (.slice Ap0_2 (p0.Marks).length cp0_2)]) (k := 1) rfl 5) rfl) ?_
      refine Tr.val (wn rfl) rfl (fun _ _ h1 h2 => run_len un_23 (h1.ev rfl)) ?_
      refine Tr.val (wn rfl) rfl (fun _ _ h1 h2 => run_lss (h1.ev rfl) (h1.ev rfl)) ?_
      refine Tr.nil (Tr.normThen ?_)
      refine Tr.cond rfl H (fun H => ?_) (fun H => ?_)
      · refine Tr.skip (Tr.normThen ?_)
        refine Tr.seq ?_
        refine Tr.block ?_
        refine Tr.seq ?_
        obtain ⟨x118, hx118, H⟩ := bnd H
        obtain ⟨hx1180, hx1181, hx1182⟩ := idx_some hx118
        obtain ⟨y119, hy119, H⟩ := bnd H
        refine Tr.drawF 8 [(7, .makeFunc (.func 0) #[] #[])] [(7, ⟨7, 5, (.func (.func 0) #[] #[]), fun b => .pointer (some ⟨b, 0, none⟩), fun b => bx b #[(.int .i64 0), (.int .i64 0), (.int .i64 0), (.int .i64 0)] 42⟩)] [(1, (.int .i64 p1)), (2, (.pointer (some ⟨b100, 0, none⟩))), (5, (.pointer (some ⟨b102, 0, none⟩))), (6, (.int .i64 x116)), (7, (.func (.func 0) #[] #[])), (28, (.int .i64 x116)), (29, (.pointer (some ⟨b100, 5, none⟩))), (30, (.slice Ap0_1 (p0.Slots).length cp0_1)), (31, (.int .i64 (p0.Slots.length : Int))), (32, (.bool (decide (x116 < (p0.Slots.length : Int))))), (35, (.agg #[(.int .i64 p0.W), (.int .i64 p0.H), (.int .i64 p0.Rail), (.int .i64 p0.Gap), (.slice Ap0_0 (p0.Kinds).length cp0_0), (.slice Ap0_1 (p0.Slots).length cp0_1), (.slice Ap0_2 (p0.Marks).length cp0_2)])), (36, (.pointer (some ⟨b100, 5, none⟩))), (37, (.slice Ap0_1 (p0.Slots).length cp0_1)), (38, (.int .i64 x116)), (39, (.pointer (some ⟨adB Ap0_1, adO Ap0_1 + (x116).toNat * 4, none⟩))), (40, (.agg #[(.string x118.Board), (.int .i64 x118.Quarters), (.int .i64 x118.At.X), (.int .i64 x118.At.Y)])), (41, (.agg #[(.int .i64 y119.X0), (.int .i64 y119.Y0), (.int .i64 y119.X1), (.int .i64 y119.Y1)]))] (by kernel_rfl) (by kernel_rfl) (by kernel_rfl) (by kernel_rfl) (by kernel_rfl) (by kernel_rfl) (by kernel_rfl) (fall_cons (fr_alloc rfl rfl ze_42) fall_nil) (fall_cons rfl fall_nil) (fall_cons rfl fall_nil) ?_ ?_
        · refine Tq.val (wn rfl) rfl (fun _ _ h1 h2 => run_loadN (cs := [(.int .i64 p0.W), (.int .i64 p0.H), (.int .i64 p0.Rail), (.int .i64 p0.Gap), (.slice Ap0_0 (p0.Kinds).length cp0_0), (.slice Ap0_1 (p0.Slots).length cp0_1), (.slice Ap0_2 (p0.Marks).length cp0_2)]) ag_26 sz_26 (h1.ev rfl) (CellsAt.take (rdb h2 (vs := [(.int .i64 p0.W), (.int .i64 p0.H), (.int .i64 p0.Rail), (.int .i64 p0.Gap), (.slice Ap0_0 (p0.Kinds).length cp0_0), (.slice Ap0_1 (p0.Slots).length cp0_1), (.slice Ap0_2 (p0.Marks).length cp0_2)]) (k := 1) rfl 0) 7) rfl) ?_
          refine Tq.val (wn rfl) rfl (fun _ _ h1 h2 => run_fieldAddr fo_26_5 (h1.ev rfl)) ?_
          refine Tq.val (wn rfl) rfl (fun _ _ h1 h2 => run_load1 ag_23 (h1.ev rfl) (rdb h2 (vs := [(.int .i64 p0.W), (.int .i64 p0.H), (.int .i64 p0.Rail), (.int .i64 p0.Gap), (.slice Ap0_0 (p0.Kinds).length cp0_0), (.slice Ap0_1 (p0.Slots).length cp0_1), (.slice Ap0_2 (p0.Marks).length cp0_2)]) (k := 1) rfl 5) rfl) ?_
          refine Tq.val (wn rfl) rfl (fun _ _ h1 h2 => run_move (h1.ev rfl)) ?_
          refine Tq.val (wn rfl) rfl (fun _ _ h1 h2 => run_indexAddr el_23 (h1.ev rfl) hp0_1.form (h1.ev rfl) hx1180 hx1181) ?_
          refine Tq.val (wn rfl) rfl (fun _ _ h1 h2 => run_loadN (cs := [(.string x118.Board), (.int .i64 x118.Quarters), (.int .i64 x118.At.X), (.int .i64 x118.At.Y)]) ag_34 sz_34 (h1.ev rfl) (CellsAt.take (rdF ef_TSlot hp0_1 hx1182 h2) 4) rfl) ?_
          refine Tq.call0 (r := (.agg #[(.int .i64 y119.X0), (.int .i64 y119.Y0), (.int .i64 y119.X1), (.int .i64 y119.Y1)])) (wn rfl) rfl Try.call50 (evl_cons rfl (evl_cons rfl evl_nil)) (fun W hW => F_etchhouseref9_cellOf_ok N p0 Ap0_0 cp0_0 (hp0_0.ext hW.extAll) Ap0_1 cp0_1 (hp0_1.ext hW.extAll) Ap0_2 cp0_2 (hp0_2.ext hW.extAll) x118 y119 hy119 (HF.start _)) ?_
          refine Tq.mkFunc (vs := []) (wn rfl) rfl evl_nil ?_
          exact Tq.fin (.cons rfl (.cons rfl (.cons rfl (.cons rfl (.cons rfl (.cons rfl (.cons rfl (.cons rfl (.cons rfl (.cons rfl (.cons rfl (.cons rfl (.cons rfl (.cons rfl (.cons rfl (.cons rfl (.cons rfl .nil)))))))))))))))))
        · intro bs117
          refine Tr.sel (lf := [(1, (.int .i64 p1)), (2, (.pointer (some ⟨b100, 0, none⟩))), (5, (.pointer (some ⟨b102, 0, none⟩))), (6, (.int .i64 x116)), (7, (.pointer (some ⟨(bs117 7), 0, none⟩))), (41, (.agg #[(.int .i64 y119.X0), (.int .i64 y119.Y0), (.int .i64 y119.X1), (.int .i64 y119.Y1)]))]) (le := [(1, bx b100 #[(.int .i64 p0.W), (.int .i64 p0.H), (.int .i64 p0.Rail), (.int .i64 p0.Gap), (.slice Ap0_0 (p0.Kinds).length cp0_0), (.slice Ap0_1 (p0.Slots).length cp0_1), (.slice Ap0_2 (p0.Marks).length cp0_2)] 26), (2, bx b102 #[(.int .i64 x101.X), (.int .i64 x101.Y)] 32), (5, bx (bs117 7) #[(.int .i64 0), (.int .i64 0), (.int .i64 0), (.int .i64 0)] 42)]) (.cons rfl (.cons rfl (.cons rfl (.cons rfl (.cons rfl (.cons rfl .nil)))))) (.cons rfl (.cons rfl (.cons rfl .nil))) ?_
          refine Tr.store 5 (cs := [(.int .i64 y119.X0), (.int .i64 y119.Y0), (.int .i64 y119.X1), (.int .i64 y119.Y1)]) [(.int .i64 y119.X0), (.int .i64 y119.Y0), (.int .i64 y119.X1), (.int .i64 y119.Y1)] (wn rfl) rfl rfl rfl rfl sz_42 rfl rfl rfl ?_
          refine Tr.nil (Tr.normThen ?_)
          refine Tr.seq ?_
          refine Tr.region ?_
          refine Tr.val (wn rfl) rfl (fun _ _ h1 h2 => run_fieldAddr fo_42_0 (h1.ev rfl)) ?_
          refine Tr.val (wn rfl) rfl (fun _ _ h1 h2 => run_load1 ag_3 (h1.ev rfl) (rdb h2 (vs := [(.int .i64 y119.X0), (.int .i64 y119.Y0), (.int .i64 y119.X1), (.int .i64 y119.Y1)]) (k := 5) rfl 0) rfl) ?_
          refine Tr.val (wn rfl) rfl (fun _ _ h1 h2 => run_fieldAddr fo_32_0 (h1.ev rfl)) ?_
          refine Tr.val (wn rfl) rfl (fun _ _ h1 h2 => run_load1 ag_3 (h1.ev rfl) (rdb h2 (vs := [(.int .i64 x101.X), (.int .i64 x101.Y)]) (k := 2) rfl 0) rfl) ?_
          refine Tr.val (wn rfl) rfl (fun _ _ h1 h2 => run_lss (h1.ev rfl) (h1.ev rfl)) ?_
          refine Tr.val (wn rfl) rfl (fun _ _ h1 h2 => run_move (h1.ev rfl)) ?_
          refine Tr.mid0 6 [(1, (.int .i64 p1)), (2, (.pointer (some ⟨b100, 0, none⟩))), (5, (.pointer (some ⟨b102, 0, none⟩))), (6, (.int .i64 x116)), (7, (.pointer (some ⟨(bs117 7), 0, none⟩))), (53, (.bool ((decide (y119.X0 < x101.X)) && (decide (x101.X < y119.X1)))))] [(1, bx b100 #[(.int .i64 p0.W), (.int .i64 p0.H), (.int .i64 p0.Rail), (.int .i64 p0.Gap), (.slice Ap0_0 (p0.Kinds).length cp0_0), (.slice Ap0_1 (p0.Slots).length cp0_1), (.slice Ap0_2 (p0.Marks).length cp0_2)] 26), (2, bx b102 #[(.int .i64 x101.X), (.int .i64 x101.Y)] 32), (5, bx (bs117 7) #[(.int .i64 y119.X0), (.int .i64 y119.Y0), (.int .i64 y119.X1), (.int .i64 y119.Y1)] 42)] ?_ ?_
          · cases hg119 : (decide (y119.X0 < x101.X))
            · refine Tr.pass rfl rfl rfl rfl rfl (by decide) ?_
              refine Tr.pass rfl rfl rfl rfl rfl (by decide) ?_
              refine Tr.pass rfl rfl rfl rfl rfl (by decide) ?_
              refine Tr.pass rfl rfl rfl rfl rfl (by decide) ?_
              refine Tr.pass rfl rfl rfl rfl rfl (by decide) ?_
              refine Tr.val (wn rfl) rfl (fun _ _ h1 h2 => run_pickF (h1.ev rfl) (h1.ev rfl)) ?_
              exact Tr.nil (Tr.fin0 (.cons rfl (.cons rfl (.cons rfl (.cons rfl (.cons rfl (.cons rfl .nil)))))) (.cons rfl (.cons rfl (.cons rfl .nil))))
            · refine Tr.val (wg rfl rfl rfl) rfl (fun _ _ h1 h2 => run_fieldAddr fo_32_0 (h1.ev rfl)) ?_
              refine Tr.val (wg rfl rfl rfl) rfl (fun _ _ h1 h2 => run_load1 ag_3 (h1.ev rfl) (rdb h2 (vs := [(.int .i64 x101.X), (.int .i64 x101.Y)]) (k := 2) rfl 0) rfl) ?_
              refine Tr.val (wg rfl rfl rfl) rfl (fun _ _ h1 h2 => run_fieldAddr fo_42_2 (h1.ev rfl)) ?_
              refine Tr.val (wg rfl rfl rfl) rfl (fun _ _ h1 h2 => run_load1 ag_3 (h1.ev rfl) (rdb h2 (vs := [(.int .i64 y119.X0), (.int .i64 y119.Y0), (.int .i64 y119.X1), (.int .i64 y119.Y1)]) (k := 5) rfl 2) rfl) ?_
              refine Tr.val (wg rfl rfl rfl) rfl (fun _ _ h1 h2 => run_lss (h1.ev rfl) (h1.ev rfl)) ?_
              refine Tr.val (wn rfl) rfl (fun _ _ h1 h2 => run_pickT (h1.ev rfl) (h1.ev rfl)) ?_
              exact Tr.nil (Tr.fin0 (.cons rfl (.cons rfl (.cons rfl (.cons rfl (.cons rfl (.cons rfl .nil)))))) (.cons rfl (.cons rfl (.cons rfl .nil))))
          · show Tr _ _ (LF [(1, (.int .i64 p1)), (2, (.pointer (some ⟨b100, 0, none⟩))), (5, (.pointer (some ⟨b102, 0, none⟩))), (6, (.int .i64 x116)), (7, (.pointer (some ⟨(bs117 7), 0, none⟩))), (53, (.bool ((decide (y119.X0 < x101.X)) && (decide (x101.X < y119.X1)))))]) (LE [(1, bx b100 #[(.int .i64 p0.W), (.int .i64 p0.H), (.int .i64 p0.Rail), (.int .i64 p0.Gap), (.slice Ap0_0 (p0.Kinds).length cp0_0), (.slice Ap0_1 (p0.Slots).length cp0_1), (.slice Ap0_2 (p0.Marks).length cp0_2)] 26), (2, bx b102 #[(.int .i64 x101.X), (.int .i64 x101.Y)] 32), (5, bx (bs117 7) #[(.int .i64 y119.X0), (.int .i64 y119.Y0), (.int .i64 y119.X1), (.int .i64 y119.Y1)] 42)]) _
            refine Tr.val (wn rfl) rfl (fun _ _ h1 h2 => run_move (h1.ev rfl)) ?_
            refine Tr.mid0 6 [(1, (.int .i64 p1)), (2, (.pointer (some ⟨b100, 0, none⟩))), (5, (.pointer (some ⟨b102, 0, none⟩))), (6, (.int .i64 x116)), (7, (.pointer (some ⟨(bs117 7), 0, none⟩))), (60, (.bool (((decide (y119.X0 < x101.X)) && (decide (x101.X < y119.X1))) && (decide (y119.Y0 < x101.Y)))))] [(1, bx b100 #[(.int .i64 p0.W), (.int .i64 p0.H), (.int .i64 p0.Rail), (.int .i64 p0.Gap), (.slice Ap0_0 (p0.Kinds).length cp0_0), (.slice Ap0_1 (p0.Slots).length cp0_1), (.slice Ap0_2 (p0.Marks).length cp0_2)] 26), (2, bx b102 #[(.int .i64 x101.X), (.int .i64 x101.Y)] 32), (5, bx (bs117 7) #[(.int .i64 y119.X0), (.int .i64 y119.Y0), (.int .i64 y119.X1), (.int .i64 y119.Y1)] 42)] ?_ ?_
            · cases hg119 : ((decide (y119.X0 < x101.X)) && (decide (x101.X < y119.X1)))
              · refine Tr.pass rfl rfl rfl rfl rfl (by decide) ?_
                refine Tr.pass rfl rfl rfl rfl rfl (by decide) ?_
                refine Tr.pass rfl rfl rfl rfl rfl (by decide) ?_
                refine Tr.pass rfl rfl rfl rfl rfl (by decide) ?_
                refine Tr.pass rfl rfl rfl rfl rfl (by decide) ?_
                refine Tr.val (wn rfl) rfl (fun _ _ h1 h2 => run_pickF (h1.ev rfl) (h1.ev rfl)) ?_
                exact Tr.nil (Tr.fin0 (.cons rfl (.cons rfl (.cons rfl (.cons rfl (.cons rfl (.cons rfl .nil)))))) (.cons rfl (.cons rfl (.cons rfl .nil))))
              · refine Tr.val (wg rfl rfl rfl) rfl (fun _ _ h1 h2 => run_fieldAddr fo_42_1 (h1.ev rfl)) ?_
                refine Tr.val (wg rfl rfl rfl) rfl (fun _ _ h1 h2 => run_load1 ag_3 (h1.ev rfl) (rdb h2 (vs := [(.int .i64 y119.X0), (.int .i64 y119.Y0), (.int .i64 y119.X1), (.int .i64 y119.Y1)]) (k := 5) rfl 1) rfl) ?_
                refine Tr.val (wg rfl rfl rfl) rfl (fun _ _ h1 h2 => run_fieldAddr fo_32_1 (h1.ev rfl)) ?_
                refine Tr.val (wg rfl rfl rfl) rfl (fun _ _ h1 h2 => run_load1 ag_3 (h1.ev rfl) (rdb h2 (vs := [(.int .i64 x101.X), (.int .i64 x101.Y)]) (k := 2) rfl 1) rfl) ?_
                refine Tr.val (wg rfl rfl rfl) rfl (fun _ _ h1 h2 => run_lss (h1.ev rfl) (h1.ev rfl)) ?_
                refine Tr.val (wn rfl) rfl (fun _ _ h1 h2 => run_pickT (h1.ev rfl) (h1.ev rfl)) ?_
                exact Tr.nil (Tr.fin0 (.cons rfl (.cons rfl (.cons rfl (.cons rfl (.cons rfl (.cons rfl .nil)))))) (.cons rfl (.cons rfl (.cons rfl .nil))))
            · show Tr _ _ (LF [(1, (.int .i64 p1)), (2, (.pointer (some ⟨b100, 0, none⟩))), (5, (.pointer (some ⟨b102, 0, none⟩))), (6, (.int .i64 x116)), (7, (.pointer (some ⟨(bs117 7), 0, none⟩))), (60, (.bool (((decide (y119.X0 < x101.X)) && (decide (x101.X < y119.X1))) && (decide (y119.Y0 < x101.Y)))))]) (LE [(1, bx b100 #[(.int .i64 p0.W), (.int .i64 p0.H), (.int .i64 p0.Rail), (.int .i64 p0.Gap), (.slice Ap0_0 (p0.Kinds).length cp0_0), (.slice Ap0_1 (p0.Slots).length cp0_1), (.slice Ap0_2 (p0.Marks).length cp0_2)] 26), (2, bx b102 #[(.int .i64 x101.X), (.int .i64 x101.Y)] 32), (5, bx (bs117 7) #[(.int .i64 y119.X0), (.int .i64 y119.Y0), (.int .i64 y119.X1), (.int .i64 y119.Y1)] 42)]) _
              refine Tr.val (wn rfl) rfl (fun _ _ h1 h2 => run_move (h1.ev rfl)) ?_
              refine Tr.mid0 6 [(1, (.int .i64 p1)), (2, (.pointer (some ⟨b100, 0, none⟩))), (5, (.pointer (some ⟨b102, 0, none⟩))), (6, (.int .i64 x116)), (67, (.bool ((((decide (y119.X0 < x101.X)) && (decide (x101.X < y119.X1))) && (decide (y119.Y0 < x101.Y))) && (decide (x101.Y < y119.Y1)))))] [(1, bx b100 #[(.int .i64 p0.W), (.int .i64 p0.H), (.int .i64 p0.Rail), (.int .i64 p0.Gap), (.slice Ap0_0 (p0.Kinds).length cp0_0), (.slice Ap0_1 (p0.Slots).length cp0_1), (.slice Ap0_2 (p0.Marks).length cp0_2)] 26), (2, bx b102 #[(.int .i64 x101.X), (.int .i64 x101.Y)] 32), (5, bx (bs117 7) #[(.int .i64 y119.X0), (.int .i64 y119.Y0), (.int .i64 y119.X1), (.int .i64 y119.Y1)] 42)] ?_ ?_
              · cases hg119 : (((decide (y119.X0 < x101.X)) && (decide (x101.X < y119.X1))) && (decide (y119.Y0 < x101.Y)))
                · refine Tr.pass rfl rfl rfl rfl rfl (by decide) ?_
                  refine Tr.pass rfl rfl rfl rfl rfl (by decide) ?_
                  refine Tr.pass rfl rfl rfl rfl rfl (by decide) ?_
                  refine Tr.pass rfl rfl rfl rfl rfl (by decide) ?_
                  refine Tr.pass rfl rfl rfl rfl rfl (by decide) ?_
                  refine Tr.val (wn rfl) rfl (fun _ _ h1 h2 => run_pickF (h1.ev rfl) (h1.ev rfl)) ?_
                  exact Tr.nil (Tr.fin0 (.cons rfl (.cons rfl (.cons rfl (.cons rfl (.cons rfl .nil))))) (.cons rfl (.cons rfl (.cons rfl .nil))))
                · refine Tr.val (wg rfl rfl rfl) rfl (fun _ _ h1 h2 => run_fieldAddr fo_32_1 (h1.ev rfl)) ?_
                  refine Tr.val (wg rfl rfl rfl) rfl (fun _ _ h1 h2 => run_load1 ag_3 (h1.ev rfl) (rdb h2 (vs := [(.int .i64 x101.X), (.int .i64 x101.Y)]) (k := 2) rfl 1) rfl) ?_
                  refine Tr.val (wg rfl rfl rfl) rfl (fun _ _ h1 h2 => run_fieldAddr fo_42_3 (h1.ev rfl)) ?_
                  refine Tr.val (wg rfl rfl rfl) rfl (fun _ _ h1 h2 => run_load1 ag_3 (h1.ev rfl) (rdb h2 (vs := [(.int .i64 y119.X0), (.int .i64 y119.Y0), (.int .i64 y119.X1), (.int .i64 y119.Y1)]) (k := 5) rfl 3) rfl) ?_
                  refine Tr.val (wg rfl rfl rfl) rfl (fun _ _ h1 h2 => run_lss (h1.ev rfl) (h1.ev rfl)) ?_
                  refine Tr.val (wn rfl) rfl (fun _ _ h1 h2 => run_pickT (h1.ev rfl) (h1.ev rfl)) ?_
                  exact Tr.nil (Tr.fin0 (.cons rfl (.cons rfl (.cons rfl (.cons rfl (.cons rfl .nil))))) (.cons rfl (.cons rfl (.cons rfl .nil))))
              · show Tr _ _ (LF [(1, (.int .i64 p1)), (2, (.pointer (some ⟨b100, 0, none⟩))), (5, (.pointer (some ⟨b102, 0, none⟩))), (6, (.int .i64 x116)), (67, (.bool ((((decide (y119.X0 < x101.X)) && (decide (x101.X < y119.X1))) && (decide (y119.Y0 < x101.Y))) && (decide (x101.Y < y119.Y1)))))]) (LE [(1, bx b100 #[(.int .i64 p0.W), (.int .i64 p0.H), (.int .i64 p0.Rail), (.int .i64 p0.Gap), (.slice Ap0_0 (p0.Kinds).length cp0_0), (.slice Ap0_1 (p0.Slots).length cp0_1), (.slice Ap0_2 (p0.Marks).length cp0_2)] 26), (2, bx b102 #[(.int .i64 x101.X), (.int .i64 x101.Y)] 32), (5, bx (bs117 7) #[(.int .i64 y119.X0), (.int .i64 y119.Y0), (.int .i64 y119.X1), (.int .i64 y119.Y1)] 42)]) _
                refine Tr.nil (Tr.normThen ?_)
                refine Tr.cond rfl H (fun H => ?_) (fun H => ?_)
                · refine Tr.seq ?_
                  refine Tr.region ?_
                  refine Tr.val (wn rfl) rfl (fun _ _ h1 h2 => run_assign (h1.ev rfl)) ?_
                  refine Tr.nil (Tr.normThen ?_)
                  refine Tr.ret (Tr.retBlock (Tr.retThen (Tr.retThen (Tr.retBlock (Tr.retThen ?_)))))
                  obtain rfl := Option.some.inj H
                  exact Tr.out (m := [(.int .i64 12)]) [] (res_tmp rfl res_nil) (fun W hW => ⟨rfl, hW.low leB⟩)
                · refine Tr.skip (Tr.normBlock (Tr.normThen ?_))
                  refine Tr.region ?_
                  refine Tr.val (wn rfl) rfl (fun _ _ h1 h2 => run_move (h1.ev rfl)) ?_
                  refine Tr.val (wn rfl) rfl (fun _ _ h1 h2 => run_add (h1.ev rfl) (h1.ev rfl)) ?_
                  refine Tr.val (wn rfl) rfl (fun _ _ h1 h2 => run_assign (h1.ev rfl)) ?_
                  refine Tr.nil ?_
                  exact Tr.backThen leF_etchhouseref9_checkMark_L1 (w64 (x116 + 1)) H (.cons rfl (.cons rfl (.cons rfl (.cons rfl .nil)))) (.cons rfl (.cons rfl .nil))
      · refine Tr.exit (Tr.exitThen (Tr.exitThen (Tr.exitBlock (Tr.normThen ?_))))
        refine Tr.seq ?_
        refine Tr.seq ?_
        refine Tr.region ?_
        refine Tr.val (wn rfl) rfl (fun _ _ h1 h2 => run_assign (h1.ev rfl)) ?_
        refine Tr.nil (Tr.normThen ?_)
        refine Tr.block ?_
        refine Tr.loop (σ := Int) (fun m w s => F_etchhouseref9_checkMark_L2 p0 p1 x101 m s = some r) (fun s => [(1, (.int .i64 p1)), (2, (.pointer (some ⟨b100, 0, none⟩))), (5, (.pointer (some ⟨b102, 0, none⟩))), (8, (.int .i64 s))]) (fun s => [(1, bx b100 #[(.int .i64 p0.W), (.int .i64 p0.H), (.int .i64 p0.Rail), (.int .i64 p0.Gap), (.slice Ap0_0 (p0.Kinds).length cp0_0), (.slice Ap0_1 (p0.Slots).length cp0_1), (.slice Ap0_2 (p0.Marks).length cp0_2)] 26), (2, bx b102 #[(.int .i64 x101.X), (.int .i64 x101.Y)] 32)]) N 0 H (.cons rfl (.cons rfl (.cons rfl (.cons rfl .nil)))) (.cons rfl (.cons rfl .nil)) (fun _ _ h => noSome (h)) ?_
        intro w leF_etchhouseref9_checkMark_L2 mF_etchhouseref9_checkMark_L2 x125 hs
        have H := hs
        replace H : F_etchhouseref9_checkMark_L2 p0 p1 x101 (mF_etchhouseref9_checkMark_L2 + 1) x125 = some r := H
        replace hp0_0 := hp0_0.leR leF_etchhouseref9_checkMark_L2
        replace hp0_1 := hp0_1.leR leF_etchhouseref9_checkMark_L2
        replace hp0_2 := hp0_2.leR leF_etchhouseref9_checkMark_L2
        replace leB := leB.trans leF_etchhouseref9_checkMark_L2
        replace leF_etchhouseref9_checkMark_L1 := leF_etchhouseref9_checkMark_L1.trans leF_etchhouseref9_checkMark_L2
        rw [F_etchhouseref9_checkMark_L2.eq_2] at H
        show Tr _ _ (LF [(1, (.int .i64 p1)), (2, (.pointer (some ⟨b100, 0, none⟩))), (5, (.pointer (some ⟨b102, 0, none⟩))), (8, (.int .i64 x125))]) (LE [(1, bx b100 #[(.int .i64 p0.W), (.int .i64 p0.H), (.int .i64 p0.Rail), (.int .i64 p0.Gap), (.slice Ap0_0 (p0.Kinds).length cp0_0), (.slice Ap0_1 (p0.Slots).length cp0_1), (.slice Ap0_2 (p0.Marks).length cp0_2)] 26), (2, bx b102 #[(.int .i64 x101.X), (.int .i64 x101.Y)] 32)]) _
        refine Tr.seq ?_
        refine Tr.seq ?_
        refine Tr.region ?_
        refine Tr.val (wn rfl) rfl (fun _ _ h1 h2 => run_move (h1.ev rfl)) ?_
        refine Tr.val (wn rfl) rfl (fun _ _ h1 h2 => run_move (h1.ev rfl)) ?_
        refine Tr.val (wn rfl) rfl (fun _ _ h1 h2 => run_lss (h1.ev rfl) (h1.ev rfl)) ?_
        refine Tr.nil (Tr.normThen ?_)
        refine Tr.cond rfl H (fun H => ?_) (fun H => ?_)
        · refine Tr.skip (Tr.normThen ?_)
          refine Tr.seq ?_
          refine Tr.block ?_
          refine Tr.seq ?_
          refine Tr.draw (by kernel_rfl) (by kernel_rfl) ?_
          refine Tq.val (wn rfl) rfl (fun _ _ h1 h2 => run_fieldAddr fo_26_6 (h1.ev rfl)) ?_
          refine Tq.val (wn rfl) rfl (fun _ _ h1 h2 => run_load1 ag_24 (h1.ev rfl) (rdb h2 (vs := [(.int .i64 p0.W), (.int .i64 p0.H), (.int .i64 p0.Rail), (.int .i64 p0.Gap), (.slice Ap0_0 (p0.Kinds).length cp0_0), (.slice Ap0_1 (p0.Slots).length cp0_1), (.slice Ap0_2 (p0.Marks).length cp0_2)]) (k := 1) rfl 6) rfl) ?_
          refine Tq.val (wn rfl) rfl (fun _ _ h1 h2 => run_move (h1.ev rfl)) ?_
          obtain ⟨x126, hx126, H⟩ := bnd H
          obtain ⟨hx1260, hx1261, hx1262⟩ := idx_some hx126
          refine Tq.val (wn rfl) rfl (fun _ _ h1 h2 => run_indexAddr el_24 (h1.ev rfl) hp0_2.form (h1.ev rfl) hx1260 hx1261) ?_
          refine Tq.val (wn rfl) rfl (fun _ _ h1 h2 => run_loadN (cs := [(.int .i64 x126.X), (.int .i64 x126.Y)]) ag_32 sz_32 (h1.ev rfl) (CellsAt.take (rdF ef_TPoint hp0_2 hx1262 h2) 2) rfl) ?_
          refine Tq.val (wn rfl) rfl (fun _ _ h1 h2 => run_loadN (cs := [(.int .i64 x101.X), (.int .i64 x101.Y)]) ag_32 sz_32 (h1.ev rfl) (CellsAt.take (rdb h2 (vs := [(.int .i64 x101.X), (.int .i64 x101.Y)]) (k := 2) rfl 0) 2) rfl) ?_
          refine Tq.val (wn rfl) rfl (fun _ _ h1 h2 => run_eql_32 x126 x101 (h1.ev rfl) (h1.ev rfl)) ?_
          refine Tq.nil (Tr.normThen ?_)
          refine Tr.cond rfl H (fun H => ?_) (fun H => ?_)
          · refine Tr.seq ?_
            refine Tr.region ?_
            refine Tr.val (wn rfl) rfl (fun _ _ h1 h2 => run_assign (h1.ev rfl)) ?_
            refine Tr.nil (Tr.normThen ?_)
            refine Tr.ret (Tr.retBlock (Tr.retThen (Tr.retThen (Tr.retBlock (Tr.retThen ?_)))))
            obtain rfl := Option.some.inj H
            exact Tr.out (m := [(.int .i64 7)]) [] (res_tmp rfl res_nil) (fun W hW => ⟨rfl, hW.low leB⟩)
          · refine Tr.skip (Tr.normBlock (Tr.normThen ?_))
            refine Tr.region ?_
            refine Tr.val (wn rfl) rfl (fun _ _ h1 h2 => run_move (h1.ev rfl)) ?_
            refine Tr.val (wn rfl) rfl (fun _ _ h1 h2 => run_add (h1.ev rfl) (h1.ev rfl)) ?_
            refine Tr.val (wn rfl) rfl (fun _ _ h1 h2 => run_assign (h1.ev rfl)) ?_
            refine Tr.nil ?_
            exact Tr.backThen leF_etchhouseref9_checkMark_L2 (w64 (x125 + 1)) H (.cons rfl (.cons rfl (.cons rfl (.cons rfl .nil)))) (.cons rfl (.cons rfl .nil))
        · refine Tr.exit (Tr.exitThen (Tr.exitThen (Tr.exitBlock (Tr.normThen ?_))))
          refine Tr.seq ?_
          refine Tr.region ?_
          refine Tr.val (wn rfl) rfl (fun _ _ h1 h2 => run_assign (h1.ev rfl)) ?_
          refine Tr.nil (Tr.normThen ?_)
          refine Tr.ret ?_
          obtain rfl := Option.some.inj H
          exact Tr.out (m := [(.int .i64 0)]) [] (res_tmp rfl res_nil) (fun W hW => ⟨rfl, hW.low leB⟩)

theorem F_etchhouseref9_CheckPanel_ok (N : Nat) {w : Bs} (p0 : TPanel) (Ap0_0 : Option Addr) (cp0_0 : Nat) (hp0_0 : Sl w.R w.W fl_TBoardKind Ap0_0 cp0_0 p0.Kinds) (Ap0_1 : Option Addr) (cp0_1 : Nat) (hp0_1 : Sl w.R w.W fl_TSlot Ap0_1 cp0_1 p0.Slots) (Ap0_2 : Option Addr) (cp0_2 : Nat) (hp0_2 : Sl w.R w.W fl_TPoint Ap0_2 cp0_2 p0.Marks) (r : Int) (H : F_etchhouseref9_CheckPanel N p0 = some r) (hE : HF w w.W E0) : Calls Try.prog 39 [(.agg #[(.int .i64 p0.W), (.int .i64 p0.H), (.int .i64 p0.Rail), (.int .i64 p0.Gap), (.slice Ap0_0 (p0.Kinds).length cp0_0), (.slice Ap0_1 (p0.Slots).length cp0_1), (.slice Ap0_2 (p0.Marks).length cp0_2)])].toArray w.W fun e W' => e = .returned (.int .i64 r) ∧ HF w W' E0 := by
  unfold F_etchhouseref9_CheckPanel at H
  have leB := Bs.Le.refl w
  refine Tr.enter (n := 109) Try.func39 rfl rfl rfl hE ?_
  refine Tr.seq ?_
  refine Tr.region ?_
  refine Tr.box 1 (cs := [(.int .i64 p0.W), (.int .i64 p0.H), (.int .i64 p0.Rail), (.int .i64 p0.Gap), (.slice Ap0_0 (p0.Kinds).length cp0_0), (.slice Ap0_1 (p0.Slots).length cp0_1), (.slice Ap0_2 (p0.Marks).length cp0_2)]) (wn rfl) rfl rfl rfl fun b100 => ?_
  refine Tr.val (wn rfl) rfl (fun _ _ h1 h2 => run_assign (h1.ev rfl)) ?_
  refine Tr.nil (Tr.normThen ?_)
  refine Tr.seq ?_
  refine Tr.seq ?_
  refine Tr.region ?_
  refine Tr.val (wn rfl) rfl (fun _ _ h1 h2 => run_fieldAddr fo_26_0 (h1.ev rfl)) ?_
  refine Tr.val (wn rfl) rfl (fun _ _ h1 h2 => run_load1 ag_3 (h1.ev rfl) (rdb h2 (vs := [(.int .i64 p0.W), (.int .i64 p0.H), (.int .i64 p0.Rail), (.int .i64 p0.Gap), (.slice Ap0_0 (p0.Kinds).length cp0_0), (.slice Ap0_1 (p0.Slots).length cp0_1), (.slice Ap0_2 (p0.Marks).length cp0_2)]) (k := 1) rfl 0) rfl) ?_
  obtain ⟨y101, hy101, H⟩ := bnd H
  refine Tr.call0 (r := (.bool y101)) (wn rfl) rfl Try.call49 (evl_cons rfl (evl_cons rfl (evl_cons rfl evl_nil))) (fun W hW => F_etchhouseref9_within_ok p0.W 1 1000000 y101 hy101 (HF.start _)) ?_
  refine Tr.val (wn rfl) rfl (fun _ _ h1 h2 => run_not (h1.ev rfl)) ?_
  refine Tr.val (wn rfl) rfl (fun _ _ h1 h2 => run_move (h1.ev rfl)) ?_
  obtain ⟨g103, hg103, H⟩ := bnd H
  refine Tr.mid0 5 [(1, (.pointer (some ⟨b100, 0, none⟩))), (18, (.bool g103))] [(1, bx b100 #[(.int .i64 p0.W), (.int .i64 p0.H), (.int .i64 p0.Rail), (.int .i64 p0.Gap), (.slice Ap0_0 (p0.Kinds).length cp0_0), (.slice Ap0_1 (p0.Slots).length cp0_1), (.slice Ap0_2 (p0.Marks).length cp0_2)] 26)] ?_ ?_
  · cases hg158 : (!y101)
    · rw [hg158] at hg103
      rw [if_neg (by decide)] at hg103
      have H := hg103
      refine Tr.val (wg rfl rfl rfl) rfl (fun _ _ h1 h2 => run_fieldAddr fo_26_1 (h1.ev rfl)) ?_
      refine Tr.val (wg rfl rfl rfl) rfl (fun _ _ h1 h2 => run_load1 ag_3 (h1.ev rfl) (rdb h2 (vs := [(.int .i64 p0.W), (.int .i64 p0.H), (.int .i64 p0.Rail), (.int .i64 p0.Gap), (.slice Ap0_0 (p0.Kinds).length cp0_0), (.slice Ap0_1 (p0.Slots).length cp0_1), (.slice Ap0_2 (p0.Marks).length cp0_2)]) (k := 1) rfl 1) rfl) ?_
      obtain ⟨y104, hy104, H⟩ := bnd H
      refine Tr.call0 (r := (.bool y104)) (wg rfl rfl rfl) rfl Try.call49 (evl_cons rfl (evl_cons rfl (evl_cons rfl evl_nil))) (fun W hW => F_etchhouseref9_within_ok p0.H 1 1000000 y104 hy104 (HF.start _)) ?_
      refine Tr.val (wg rfl rfl rfl) rfl (fun _ _ h1 h2 => run_not (h1.ev rfl)) ?_
      refine Tr.val (wn rfl) rfl (fun _ _ h1 h2 => run_pickF (h1.ev rfl) (h1.ev rfl)) ?_
      obtain rfl := Option.some.inj H
      exact Tr.nil (Tr.fin0 (.cons rfl (.cons rfl .nil)) (.cons rfl .nil))
    · rw [hg158] at hg103
      rw [if_pos rfl] at hg103
      have H := hg103
      obtain rfl := Option.some.inj H
      refine Tr.pass rfl rfl rfl rfl rfl (by decide) ?_
      refine Tr.pass rfl rfl rfl rfl rfl (by decide) ?_
      refine Tr.pass rfl rfl rfl rfl rfl (by decide) ?_
      refine Tr.pass rfl rfl rfl rfl rfl (by decide) ?_
      refine Tr.val (wn rfl) rfl (fun _ _ h1 h2 => run_pickT (h1.ev rfl) (h1.ev rfl)) ?_
      exact Tr.nil (Tr.fin0 (.cons rfl (.cons rfl .nil)) (.cons rfl .nil))
  · show Tr _ _ (LF [(1, (.pointer (some ⟨b100, 0, none⟩))), (18, (.bool g103))]) (LE [(1, bx b100 #[(.int .i64 p0.W), (.int .i64 p0.H), (.int .i64 p0.Rail), (.int .i64 p0.Gap), (.slice Ap0_0 (p0.Kinds).length cp0_0), (.slice Ap0_1 (p0.Slots).length cp0_1), (.slice Ap0_2 (p0.Marks).length cp0_2)] 26)]) _
    refine Tr.val (wn rfl) rfl (fun _ _ h1 h2 => run_move (h1.ev rfl)) ?_
    obtain ⟨g106, hg106, H⟩ := bnd H
    refine Tr.mid0 5 [(1, (.pointer (some ⟨b100, 0, none⟩))), (24, (.bool g106))] [(1, bx b100 #[(.int .i64 p0.W), (.int .i64 p0.H), (.int .i64 p0.Rail), (.int .i64 p0.Gap), (.slice Ap0_0 (p0.Kinds).length cp0_0), (.slice Ap0_1 (p0.Slots).length cp0_1), (.slice Ap0_2 (p0.Marks).length cp0_2)] 26)] ?_ ?_
    · cases hg158 : g103
      · rw [hg158] at hg106
        rw [if_neg (by decide)] at hg106
        have H := hg106
        refine Tr.val (wg rfl rfl rfl) rfl (fun _ _ h1 h2 => run_fieldAddr fo_26_2 (h1.ev rfl)) ?_
        refine Tr.val (wg rfl rfl rfl) rfl (fun _ _ h1 h2 => run_load1 ag_3 (h1.ev rfl) (rdb h2 (vs := [(.int .i64 p0.W), (.int .i64 p0.H), (.int .i64 p0.Rail), (.int .i64 p0.Gap), (.slice Ap0_0 (p0.Kinds).length cp0_0), (.slice Ap0_1 (p0.Slots).length cp0_1), (.slice Ap0_2 (p0.Marks).length cp0_2)]) (k := 1) rfl 2) rfl) ?_
        obtain ⟨y107, hy107, H⟩ := bnd H
        refine Tr.call0 (r := (.bool y107)) (wg rfl rfl rfl) rfl Try.call49 (evl_cons rfl (evl_cons rfl (evl_cons rfl evl_nil))) (fun W hW => F_etchhouseref9_within_ok p0.Rail 0 1000000 y107 hy107 (HF.start _)) ?_
        refine Tr.val (wg rfl rfl rfl) rfl (fun _ _ h1 h2 => run_not (h1.ev rfl)) ?_
        refine Tr.val (wn rfl) rfl (fun _ _ h1 h2 => run_pickF (h1.ev rfl) (h1.ev rfl)) ?_
        obtain rfl := Option.some.inj H
        exact Tr.nil (Tr.fin0 (.cons rfl (.cons rfl .nil)) (.cons rfl .nil))
      · rw [hg158] at hg106
        rw [if_pos rfl] at hg106
        have H := hg106
        obtain rfl := Option.some.inj H
        refine Tr.pass rfl rfl rfl rfl rfl (by decide) ?_
        refine Tr.pass rfl rfl rfl rfl rfl (by decide) ?_
        refine Tr.pass rfl rfl rfl rfl rfl (by decide) ?_
        refine Tr.pass rfl rfl rfl rfl rfl (by decide) ?_
        refine Tr.val (wn rfl) rfl (fun _ _ h1 h2 => run_pickT (h1.ev rfl) (h1.ev rfl)) ?_
        exact Tr.nil (Tr.fin0 (.cons rfl (.cons rfl .nil)) (.cons rfl .nil))
    · show Tr _ _ (LF [(1, (.pointer (some ⟨b100, 0, none⟩))), (24, (.bool g106))]) (LE [(1, bx b100 #[(.int .i64 p0.W), (.int .i64 p0.H), (.int .i64 p0.Rail), (.int .i64 p0.Gap), (.slice Ap0_0 (p0.Kinds).length cp0_0), (.slice Ap0_1 (p0.Slots).length cp0_1), (.slice Ap0_2 (p0.Marks).length cp0_2)] 26)]) _
      refine Tr.val (wn rfl) rfl (fun _ _ h1 h2 => run_move (h1.ev rfl)) ?_
      obtain ⟨g109, hg109, H⟩ := bnd H
      refine Tr.mid0 5 [(1, (.pointer (some ⟨b100, 0, none⟩))), (30, (.bool g109))] [(1, bx b100 #[(.int .i64 p0.W), (.int .i64 p0.H), (.int .i64 p0.Rail), (.int .i64 p0.Gap), (.slice Ap0_0 (p0.Kinds).length cp0_0), (.slice Ap0_1 (p0.Slots).length cp0_1), (.slice Ap0_2 (p0.Marks).length cp0_2)] 26)] ?_ ?_
      · cases hg158 : g106
        · rw [hg158] at hg109
          rw [if_neg (by decide)] at hg109
          have H := hg109
          refine Tr.val (wg rfl rfl rfl) rfl (fun _ _ h1 h2 => run_fieldAddr fo_26_3 (h1.ev rfl)) ?_
          refine Tr.val (wg rfl rfl rfl) rfl (fun _ _ h1 h2 => run_load1 ag_3 (h1.ev rfl) (rdb h2 (vs := [(.int .i64 p0.W), (.int .i64 p0.H), (.int .i64 p0.Rail), (.int .i64 p0.Gap), (.slice Ap0_0 (p0.Kinds).length cp0_0), (.slice Ap0_1 (p0.Slots).length cp0_1), (.slice Ap0_2 (p0.Marks).length cp0_2)]) (k := 1) rfl 3) rfl) ?_
          obtain ⟨y110, hy110, H⟩ := bnd H
          refine Tr.call0 (r := (.bool y110)) (wg rfl rfl rfl) rfl Try.call49 (evl_cons rfl (evl_cons rfl (evl_cons rfl evl_nil))) (fun W hW => F_etchhouseref9_within_ok p0.Gap 0 1000000 y110 hy110 (HF.start _)) ?_
          refine Tr.val (wg rfl rfl rfl) rfl (fun _ _ h1 h2 => run_not (h1.ev rfl)) ?_
          refine Tr.val (wn rfl) rfl (fun _ _ h1 h2 => run_pickF (h1.ev rfl) (h1.ev rfl)) ?_
          obtain rfl := Option.some.inj H
          exact Tr.nil (Tr.fin0 (.cons rfl (.cons rfl .nil)) (.cons rfl .nil))
        · rw [hg158] at hg109
          rw [if_pos rfl] at hg109
          have H := hg109
          obtain rfl := Option.some.inj H
          refine Tr.pass rfl rfl rfl rfl rfl (by decide) ?_
          refine Tr.pass rfl rfl rfl rfl rfl (by decide) ?_
          refine Tr.pass rfl rfl rfl rfl rfl (by decide) ?_
          refine Tr.pass rfl rfl rfl rfl rfl (by decide) ?_
          refine Tr.val (wn rfl) rfl (fun _ _ h1 h2 => run_pickT (h1.ev rfl) (h1.ev rfl)) ?_
          exact Tr.nil (Tr.fin0 (.cons rfl (.cons rfl .nil)) (.cons rfl .nil))
      · show Tr _ _ (LF [(1, (.pointer (some ⟨b100, 0, none⟩))), (30, (.bool g109))]) (LE [(1, bx b100 #[(.int .i64 p0.W), (.int .i64 p0.H), (.int .i64 p0.Rail), (.int .i64 p0.Gap), (.slice Ap0_0 (p0.Kinds).length cp0_0), (.slice Ap0_1 (p0.Slots).length cp0_1), (.slice Ap0_2 (p0.Marks).length cp0_2)] 26)]) _
        refine Tr.nil (Tr.normThen ?_)
        refine Tr.cond rfl H (fun H => ?_) (fun H => ?_)
        · refine Tr.seq ?_
          refine Tr.region ?_
          refine Tr.val (wn rfl) rfl (fun _ _ h1 h2 => run_assign (h1.ev rfl)) ?_
          refine Tr.nil (Tr.normThen ?_)
          refine Tr.ret (Tr.retThen ?_)
          obtain rfl := Option.some.inj H
          exact Tr.out (m := [(.int .i64 1)]) [] (res_tmp rfl res_nil) (fun W hW => ⟨rfl, hW.low leB⟩)
        · refine Tr.skip (Tr.normThen ?_)
          refine Tr.seq ?_
          refine Tr.seq ?_
          refine Tr.region ?_
          refine Tr.val (wn rfl) rfl (fun _ _ h1 h2 => run_fieldAddr fo_26_4 (h1.ev rfl)) ?_
          refine Tr.val (wn rfl) rfl (fun _ _ h1 h2 => run_load1 ag_22 (h1.ev rfl) (rdb h2 (vs := [(.int .i64 p0.W), (.int .i64 p0.H), (.int .i64 p0.Rail), (.int .i64 p0.Gap), (.slice Ap0_0 (p0.Kinds).length cp0_0), (.slice Ap0_1 (p0.Slots).length cp0_1), (.slice Ap0_2 (p0.Marks).length cp0_2)]) (k := 1) rfl 4) rfl) ?_
          refine Tr.val (wn rfl) rfl (fun _ _ h1 h2 => run_len un_22 (h1.ev rfl)) ?_
          refine Tr.val (wn rfl) rfl (fun _ _ h1 h2 => run_gtr (h1.ev rfl) (h1.ev rfl)) ?_
          refine Tr.nil (Tr.normThen ?_)
          refine Tr.cond rfl H (fun H => ?_) (fun H => ?_)
          · refine Tr.seq ?_
            refine Tr.region ?_
            refine Tr.val (wn rfl) rfl (fun _ _ h1 h2 => run_assign (h1.ev rfl)) ?_
            refine Tr.nil (Tr.normThen ?_)
            refine Tr.ret (Tr.retThen ?_)
            obtain rfl := Option.some.inj H
            exact Tr.out (m := [(.int .i64 2)]) [] (res_tmp rfl res_nil) (fun W hW => ⟨rfl, hW.low leB⟩)
          · refine Tr.skip (Tr.normThen ?_)
            refine Tr.seq ?_
            refine Tr.seq ?_
            refine Tr.region ?_
            refine Tr.val (wn rfl) rfl (fun _ _ h1 h2 => run_assign (h1.ev rfl)) ?_
            refine Tr.nil (Tr.normThen ?_)
            refine Tr.block ?_
            refine Tr.loop (σ := Int) (fun m w s => F_etchhouseref9_CheckPanel_L1 N p0 m s = some r) (fun s => [(1, (.pointer (some ⟨b100, 0, none⟩))), (3, (.int .i64 s))]) (fun s => [(1, bx b100 #[(.int .i64 p0.W), (.int .i64 p0.H), (.int .i64 p0.Rail), (.int .i64 p0.Gap), (.slice Ap0_0 (p0.Kinds).length cp0_0), (.slice Ap0_1 (p0.Slots).length cp0_1), (.slice Ap0_2 (p0.Marks).length cp0_2)] 26)]) N 0 H (.cons rfl (.cons rfl .nil)) (.cons rfl .nil) (fun _ _ h => noSome (h)) ?_
            intro w leF_etchhouseref9_CheckPanel_L1 mF_etchhouseref9_CheckPanel_L1 x134 hs
            have H := hs
            replace H : F_etchhouseref9_CheckPanel_L1 N p0 (mF_etchhouseref9_CheckPanel_L1 + 1) x134 = some r := H
            replace hp0_0 := hp0_0.leR leF_etchhouseref9_CheckPanel_L1
            replace hp0_1 := hp0_1.leR leF_etchhouseref9_CheckPanel_L1
            replace hp0_2 := hp0_2.leR leF_etchhouseref9_CheckPanel_L1
            replace leB := leB.trans leF_etchhouseref9_CheckPanel_L1
            rw [F_etchhouseref9_CheckPanel_L1.eq_2] at H
            show Tr _ _ (LF [(1, (.pointer (some ⟨b100, 0, none⟩))), (3, (.int .i64 x134))]) (LE [(1, bx b100 #[(.int .i64 p0.W), (.int .i64 p0.H), (.int .i64 p0.Rail), (.int .i64 p0.Gap), (.slice Ap0_0 (p0.Kinds).length cp0_0), (.slice Ap0_1 (p0.Slots).length cp0_1), (.slice Ap0_2 (p0.Marks).length cp0_2)] 26)]) _
            refine Tr.seq ?_
            refine Tr.seq ?_
            refine Tr.region ?_
            refine Tr.val (wn rfl) rfl (fun _ _ h1 h2 => run_move (h1.ev rfl)) ?_
            refine Tr.val (wn rfl) rfl (fun _ _ h1 h2 => run_fieldAddr fo_26_4 (h1.ev rfl)) ?_
            refine Tr.val (wn rfl) rfl (fun _ _ h1 h2 => run_load1 ag_22 (h1.ev rfl) (rdb h2 (vs := [(.int .i64 p0.W), (.int .i64 p0.H), (.int .i64 p0.Rail), (.int .i64 p0.Gap), (.slice Ap0_0 (p0.Kinds).length cp0_0), (.slice Ap0_1 (p0.Slots).length cp0_1), (.slice Ap0_2 (p0.Marks).length cp0_2)]) (k := 1) rfl 4) rfl) ?_
            refine Tr.val (wn rfl) rfl (fun _ _ h1 h2 => run_len un_22 (h1.ev rfl)) ?_
            refine Tr.val (wn rfl) rfl (fun _ _ h1 h2 => run_lss (h1.ev rfl) (h1.ev rfl)) ?_
            refine Tr.nil (Tr.normThen ?_)
            refine Tr.cond rfl H (fun H => ?_) (fun H => ?_)
            · refine Tr.skip (Tr.normThen ?_)
              refine Tr.seq ?_
              refine Tr.block ?_
              refine Tr.seq ?_
              refine Tr.region ?_
              refine Tr.val (wn rfl) rfl (fun _ _ h1 h2 => run_fieldAddr fo_26_4 (h1.ev rfl)) ?_
              refine Tr.val (wn rfl) rfl (fun _ _ h1 h2 => run_load1 ag_22 (h1.ev rfl) (rdb h2 (vs := [(.int .i64 p0.W), (.int .i64 p0.H), (.int .i64 p0.Rail), (.int .i64 p0.Gap), (.slice Ap0_0 (p0.Kinds).length cp0_0), (.slice Ap0_1 (p0.Slots).length cp0_1), (.slice Ap0_2 (p0.Marks).length cp0_2)]) (k := 1) rfl 4) rfl) ?_
              refine Tr.val (wn rfl) rfl (fun _ _ h1 h2 => run_move (h1.ev rfl)) ?_
              obtain ⟨x135, hx135, H⟩ := bnd H
              obtain ⟨hx1350, hx1351, hx1352⟩ := idx_some hx135
              refine Tr.val (wn rfl) rfl (fun _ _ h1 h2 => run_indexAddr el_22 (h1.ev rfl) hp0_0.form (h1.ev rfl) hx1350 hx1351) ?_
              refine Tr.val (wn rfl) rfl (fun _ _ h1 h2 => run_loadN (cs := [(.string x135.Name), (.int .i64 x135.W), (.int .i64 x135.H)]) ag_82 sz_82 (h1.ev rfl) (CellsAt.take (rdF ef_TBoardKind hp0_0 hx1352 h2) 3) rfl) ?_
              refine Tr.alloc 4 (wn rfl) rfl ze_82 fun b136 => ?_
              refine Tr.store 4 (cs := [(.string x135.Name), (.int .i64 x135.W), (.int .i64 x135.H)]) [(.string x135.Name), (.int .i64 x135.W), (.int .i64 x135.H)] (wn rfl) rfl rfl rfl rfl sz_82 rfl rfl rfl ?_
              refine Tr.nil (Tr.normThen ?_)
              refine Tr.seq ?_
              refine Tr.seq ?_
              refine Tr.region ?_
              refine Tr.val (wn rfl) rfl (fun _ _ h1 h2 => run_fieldAddr fo_82_0 (h1.ev rfl)) ?_
              refine Tr.val (wn rfl) rfl (fun _ _ h1 h2 => run_load1 ag_9 (h1.ev rfl) (rdb h2 (vs := [(.string x135.Name), (.int .i64 x135.W), (.int .i64 x135.H)]) (k := 4) rfl 0) rfl) ?_
              obtain ⟨y137, hy137, H⟩ := bnd H
              refine Tr.call0 (r := (.bool y137)) (wn rfl) rfl Try.call84 (evl_cons rfl evl_nil) (fun W hW => F_etchhouseref3_IsName_ok N x135.Name y137 hy137 (HF.start _)) ?_
              refine Tr.val (wn rfl) rfl (fun _ _ h1 h2 => run_not (h1.ev rfl)) ?_
              refine Tr.nil (Tr.normThen ?_)
              refine Tr.cond rfl H (fun H => ?_) (fun H => ?_)
              · refine Tr.seq ?_
                refine Tr.region ?_
                refine Tr.val (wn rfl) rfl (fun _ _ h1 h2 => run_assign (h1.ev rfl)) ?_
                refine Tr.nil (Tr.normThen ?_)
                refine Tr.ret (Tr.retThen (Tr.retBlock (Tr.retThen (Tr.retThen (Tr.retBlock (Tr.retThen ?_))))))
                obtain rfl := Option.some.inj H
                exact Tr.out (m := [(.int .i64 5)]) [] (res_tmp rfl res_nil) (fun W hW => ⟨rfl, hW.low leB⟩)
              · refine Tr.skip (Tr.normThen ?_)
                refine Tr.seq ?_
                refine Tr.seq ?_
                refine Tr.region ?_
                refine Tr.val (wn rfl) rfl (fun _ _ h1 h2 => run_fieldAddr fo_82_1 (h1.ev rfl)) ?_
                refine Tr.val (wn rfl) rfl (fun _ _ h1 h2 => run_load1 ag_3 (h1.ev rfl) (rdb h2 (vs := [(.string x135.Name), (.int .i64 x135.W), (.int .i64 x135.H)]) (k := 4) rfl 1) rfl) ?_
                obtain ⟨y138, hy138, H⟩ := bnd H
                refine Tr.call0 (r := (.bool y138)) (wn rfl) rfl Try.call49 (evl_cons rfl (evl_cons rfl (evl_cons rfl evl_nil))) (fun W hW => F_etchhouseref9_within_ok x135.W 1 1000000 y138 hy138 (HF.start _)) ?_
                refine Tr.val (wn rfl) rfl (fun _ _ h1 h2 => run_not (h1.ev rfl)) ?_
                refine Tr.val (wn rfl) rfl (fun _ _ h1 h2 => run_move (h1.ev rfl)) ?_
                obtain ⟨g140, hg140, H⟩ := bnd H
                refine Tr.mid0 5 [(1, (.pointer (some ⟨b100, 0, none⟩))), (3, (.int .i64 x134)), (4, (.pointer (some ⟨b136, 0, none⟩))), (60, (.bool g140))] [(1, bx b100 #[(.int .i64 p0.W), (.int .i64 p0.H), (.int .i64 p0.Rail), (.int .i64 p0.Gap), (.slice Ap0_0 (p0.Kinds).length cp0_0), (.slice Ap0_1 (p0.Slots).length cp0_1), (.slice Ap0_2 (p0.Marks).length cp0_2)] 26), (4, bx b136 #[(.string x135.Name), (.int .i64 x135.W), (.int .i64 x135.H)] 82)] ?_ ?_
                · cases hg144 : (!y138)
                  · rw [hg144] at hg140
                    rw [if_neg (by decide)] at hg140
                    have H := hg140
                    refine Tr.val (wg rfl rfl rfl) rfl (fun _ _ h1 h2 => run_fieldAddr fo_82_2 (h1.ev rfl)) ?_
                    refine Tr.val (wg rfl rfl rfl) rfl (fun _ _ h1 h2 => run_load1 ag_3 (h1.ev rfl) (rdb h2 (vs := [(.string x135.Name), (.int .i64 x135.W), (.int .i64 x135.H)]) (k := 4) rfl 2) rfl) ?_
                    obtain ⟨y141, hy141, H⟩ := bnd H
                    refine Tr.call0 (r := (.bool y141)) (wg rfl rfl rfl) rfl Try.call49 (evl_cons rfl (evl_cons rfl (evl_cons rfl evl_nil))) (fun W hW => F_etchhouseref9_within_ok x135.H 1 1000000 y141 hy141 (HF.start _)) ?_
                    refine Tr.val (wg rfl rfl rfl) rfl (fun _ _ h1 h2 => run_not (h1.ev rfl)) ?_
                    refine Tr.val (wn rfl) rfl (fun _ _ h1 h2 => run_pickF (h1.ev rfl) (h1.ev rfl)) ?_
                    obtain rfl := Option.some.inj H
                    exact Tr.nil (Tr.fin0 (.cons rfl (.cons rfl (.cons rfl (.cons rfl .nil)))) (.cons rfl (.cons rfl .nil)))
                  · rw [hg144] at hg140
                    rw [if_pos rfl] at hg140
                    have H := hg140
                    obtain rfl := Option.some.inj H
                    refine Tr.pass rfl rfl rfl rfl rfl (by decide) ?_
                    refine Tr.pass rfl rfl rfl rfl rfl (by decide) ?_
                    refine Tr.pass rfl rfl rfl rfl rfl (by decide) ?_
                    refine Tr.pass rfl rfl rfl rfl rfl (by decide) ?_
                    refine Tr.val (wn rfl) rfl (fun _ _ h1 h2 => run_pickT (h1.ev rfl) (h1.ev rfl)) ?_
                    exact Tr.nil (Tr.fin0 (.cons rfl (.cons rfl (.cons rfl (.cons rfl .nil)))) (.cons rfl (.cons rfl .nil)))
                · show Tr _ _ (LF [(1, (.pointer (some ⟨b100, 0, none⟩))), (3, (.int .i64 x134)), (4, (.pointer (some ⟨b136, 0, none⟩))), (60, (.bool g140))]) (LE [(1, bx b100 #[(.int .i64 p0.W), (.int .i64 p0.H), (.int .i64 p0.Rail), (.int .i64 p0.Gap), (.slice Ap0_0 (p0.Kinds).length cp0_0), (.slice Ap0_1 (p0.Slots).length cp0_1), (.slice Ap0_2 (p0.Marks).length cp0_2)] 26), (4, bx b136 #[(.string x135.Name), (.int .i64 x135.W), (.int .i64 x135.H)] 82)]) _
                  refine Tr.nil (Tr.normThen ?_)
                  refine Tr.cond rfl H (fun H => ?_) (fun H => ?_)
                  · refine Tr.seq ?_
                    refine Tr.region ?_
                    refine Tr.val (wn rfl) rfl (fun _ _ h1 h2 => run_assign (h1.ev rfl)) ?_
                    refine Tr.nil (Tr.normThen ?_)
                    refine Tr.ret (Tr.retThen (Tr.retBlock (Tr.retThen (Tr.retThen (Tr.retBlock (Tr.retThen ?_))))))
                    obtain rfl := Option.some.inj H
                    exact Tr.out (m := [(.int .i64 1)]) [] (res_tmp rfl res_nil) (fun W hW => ⟨rfl, hW.low leB⟩)
                  · refine Tr.skip (Tr.normThen ?_)
                    refine Tr.seq ?_
                    refine Tr.draw (by kernel_rfl) (by kernel_rfl) ?_
                    refine Tq.val (wn rfl) rfl (fun _ _ h1 h2 => run_move (h1.ev rfl)) ?_
                    refine Tq.val (wn rfl) rfl (fun _ _ h1 h2 => run_gtr (h1.ev rfl) (h1.ev rfl)) ?_
                    refine Tq.val (wn rfl) rfl (fun _ _ h1 h2 => run_move (h1.ev rfl)) ?_
                    obtain ⟨g143, hg143, H⟩ := bnd H
                    refine Tq.mid 11 [(1, (.pointer (some ⟨b100, 0, none⟩))), (3, (.int .i64 x134)), (74, (.bool g143))] ?_ ?_
                    · cases hg144 : (decide (0 < x134))
                      · rw [hg144] at hg143
                        rw [if_neg (by decide)] at hg143
                        have H := hg143
                        obtain rfl := Option.some.inj H
                        refine Tq.pass rfl rfl rfl rfl rfl (by decide) ?_
                        refine Tq.pass rfl rfl rfl rfl rfl (by decide) ?_
                        refine Tq.pass rfl rfl rfl rfl rfl (by decide) ?_
                        refine Tq.pass rfl rfl rfl rfl rfl (by decide) ?_
                        refine Tq.pass rfl rfl rfl rfl rfl (by decide) ?_
                        refine Tq.pass rfl rfl rfl rfl rfl (by decide) ?_
                        refine Tq.pass rfl rfl rfl rfl rfl (by decide) ?_
                        refine Tq.pass rfl rfl rfl rfl rfl (by decide) ?_
                        refine Tq.pass rfl rfl rfl rfl rfl (by decide) ?_
                        refine Tq.pass rfl rfl rfl rfl rfl (by decide) ?_
                        refine Tq.val (wn rfl) rfl (fun _ _ h1 h2 => run_pickF (h1.ev rfl) (h1.ev rfl)) ?_
                        exact Tq.fin (.cons rfl (.cons rfl (.cons rfl .nil)))
                      · rw [hg144] at hg143
                        rw [if_pos rfl] at hg143
                        have H := hg143
                        refine Tq.val (wg rfl rfl rfl) rfl (fun _ _ h1 h2 => run_fieldAddr fo_82_0 (h1.ev rfl)) ?_
                        refine Tq.val (wg rfl rfl rfl) rfl (fun _ _ h1 h2 => run_load1 ag_9 (h1.ev rfl) (rdb h2 (vs := [(.string x135.Name), (.int .i64 x135.W), (.int .i64 x135.H)]) (k := 4) rfl 0) rfl) ?_
                        refine Tq.val (wg rfl rfl rfl) rfl (fun _ _ h1 h2 => run_fieldAddr fo_26_4 (h1.ev rfl)) ?_
                        refine Tq.val (wg rfl rfl rfl) rfl (fun _ _ h1 h2 => run_load1 ag_22 (h1.ev rfl) (rdb h2 (vs := [(.int .i64 p0.W), (.int .i64 p0.H), (.int .i64 p0.Rail), (.int .i64 p0.Gap), (.slice Ap0_0 (p0.Kinds).length cp0_0), (.slice Ap0_1 (p0.Slots).length cp0_1), (.slice Ap0_2 (p0.Marks).length cp0_2)]) (k := 1) rfl 4) rfl) ?_
                        refine Tq.val (wg rfl rfl rfl) rfl (fun _ _ h1 h2 => run_move (h1.ev rfl)) ?_
                        refine Tq.val (wg rfl rfl rfl) rfl (fun _ _ h1 h2 => run_sub (h1.ev rfl) (h1.ev rfl)) ?_
                        obtain ⟨x144, hx144, H⟩ := bnd H
                        obtain ⟨hx1440, hx1441, hx1442⟩ := idx_some hx144
                        refine Tq.val (wg rfl rfl rfl) rfl (fun _ _ h1 h2 => run_indexAddr el_22 (h1.ev rfl) hp0_0.form (h1.ev rfl) hx1440 hx1441) ?_
                        refine Tq.val (wg rfl rfl rfl) rfl (fun _ _ h1 h2 => run_fieldAddr fo_82_0 (h1.ev rfl)) ?_
                        refine Tq.val (wg rfl rfl rfl) rfl (fun _ _ h1 h2 => run_load1 ag_9 (h1.ev rfl) (CellsAt.drop (rdF ef_TBoardKind hp0_0 hx1442 h2) 0) rfl) ?_
                        refine Tq.val (wg rfl rfl rfl) rfl (fun _ _ h1 h2 => run_leqS (h1.ev rfl) (h1.ev rfl)) ?_
                        refine Tq.val (wn rfl) rfl (fun _ _ h1 h2 => run_pickT (h1.ev rfl) (h1.ev rfl)) ?_
                        obtain rfl := Option.some.inj H
                        exact Tq.fin (.cons rfl (.cons rfl (.cons rfl .nil)))
                    · refine Tq.nil (Tr.normThen ?_)
                      refine Tr.cond rfl H (fun H => ?_) (fun H => ?_)
                      · refine Tr.seq ?_
                        refine Tr.region ?_
                        refine Tr.val (wn rfl) rfl (fun _ _ h1 h2 => run_assign (h1.ev rfl)) ?_
                        refine Tr.nil (Tr.normThen ?_)
                        refine Tr.ret (Tr.retBlock (Tr.retThen (Tr.retThen (Tr.retBlock (Tr.retThen ?_)))))
                        obtain rfl := Option.some.inj H
                        exact Tr.out (m := [(.int .i64 8)]) [] (res_tmp rfl res_nil) (fun W hW => ⟨rfl, hW.low leB⟩)
                      · refine Tr.skip (Tr.normBlock (Tr.normThen ?_))
                        refine Tr.region ?_
                        refine Tr.val (wn rfl) rfl (fun _ _ h1 h2 => run_move (h1.ev rfl)) ?_
                        refine Tr.val (wn rfl) rfl (fun _ _ h1 h2 => run_add (h1.ev rfl) (h1.ev rfl)) ?_
                        refine Tr.val (wn rfl) rfl (fun _ _ h1 h2 => run_assign (h1.ev rfl)) ?_
                        refine Tr.nil ?_
                        exact Tr.backThen leF_etchhouseref9_CheckPanel_L1 (w64 (x134 + 1)) H (.cons rfl (.cons rfl .nil)) (.cons rfl .nil)
            · refine Tr.exit (Tr.exitThen (Tr.exitThen (Tr.exitBlock (Tr.normThen ?_))))
              refine Tr.seq ?_
              refine Tr.seq ?_
              refine Tr.region ?_
              refine Tr.val (wn rfl) rfl (fun _ _ h1 h2 => run_fieldAddr fo_26_5 (h1.ev rfl)) ?_
              refine Tr.val (wn rfl) rfl (fun _ _ h1 h2 => run_load1 ag_23 (h1.ev rfl) (rdb h2 (vs := [(.int .i64 p0.W), (.int .i64 p0.H), (.int .i64 p0.Rail), (.int .i64 p0.Gap), (.slice Ap0_0 (p0.Kinds).length cp0_0), (.slice Ap0_1 (p0.Slots).length cp0_1), (.slice Ap0_2 (p0.Marks).length cp0_2)]) (k := 1) rfl 5) rfl) ?_
              refine Tr.val (wn rfl) rfl (fun _ _ h1 h2 => run_len un_23 (h1.ev rfl)) ?_
              refine Tr.val (wn rfl) rfl (fun _ _ h1 h2 => run_gtr (h1.ev rfl) (h1.ev rfl)) ?_
              refine Tr.nil (Tr.normThen ?_)
              refine Tr.cond rfl H (fun H => ?_) (fun H => ?_)
              · refine Tr.seq ?_
                refine Tr.region ?_
                refine Tr.val (wn rfl) rfl (fun _ _ h1 h2 => run_assign (h1.ev rfl)) ?_
                refine Tr.nil (Tr.normThen ?_)
                refine Tr.ret (Tr.retThen ?_)
                obtain rfl := Option.some.inj H
                exact Tr.out (m := [(.int .i64 2)]) [] (res_tmp rfl res_nil) (fun W hW => ⟨rfl, hW.low leB⟩)
              · refine Tr.skip (Tr.normThen ?_)
                refine Tr.seq ?_
                refine Tr.seq ?_
                refine Tr.region ?_
                refine Tr.val (wn rfl) rfl (fun _ _ h1 h2 => run_assign (h1.ev rfl)) ?_
                refine Tr.nil (Tr.normThen ?_)
                refine Tr.block ?_
                refine Tr.loop (σ := Int) (fun m w s => F_etchhouseref9_CheckPanel_L2 N p0 m s = some r) (fun s => [(1, (.pointer (some ⟨b100, 0, none⟩))), (5, (.int .i64 s))]) (fun s => [(1, bx b100 #[(.int .i64 p0.W), (.int .i64 p0.H), (.int .i64 p0.Rail), (.int .i64 p0.Gap), (.slice Ap0_0 (p0.Kinds).length cp0_0), (.slice Ap0_1 (p0.Slots).length cp0_1), (.slice Ap0_2 (p0.Marks).length cp0_2)] 26)]) N 0 H (.cons rfl (.cons rfl .nil)) (.cons rfl .nil) (fun _ _ h => noSome (h)) ?_
                intro w leF_etchhouseref9_CheckPanel_L2 mF_etchhouseref9_CheckPanel_L2 x150 hs
                have H := hs
                replace H : F_etchhouseref9_CheckPanel_L2 N p0 (mF_etchhouseref9_CheckPanel_L2 + 1) x150 = some r := H
                replace hp0_0 := hp0_0.leR leF_etchhouseref9_CheckPanel_L2
                replace hp0_1 := hp0_1.leR leF_etchhouseref9_CheckPanel_L2
                replace hp0_2 := hp0_2.leR leF_etchhouseref9_CheckPanel_L2
                replace leB := leB.trans leF_etchhouseref9_CheckPanel_L2
                replace leF_etchhouseref9_CheckPanel_L1 := leF_etchhouseref9_CheckPanel_L1.trans leF_etchhouseref9_CheckPanel_L2
                rw [F_etchhouseref9_CheckPanel_L2.eq_2] at H
                show Tr _ _ (LF [(1, (.pointer (some ⟨b100, 0, none⟩))), (5, (.int .i64 x150))]) (LE [(1, bx b100 #[(.int .i64 p0.W), (.int .i64 p0.H), (.int .i64 p0.Rail), (.int .i64 p0.Gap), (.slice Ap0_0 (p0.Kinds).length cp0_0), (.slice Ap0_1 (p0.Slots).length cp0_1), (.slice Ap0_2 (p0.Marks).length cp0_2)] 26)]) _
                refine Tr.seq ?_
                refine Tr.seq ?_
                refine Tr.region ?_
                refine Tr.val (wn rfl) rfl (fun _ _ h1 h2 => run_move (h1.ev rfl)) ?_
                refine Tr.val (wn rfl) rfl (fun _ _ h1 h2 => run_fieldAddr fo_26_5 (h1.ev rfl)) ?_
                refine Tr.val (wn rfl) rfl (fun _ _ h1 h2 => run_load1 ag_23 (h1.ev rfl) (rdb h2 (vs := [(.int .i64 p0.W), (.int .i64 p0.H), (.int .i64 p0.Rail), (.int .i64 p0.Gap), (.slice Ap0_0 (p0.Kinds).length cp0_0), (.slice Ap0_1 (p0.Slots).length cp0_1), (.slice Ap0_2 (p0.Marks).length cp0_2)]) (k := 1) rfl 5) rfl) ?_
                refine Tr.val (wn rfl) rfl (fun _ _ h1 h2 => run_len un_23 (h1.ev rfl)) ?_
                refine Tr.val (wn rfl) rfl (fun _ _ h1 h2 => run_lss (h1.ev rfl) (h1.ev rfl)) ?_
                refine Tr.nil (Tr.normThen ?_)
                refine Tr.cond rfl H (fun H => ?_) (fun H => ?_)
                · refine Tr.skip (Tr.normThen ?_)
                  refine Tr.seq ?_
                  refine Tr.block ?_
                  refine Tr.seq ?_
                  refine Tr.region ?_
                  refine Tr.val (wn rfl) rfl (fun _ _ h1 h2 => run_loadN (cs := [(.int .i64 p0.W), (.int .i64 p0.H), (.int .i64 p0.Rail), (.int .i64 p0.Gap), (.slice Ap0_0 (p0.Kinds).length cp0_0), (.slice Ap0_1 (p0.Slots).length cp0_1), (.slice Ap0_2 (p0.Marks).length cp0_2)]) ag_26 sz_26 (h1.ev rfl) (CellsAt.take (rdb h2 (vs := [(.int .i64 p0.W), (.int .i64 p0.H), (.int .i64 p0.Rail), (.int .i64 p0.Gap), (.slice Ap0_0 (p0.Kinds).length cp0_0), (.slice Ap0_1 (p0.Slots).length cp0_1), (.slice Ap0_2 (p0.Marks).length cp0_2)]) (k := 1) rfl 0) 7) rfl) ?_
                  refine Tr.val (wn rfl) rfl (fun _ _ h1 h2 => run_move (h1.ev rfl)) ?_
                  obtain ⟨y151, hy151, H⟩ := bnd H
                  refine Tr.call0 (r := (.int .i64 y151)) (wn rfl) rfl Try.call85 (evl_cons rfl (evl_cons rfl evl_nil)) (fun W hW => F_etchhouseref9_checkSlot_ok N p0 Ap0_0 cp0_0 (hp0_0.ext hW.extAll) Ap0_1 cp0_1 (hp0_1.ext hW.extAll) Ap0_2 cp0_2 (hp0_2.ext hW.extAll) x150 y151 hy151 (HF.start _)) ?_
                  refine Tr.val (wn rfl) rfl (fun _ _ h1 h2 => run_assign (h1.ev rfl)) ?_
                  refine Tr.nil (Tr.normThen ?_)
                  refine Tr.seq ?_
                  refine Tr.region ?_
                  refine Tr.val (wn rfl) rfl (fun _ _ h1 h2 => run_move (h1.ev rfl)) ?_
                  refine Tr.val (wn rfl) rfl (fun _ _ h1 h2 => run_neq (h1.ev rfl) (h1.ev rfl)) ?_
                  refine Tr.nil (Tr.normThen ?_)
                  refine Tr.cond rfl H (fun H => ?_) (fun H => ?_)
                  · refine Tr.seq ?_
                    refine Tr.region ?_
                    refine Tr.val (wn rfl) rfl (fun _ _ h1 h2 => run_move (h1.ev rfl)) ?_
                    refine Tr.val (wn rfl) rfl (fun _ _ h1 h2 => run_assign (h1.ev rfl)) ?_
                    refine Tr.nil (Tr.normThen ?_)
                    refine Tr.ret (Tr.retBlock (Tr.retThen (Tr.retThen (Tr.retBlock (Tr.retThen ?_)))))
                    obtain rfl := Option.some.inj H
                    exact Tr.out (m := [(.int .i64 y151)]) [] (res_tmp rfl res_nil) (fun W hW => ⟨rfl, hW.low leB⟩)
                  · refine Tr.skip (Tr.normBlock (Tr.normThen ?_))
                    refine Tr.region ?_
                    refine Tr.val (wn rfl) rfl (fun _ _ h1 h2 => run_move (h1.ev rfl)) ?_
                    refine Tr.val (wn rfl) rfl (fun _ _ h1 h2 => run_add (h1.ev rfl) (h1.ev rfl)) ?_
                    refine Tr.val (wn rfl) rfl (fun _ _ h1 h2 => run_assign (h1.ev rfl)) ?_
                    refine Tr.nil ?_
                    exact Tr.backThen leF_etchhouseref9_CheckPanel_L2 (w64 (x150 + 1)) H (.cons rfl (.cons rfl .nil)) (.cons rfl .nil)
                · refine Tr.exit (Tr.exitThen (Tr.exitThen (Tr.exitBlock (Tr.normThen ?_))))
                  refine Tr.seq ?_
                  refine Tr.seq ?_
                  refine Tr.region ?_
                  refine Tr.val (wn rfl) rfl (fun _ _ h1 h2 => run_fieldAddr fo_26_6 (h1.ev rfl)) ?_
                  refine Tr.val (wn rfl) rfl (fun _ _ h1 h2 => run_load1 ag_24 (h1.ev rfl) (rdb h2 (vs := [(.int .i64 p0.W), (.int .i64 p0.H), (.int .i64 p0.Rail), (.int .i64 p0.Gap), (.slice Ap0_0 (p0.Kinds).length cp0_0), (.slice Ap0_1 (p0.Slots).length cp0_1), (.slice Ap0_2 (p0.Marks).length cp0_2)]) (k := 1) rfl 6) rfl) ?_
                  refine Tr.val (wn rfl) rfl (fun _ _ h1 h2 => run_len un_24 (h1.ev rfl)) ?_
                  refine Tr.val (wn rfl) rfl (fun _ _ h1 h2 => run_gtr (h1.ev rfl) (h1.ev rfl)) ?_
                  refine Tr.nil (Tr.normThen ?_)
                  refine Tr.cond rfl H (fun H => ?_) (fun H => ?_)
                  · refine Tr.seq ?_
                    refine Tr.region ?_
                    refine Tr.val (wn rfl) rfl (fun _ _ h1 h2 => run_assign (h1.ev rfl)) ?_
                    refine Tr.nil (Tr.normThen ?_)
                    refine Tr.ret (Tr.retThen ?_)
                    obtain rfl := Option.some.inj H
                    exact Tr.out (m := [(.int .i64 2)]) [] (res_tmp rfl res_nil) (fun W hW => ⟨rfl, hW.low leB⟩)
                  · refine Tr.skip (Tr.normThen ?_)
                    refine Tr.seq ?_
                    refine Tr.seq ?_
                    refine Tr.region ?_
                    refine Tr.val (wn rfl) rfl (fun _ _ h1 h2 => run_assign (h1.ev rfl)) ?_
                    refine Tr.nil (Tr.normThen ?_)
                    refine Tr.block ?_
                    refine Tr.loop (σ := Int) (fun m w s => F_etchhouseref9_CheckPanel_L3 N p0 m s = some r) (fun s => [(1, (.pointer (some ⟨b100, 0, none⟩))), (7, (.int .i64 s))]) (fun s => [(1, bx b100 #[(.int .i64 p0.W), (.int .i64 p0.H), (.int .i64 p0.Rail), (.int .i64 p0.Gap), (.slice Ap0_0 (p0.Kinds).length cp0_0), (.slice Ap0_1 (p0.Slots).length cp0_1), (.slice Ap0_2 (p0.Marks).length cp0_2)] 26)]) N 0 H (.cons rfl (.cons rfl .nil)) (.cons rfl .nil) (fun _ _ h => noSome (h)) ?_
                    intro w leF_etchhouseref9_CheckPanel_L3 mF_etchhouseref9_CheckPanel_L3 x157 hs
                    have H := hs
                    replace H : F_etchhouseref9_CheckPanel_L3 N p0 (mF_etchhouseref9_CheckPanel_L3 + 1) x157 = some r := H
                    replace hp0_0 := hp0_0.leR leF_etchhouseref9_CheckPanel_L3
                    replace hp0_1 := hp0_1.leR leF_etchhouseref9_CheckPanel_L3
                    replace hp0_2 := hp0_2.leR leF_etchhouseref9_CheckPanel_L3
                    replace leB := leB.trans leF_etchhouseref9_CheckPanel_L3
                    replace leF_etchhouseref9_CheckPanel_L1 := leF_etchhouseref9_CheckPanel_L1.trans leF_etchhouseref9_CheckPanel_L3
                    replace leF_etchhouseref9_CheckPanel_L2 := leF_etchhouseref9_CheckPanel_L2.trans leF_etchhouseref9_CheckPanel_L3
                    rw [F_etchhouseref9_CheckPanel_L3.eq_2] at H
                    show Tr _ _ (LF [(1, (.pointer (some ⟨b100, 0, none⟩))), (7, (.int .i64 x157))]) (LE [(1, bx b100 #[(.int .i64 p0.W), (.int .i64 p0.H), (.int .i64 p0.Rail), (.int .i64 p0.Gap), (.slice Ap0_0 (p0.Kinds).length cp0_0), (.slice Ap0_1 (p0.Slots).length cp0_1), (.slice Ap0_2 (p0.Marks).length cp0_2)] 26)]) _
                    refine Tr.seq ?_
                    refine Tr.seq ?_
                    refine Tr.region ?_
                    refine Tr.val (wn rfl) rfl (fun _ _ h1 h2 => run_move (h1.ev rfl)) ?_
                    refine Tr.val (wn rfl) rfl (fun _ _ h1 h2 => run_fieldAddr fo_26_6 (h1.ev rfl)) ?_
                    refine Tr.val (wn rfl) rfl (fun _ _ h1 h2 => run_load1 ag_24 (h1.ev rfl) (rdb h2 (vs := [(.int .i64 p0.W), (.int .i64 p0.H), (.int .i64 p0.Rail), (.int .i64 p0.Gap), (.slice Ap0_0 (p0.Kinds).length cp0_0), (.slice Ap0_1 (p0.Slots).length cp0_1), (.slice Ap0_2 (p0.Marks).length cp0_2)]) (k := 1) rfl 6) rfl) ?_
                    refine Tr.val (wn rfl) rfl (fun _ _ h1 h2 => run_len un_24 (h1.ev rfl)) ?_
                    refine Tr.val (wn rfl) rfl (fun _ _ h1 h2 => run_lss (h1.ev rfl) (h1.ev rfl)) ?_
                    refine Tr.nil (Tr.normThen ?_)
                    refine Tr.cond rfl H (fun H => ?_) (fun H => ?_)
                    · refine Tr.skip (Tr.normThen ?_)
                      refine Tr.seq ?_
                      refine Tr.block ?_
                      refine Tr.seq ?_
                      refine Tr.region ?_
                      refine Tr.val (wn rfl) rfl (fun _ _ h1 h2 => run_loadN (cs := [(.int .i64 p0.W), (.int .i64 p0.H), (.int .i64 p0.Rail), (.int .i64 p0.Gap), (.slice Ap0_0 (p0.Kinds).length cp0_0), (.slice Ap0_1 (p0.Slots).length cp0_1), (.slice Ap0_2 (p0.Marks).length cp0_2)]) ag_26 sz_26 (h1.ev rfl) (CellsAt.take (rdb h2 (vs := [(.int .i64 p0.W), (.int .i64 p0.H), (.int .i64 p0.Rail), (.int .i64 p0.Gap), (.slice Ap0_0 (p0.Kinds).length cp0_0), (.slice Ap0_1 (p0.Slots).length cp0_1), (.slice Ap0_2 (p0.Marks).length cp0_2)]) (k := 1) rfl 0) 7) rfl) ?_
                      refine Tr.val (wn rfl) rfl (fun _ _ h1 h2 => run_move (h1.ev rfl)) ?_
                      obtain ⟨y158, hy158, H⟩ := bnd H
                      refine Tr.call0 (r := (.int .i64 y158)) (wn rfl) rfl Try.call86 (evl_cons rfl (evl_cons rfl evl_nil)) (fun W hW => F_etchhouseref9_checkMark_ok N p0 Ap0_0 cp0_0 (hp0_0.ext hW.extAll) Ap0_1 cp0_1 (hp0_1.ext hW.extAll) Ap0_2 cp0_2 (hp0_2.ext hW.extAll) x157 y158 hy158 (HF.start _)) ?_
                      refine Tr.val (wn rfl) rfl (fun _ _ h1 h2 => run_assign (h1.ev rfl)) ?_
                      refine Tr.nil (Tr.normThen ?_)
                      refine Tr.seq ?_
                      refine Tr.region ?_
                      refine Tr.val (wn rfl) rfl (fun _ _ h1 h2 => run_move (h1.ev rfl)) ?_
                      refine Tr.val (wn rfl) rfl (fun _ _ h1 h2 => run_neq (h1.ev rfl) (h1.ev rfl)) ?_
                      refine Tr.nil (Tr.normThen ?_)
                      refine Tr.cond rfl H (fun H => ?_) (fun H => ?_)
                      · refine Tr.seq ?_
                        refine Tr.region ?_
                        refine Tr.val (wn rfl) rfl (fun _ _ h1 h2 => run_move (h1.ev rfl)) ?_
                        refine Tr.val (wn rfl) rfl (fun _ _ h1 h2 => run_assign (h1.ev rfl)) ?_
                        refine Tr.nil (Tr.normThen ?_)
                        refine Tr.ret (Tr.retBlock (Tr.retThen (Tr.retThen (Tr.retBlock (Tr.retThen ?_)))))
                        obtain rfl := Option.some.inj H
                        exact Tr.out (m := [(.int .i64 y158)]) [] (res_tmp rfl res_nil) (fun W hW => ⟨rfl, hW.low leB⟩)
                      · refine Tr.skip (Tr.normBlock (Tr.normThen ?_))
                        refine Tr.region ?_
                        refine Tr.val (wn rfl) rfl (fun _ _ h1 h2 => run_move (h1.ev rfl)) ?_
                        refine Tr.val (wn rfl) rfl (fun _ _ h1 h2 => run_add (h1.ev rfl) (h1.ev rfl)) ?_
                        refine Tr.val (wn rfl) rfl (fun _ _ h1 h2 => run_assign (h1.ev rfl)) ?_
                        refine Tr.nil ?_
                        exact Tr.backThen leF_etchhouseref9_CheckPanel_L3 (w64 (x157 + 1)) H (.cons rfl (.cons rfl .nil)) (.cons rfl .nil)
                    · refine Tr.exit (Tr.exitThen (Tr.exitThen (Tr.exitBlock (Tr.normThen ?_))))
                      refine Tr.seq ?_
                      refine Tr.region ?_
                      refine Tr.val (wn rfl) rfl (fun _ _ h1 h2 => run_assign (h1.ev rfl)) ?_
                      refine Tr.nil (Tr.normThen ?_)
                      refine Tr.ret ?_
                      obtain rfl := Option.some.inj H
                      exact Tr.out (m := [(.int .i64 0)]) [] (res_tmp rfl res_nil) (fun W hW => ⟨rfl, hW.low leB⟩)

theorem F_etchhouseref9_cells_ok (N : Nat) {w : Bs} (p0 : TPanel) (Ap0_0 : Option Addr) (cp0_0 : Nat) (hp0_0 : Sl w.R w.W fl_TBoardKind Ap0_0 cp0_0 p0.Kinds) (Ap0_1 : Option Addr) (cp0_1 : Nat) (hp0_1 : Sl w.R w.W fl_TSlot Ap0_1 cp0_1 p0.Slots) (Ap0_2 : Option Addr) (cp0_2 : Nat) (hp0_2 : Sl w.R w.W fl_TPoint Ap0_2 cp0_2 p0.Marks) (r : (List TRect)) (H : F_etchhouseref9_cells N p0 = some r) (hE : HF w w.W (LEn [emp])) : Calls Try.prog 77 [(.agg #[(.int .i64 p0.W), (.int .i64 p0.H), (.int .i64 p0.Rail), (.int .i64 p0.Gap), (.slice Ap0_0 (p0.Kinds).length cp0_0), (.slice Ap0_1 (p0.Slots).length cp0_1), (.slice Ap0_2 (p0.Marks).length cp0_2)])].toArray w.W fun e W' => ∃ u : (Option Addr × Nat), e = .returned (.slice u.1 (r).length u.2) ∧ (SlF u.1 (r).length u.2) ∧ HF w W' (LEn [ow u.1 u.2 42 fl_TRect r]) := by
  unfold F_etchhouseref9_cells at H
  have leB := Bs.Le.refl w
  refine Tr.enter (n := 23) Try.func77 rfl rfl rfl hE ?_
  refine Tr.seq ?_
  refine Tr.region ?_
  refine Tr.box 1 (cs := [(.int .i64 p0.W), (.int .i64 p0.H), (.int .i64 p0.Rail), (.int .i64 p0.Gap), (.slice Ap0_0 (p0.Kinds).length cp0_0), (.slice Ap0_1 (p0.Slots).length cp0_1), (.slice Ap0_2 (p0.Marks).length cp0_2)]) (wn rfl) rfl rfl rfl fun b100 => ?_
  refine Tr.val (wn rfl) rfl (fun _ _ h1 h2 => run_assign (h1.ev rfl)) ?_
  refine Tr.nilOwn 2 42 fl_TRect ?_
  show Tr _ _ (uf _ 2 (.slice none (([] : List TRect)).length 0)) _ _
  refine Tr.nil (Tr.normThen ?_)
  refine Tr.seq ?_
  refine Tr.region ?_
  refine Tr.val (wn rfl) rfl (fun _ _ h1 h2 => run_assign (h1.ev rfl)) ?_
  refine Tr.nilOwn 3 42 fl_TRect ?_
  show Tr _ _ (uf _ 3 (.slice none (([] : List TRect)).length 0)) _ _
  refine Tr.nil (Tr.normThen ?_)
  refine Tr.seq ?_
  refine Tr.seq ?_
  refine Tr.region ?_
  refine Tr.val (wn rfl) rfl (fun _ _ h1 h2 => run_assign (h1.ev rfl)) ?_
  refine Tr.nil (Tr.normThen ?_)
  refine Tr.block ?_
  refine Tr.loop (σ := (List TRect) × Int × (Option Addr) × Nat) (fun m w s => F_etchhouseref9_cells_L1 N p0 m s.1 s.2.1 = some r ∧ SlF s.2.2.1 (s.1).length s.2.2.2) (fun s => [(1, (.pointer (some ⟨b100, 0, none⟩))), (3, (.slice s.2.2.1 (s.1).length s.2.2.2)), (4, (.int .i64 s.2.1))]) (fun s => [(1, bx b100 #[(.int .i64 p0.W), (.int .i64 p0.H), (.int .i64 p0.Rail), (.int .i64 p0.Gap), (.slice Ap0_0 (p0.Kinds).length cp0_0), (.slice Ap0_1 (p0.Slots).length cp0_1), (.slice Ap0_2 (p0.Marks).length cp0_2)] 26), (3, ow s.2.2.1 s.2.2.2 42 fl_TRect s.1)]) N (([] : List TRect), 0, none, 0) ⟨H, slf_nil⟩ (.cons rfl (.cons rfl (.cons rfl .nil))) (.cons rfl (.cons rfl .nil)) (fun _ _ h => noSome (h.1)) ?_
  intro w leF_etchhouseref9_cells_L1 mF_etchhouseref9_cells_L1 s hs
  obtain ⟨l115, x116, Al115, cl115⟩ := s
  obtain ⟨H, hl115⟩ := hs
  replace H : F_etchhouseref9_cells_L1 N p0 (mF_etchhouseref9_cells_L1 + 1) l115 x116 = some r := H
  replace hp0_0 := hp0_0.leR leF_etchhouseref9_cells_L1
  replace hp0_1 := hp0_1.leR leF_etchhouseref9_cells_L1
  replace hp0_2 := hp0_2.leR leF_etchhouseref9_cells_L1
  replace leB := leB.trans leF_etchhouseref9_cells_L1
  replace hl115 : SlF Al115 (l115).length cl115 := hl115
  rw [F_etchhouseref9_cells_L1.eq_2] at H
  show Tr _ _ (LF [(1, (.pointer (some ⟨b100, 0, none⟩))), (3, (.slice Al115 (l115).length cl115)), (4, (.int .i64 x116))]) (LE [(1, bx b100 #[(.int .i64 p0.W), (.int .i64 p0.H), (.int .i64 p0.Rail), (.int .i64 p0.Gap), (.slice Ap0_0 (p0.Kinds).length cp0_0), (.slice Ap0_1 (p0.Slots).length cp0_1), (.slice Ap0_2 (p0.Marks).length cp0_2)] 26), (3, ow Al115 cl115 42 fl_TRect l115)]) _
  refine Tr.seq ?_
  refine Tr.seq ?_
  refine Tr.region ?_
  refine Tr.val (wn rfl) rfl (fun _ _ h1 h2 => run_move (h1.ev rfl)) ?_
  refine Tr.val (wn rfl) rfl (fun _ _ h1 h2 => run_fieldAddr fo_26_5 (h1.ev rfl)) ?_
  refine Tr.val (wn rfl) rfl (fun _ _ h1 h2 => run_load1 ag_23 (h1.ev rfl) (rdb h2 (vs := [(.int .i64 p0.W), (.int .i64 p0.H), (.int .i64 p0.Rail), (.int .i64 p0.Gap), (.slice Ap0_0 (p0.Kinds).length cp0_0), (.slice Ap0_1 (p0.Slots).length cp0_1), (.slice Ap0_2 (p0.Marks).length cp0_2)]) (k := 1) rfl 5) rfl) ?_
  refine Tr.val (wn rfl) rfl (fun _ _ h1 h2 => run_len un_23 (h1.ev rfl)) ?_
  refine Tr.val (wn rfl) rfl (fun _ _ h1 h2 => run_lss (h1.ev rfl) (h1.ev rfl)) ?_
  refine Tr.nil (Tr.normThen ?_)
  refine Tr.cond rfl H (fun H => ?_) (fun H => ?_)
  · refine Tr.skip (Tr.normThen ?_)
    refine Tr.seq ?_
    refine Tr.block ?_
    obtain ⟨x118, hx118, H⟩ := bnd H
    obtain ⟨hx1180, hx1181, hx1182⟩ := idx_some hx118
    obtain ⟨y119, hy119, H⟩ := bnd H
    refine Tr.drawF 9 [(8, .makeFunc (.func 0) #[] #[.tmp 19])] [(8, ⟨20, 6, (.func (.func 0) #[] #[(.agg #[(.int .i64 y119.X0), (.int .i64 y119.Y0), (.int .i64 y119.X1), (.int .i64 y119.Y1)])]), fun b => .slice (some ⟨b, 0, none⟩) 1 1, fun b => bx b #[(.int .i64 y119.X0), (.int .i64 y119.Y0), (.int .i64 y119.X1), (.int .i64 y119.Y1)] 42⟩)] [(1, (.pointer (some ⟨b100, 0, none⟩))), (3, (.slice Al115 (l115).length cl115)), (4, (.int .i64 x116)), (5, (.int .i64 x116)), (6, (.pointer (some ⟨b100, 5, none⟩))), (7, (.slice Ap0_1 (p0.Slots).length cp0_1)), (8, (.int .i64 (p0.Slots.length : Int))), (9, (.bool (decide (x116 < (p0.Slots.length : Int))))), (12, (.slice Al115 (l115).length cl115)), (13, (.agg #[(.int .i64 p0.W), (.int .i64 p0.H), (.int .i64 p0.Rail), (.int .i64 p0.Gap), (.slice Ap0_0 (p0.Kinds).length cp0_0), (.slice Ap0_1 (p0.Slots).length cp0_1), (.slice Ap0_2 (p0.Marks).length cp0_2)])), (14, (.pointer (some ⟨b100, 5, none⟩))), (15, (.slice Ap0_1 (p0.Slots).length cp0_1)), (16, (.int .i64 x116)), (17, (.pointer (some ⟨adB Ap0_1, adO Ap0_1 + (x116).toNat * 4, none⟩))), (18, (.agg #[(.string x118.Board), (.int .i64 x118.Quarters), (.int .i64 x118.At.X), (.int .i64 x118.At.Y)])), (19, (.agg #[(.int .i64 y119.X0), (.int .i64 y119.Y0), (.int .i64 y119.X1), (.int .i64 y119.Y1)])), (20, (.func (.func 0) #[] #[(.agg #[(.int .i64 y119.X0), (.int .i64 y119.Y0), (.int .i64 y119.X1), (.int .i64 y119.Y1)])]))] (by kernel_rfl) (by kernel_rfl) (by kernel_rfl) (by kernel_rfl) (by kernel_rfl) (by kernel_rfl) (by kernel_rfl) (fall_cons (fr_lit (vs := [(0, (.agg #[(.int .i64 y119.X0), (.int .i64 y119.Y0), (.int .i64 y119.X1), (.int .i64 y119.Y1)]))]) rfl rfl rfl (by kernel_rfl)) fall_nil) (fall_cons rfl fall_nil) (fall_cons rfl fall_nil) ?_ ?_
    · refine Tq.val (wn rfl) rfl (fun _ _ h1 h2 => run_move (h1.ev rfl)) ?_
      refine Tq.val (wn rfl) rfl (fun _ _ h1 h2 => run_loadN (cs := [(.int .i64 p0.W), (.int .i64 p0.H), (.int .i64 p0.Rail), (.int .i64 p0.Gap), (.slice Ap0_0 (p0.Kinds).length cp0_0), (.slice Ap0_1 (p0.Slots).length cp0_1), (.slice Ap0_2 (p0.Marks).length cp0_2)]) ag_26 sz_26 (h1.ev rfl) (CellsAt.take (rdb h2 (vs := [(.int .i64 p0.W), (.int .i64 p0.H), (.int .i64 p0.Rail), (.int .i64 p0.Gap), (.slice Ap0_0 (p0.Kinds).length cp0_0), (.slice Ap0_1 (p0.Slots).length cp0_1), (.slice Ap0_2 (p0.Marks).length cp0_2)]) (k := 1) rfl 0) 7) rfl) ?_
      refine Tq.val (wn rfl) rfl (fun _ _ h1 h2 => run_fieldAddr fo_26_5 (h1.ev rfl)) ?_
      refine Tq.val (wn rfl) rfl (fun _ _ h1 h2 => run_load1 ag_23 (h1.ev rfl) (rdb h2 (vs := [(.int .i64 p0.W), (.int .i64 p0.H), (.int .i64 p0.Rail), (.int .i64 p0.Gap), (.slice Ap0_0 (p0.Kinds).length cp0_0), (.slice Ap0_1 (p0.Slots).length cp0_1), (.slice Ap0_2 (p0.Marks).length cp0_2)]) (k := 1) rfl 5) rfl) ?_
      refine Tq.val (wn rfl) rfl (fun _ _ h1 h2 => run_move (h1.ev rfl)) ?_
      refine Tq.val (wn rfl) rfl (fun _ _ h1 h2 => run_indexAddr el_23 (h1.ev rfl) hp0_1.form (h1.ev rfl) hx1180 hx1181) ?_
      refine Tq.val (wn rfl) rfl (fun _ _ h1 h2 => run_loadN (cs := [(.string x118.Board), (.int .i64 x118.Quarters), (.int .i64 x118.At.X), (.int .i64 x118.At.Y)]) ag_34 sz_34 (h1.ev rfl) (CellsAt.take (rdF ef_TSlot hp0_1 hx1182 h2) 4) rfl) ?_
      refine Tq.call0 (r := (.agg #[(.int .i64 y119.X0), (.int .i64 y119.Y0), (.int .i64 y119.X1), (.int .i64 y119.Y1)])) (wn rfl) rfl Try.call50 (evl_cons rfl (evl_cons rfl evl_nil)) (fun W hW => F_etchhouseref9_cellOf_ok N p0 Ap0_0 cp0_0 (hp0_0.ext hW.extAll) Ap0_1 cp0_1 (hp0_1.ext hW.extAll) Ap0_2 cp0_2 (hp0_2.ext hW.extAll) x118 y119 hy119 (HF.start _)) ?_
      refine Tq.mkFunc (vs := [(.agg #[(.int .i64 y119.X0), (.int .i64 y119.Y0), (.int .i64 y119.X1), (.int .i64 y119.Y1)])]) (wn rfl) rfl (evl_cons rfl evl_nil) ?_
      exact Tq.fin (.cons rfl (.cons rfl (.cons rfl (.cons rfl (.cons rfl (.cons rfl (.cons rfl (.cons rfl (.cons rfl (.cons rfl (.cons rfl (.cons rfl (.cons rfl (.cons rfl (.cons rfl (.cons rfl (.cons rfl .nil)))))))))))))))))
    · intro bs117
      refine Tr.sel (lf := [(1, (.pointer (some ⟨b100, 0, none⟩))), (4, (.int .i64 x116)), (12, (.slice Al115 (l115).length cl115)), (20, (.slice (some ⟨(bs117 8), 0, none⟩) 1 1))]) (le := [(1, bx b100 #[(.int .i64 p0.W), (.int .i64 p0.H), (.int .i64 p0.Rail), (.int .i64 p0.Gap), (.slice Ap0_0 (p0.Kinds).length cp0_0), (.slice Ap0_1 (p0.Slots).length cp0_1), (.slice Ap0_2 (p0.Marks).length cp0_2)] 26), (3, ow Al115 cl115 42 fl_TRect l115), (6, bx (bs117 8) #[(.int .i64 y119.X0), (.int .i64 y119.Y0), (.int .i64 y119.X1), (.int .i64 y119.Y1)] 42)]) (.cons rfl (.cons rfl (.cons rfl (.cons rfl .nil)))) (.cons rfl (.cons rfl (.cons rfl .nil))) ?_
      obtain ⟨l120, hl120, H⟩ := bnd H
      refine Tr.append 3 (t := fl_TRect) (l := l115) (l2 := [y119]) (wn rfl) rfl rfl rfl rfl (fun W hW => ⟨[[(.int .i64 y119.X0), (.int .i64 y119.Y0), (.int .i64 y119.X1), (.int .i64 y119.Y1)]], (.cons ⟨(), trivial, rfl⟩ .nil), rdb hW (vs := [(.int .i64 y119.X0), (.int .i64 y119.Y0), (.int .i64 y119.X1), (.int .i64 y119.Y1)]) (k := 6) rfl 0⟩) un_38 sz_42 zl_42 (by decide) by_42 rfl hl120 fun Al120 cl120 hAl120 => ?_
      refine Tr.val (wn rfl) rfl (fun _ _ h1 h2 => run_assign (h1.ev rfl)) ?_
      refine Tr.nil (Tr.normBlock (Tr.normThen ?_))
      refine Tr.region ?_
      refine Tr.val (wn rfl) rfl (fun _ _ h1 h2 => run_move (h1.ev rfl)) ?_
      refine Tr.val (wn rfl) rfl (fun _ _ h1 h2 => run_add (h1.ev rfl) (h1.ev rfl)) ?_
      refine Tr.val (wn rfl) rfl (fun _ _ h1 h2 => run_assign (h1.ev rfl)) ?_
      refine Tr.nil ?_
      exact Tr.backThen leF_etchhouseref9_cells_L1 (l120, (w64 (x116 + 1)), Al120, cl120) ⟨H, hAl120⟩ (.cons rfl (.cons rfl (.cons rfl .nil))) (.cons rfl (.cons rfl .nil))
  · refine Tr.exit (Tr.exitThen (Tr.exitThen (Tr.exitBlock (Tr.normThen ?_))))
    refine Tr.seq ?_
    refine Tr.region ?_
    refine Tr.val (wn rfl) rfl (fun _ _ h1 h2 => run_move (h1.ev rfl)) ?_
    refine Tr.val (wn rfl) rfl (fun _ _ h1 h2 => run_assign (h1.ev rfl)) ?_
    refine Tr.nil (Tr.normThen ?_)
    refine Tr.ret ?_
    obtain rfl := Option.some.inj H
    exact Tr.out (m := [(.slice Al115 (l115).length cl115)]) [] (res_tmp rfl res_nil) (fun W hW => ⟨(Al115, cl115), rfl, hl115, HF.lowE leB (hW.pick (ks := [3]) (by decide) (pk_cons rfl pk_nil)) ⟨ow_any _ _ _ _ tr_TRect, trivial⟩⟩)

theorem F_etchhouseref9_least_ok {w : Bs} (p0 : TSlot) (p1 : TSlot) (r : Bool) (H : F_etchhouseref9_least p0 p1 = some r) (hE : HF w w.W E0) : Calls Try.prog 78 [(.agg #[(.string p0.Board), (.int .i64 p0.Quarters), (.int .i64 p0.At.X), (.int .i64 p0.At.Y)]), (.agg #[(.string p1.Board), (.int .i64 p1.Quarters), (.int .i64 p1.At.X), (.int .i64 p1.At.Y)])].toArray w.W fun e W' => e = .returned (.bool r) ∧ HF w W' E0 := by
  unfold F_etchhouseref9_least at H
  have leB := Bs.Le.refl w
  refine Tr.enter (n := 38) Try.func78 rfl rfl rfl hE ?_
  refine Tr.seq ?_
  refine Tr.region ?_
  refine Tr.box 1 (cs := [(.string p0.Board), (.int .i64 p0.Quarters), (.int .i64 p0.At.X), (.int .i64 p0.At.Y)]) (wn rfl) rfl rfl rfl fun b100 => ?_
  refine Tr.box 2 (cs := [(.string p1.Board), (.int .i64 p1.Quarters), (.int .i64 p1.At.X), (.int .i64 p1.At.Y)]) (wn rfl) rfl rfl rfl fun b101 => ?_
  refine Tr.val (wn rfl) rfl (fun _ _ h1 h2 => run_assign (h1.ev rfl)) ?_
  refine Tr.nil (Tr.normThen ?_)
  refine Tr.seq ?_
  refine Tr.seq ?_
  refine Tr.region ?_
  refine Tr.val (wn rfl) rfl (fun _ _ h1 h2 => run_fieldAddr fo_34_2 (h1.ev rfl)) ?_
  refine Tr.val (wn rfl) rfl (fun _ _ h1 h2 => run_fieldAddr fo_32_1 (h1.ev rfl)) ?_
  refine Tr.val (wn rfl) rfl (fun _ _ h1 h2 => run_load1 ag_3 (h1.ev rfl) (rdb h2 (vs := [(.string p0.Board), (.int .i64 p0.Quarters), (.int .i64 p0.At.X), (.int .i64 p0.At.Y)]) (k := 1) rfl 3) rfl) ?_
  refine Tr.val (wn rfl) rfl (fun _ _ h1 h2 => run_fieldAddr fo_34_2 (h1.ev rfl)) ?_
  refine Tr.val (wn rfl) rfl (fun _ _ h1 h2 => run_fieldAddr fo_32_1 (h1.ev rfl)) ?_
  refine Tr.val (wn rfl) rfl (fun _ _ h1 h2 => run_load1 ag_3 (h1.ev rfl) (rdb h2 (vs := [(.string p1.Board), (.int .i64 p1.Quarters), (.int .i64 p1.At.X), (.int .i64 p1.At.Y)]) (k := 2) rfl 3) rfl) ?_
  refine Tr.val (wn rfl) rfl (fun _ _ h1 h2 => run_neq (h1.ev rfl) (h1.ev rfl)) ?_
  refine Tr.nil (Tr.normThen ?_)
  refine Tr.cond rfl H (fun H => ?_) (fun H => ?_)
  · refine Tr.seq ?_
    refine Tr.region ?_
    refine Tr.val (wn rfl) rfl (fun _ _ h1 h2 => run_fieldAddr fo_34_2 (h1.ev rfl)) ?_
    refine Tr.val (wn rfl) rfl (fun _ _ h1 h2 => run_fieldAddr fo_32_1 (h1.ev rfl)) ?_
    refine Tr.val (wn rfl) rfl (fun _ _ h1 h2 => run_load1 ag_3 (h1.ev rfl) (rdb h2 (vs := [(.string p0.Board), (.int .i64 p0.Quarters), (.int .i64 p0.At.X), (.int .i64 p0.At.Y)]) (k := 1) rfl 3) rfl) ?_
    refine Tr.val (wn rfl) rfl (fun _ _ h1 h2 => run_fieldAddr fo_34_2 (h1.ev rfl)) ?_
    refine Tr.val (wn rfl) rfl (fun _ _ h1 h2 => run_fieldAddr fo_32_1 (h1.ev rfl)) ?_
    refine Tr.val (wn rfl) rfl (fun _ _ h1 h2 => run_load1 ag_3 (h1.ev rfl) (rdb h2 (vs := [(.string p1.Board), (.int .i64 p1.Quarters), (.int .i64 p1.At.X), (.int .i64 p1.At.Y)]) (k := 2) rfl 3) rfl) ?_
    refine Tr.val (wn rfl) rfl (fun _ _ h1 h2 => run_lss (h1.ev rfl) (h1.ev rfl)) ?_
    refine Tr.val (wn rfl) rfl (fun _ _ h1 h2 => run_assign (h1.ev rfl)) ?_
    refine Tr.nil (Tr.normThen ?_)
    refine Tr.ret (Tr.retThen ?_)
    obtain rfl := Option.some.inj H
    exact Tr.out (m := [(.bool (decide (p0.At.Y < p1.At.Y)))]) [] (res_tmp rfl res_nil) (fun W hW => ⟨rfl, hW.low leB⟩)
  · refine Tr.skip (Tr.normThen ?_)
    refine Tr.seq ?_
    refine Tr.seq ?_
    refine Tr.region ?_
    refine Tr.val (wn rfl) rfl (fun _ _ h1 h2 => run_fieldAddr fo_34_2 (h1.ev rfl)) ?_
    refine Tr.val (wn rfl) rfl (fun _ _ h1 h2 => run_fieldAddr fo_32_0 (h1.ev rfl)) ?_
    refine Tr.val (wn rfl) rfl (fun _ _ h1 h2 => run_load1 ag_3 (h1.ev rfl) (rdb h2 (vs := [(.string p0.Board), (.int .i64 p0.Quarters), (.int .i64 p0.At.X), (.int .i64 p0.At.Y)]) (k := 1) rfl 2) rfl) ?_
    refine Tr.val (wn rfl) rfl (fun _ _ h1 h2 => run_fieldAddr fo_34_2 (h1.ev rfl)) ?_
    refine Tr.val (wn rfl) rfl (fun _ _ h1 h2 => run_fieldAddr fo_32_0 (h1.ev rfl)) ?_
    refine Tr.val (wn rfl) rfl (fun _ _ h1 h2 => run_load1 ag_3 (h1.ev rfl) (rdb h2 (vs := [(.string p1.Board), (.int .i64 p1.Quarters), (.int .i64 p1.At.X), (.int .i64 p1.At.Y)]) (k := 2) rfl 2) rfl) ?_
    refine Tr.val (wn rfl) rfl (fun _ _ h1 h2 => run_neq (h1.ev rfl) (h1.ev rfl)) ?_
    refine Tr.nil (Tr.normThen ?_)
    refine Tr.cond rfl H (fun H => ?_) (fun H => ?_)
    · refine Tr.seq ?_
      refine Tr.region ?_
      refine Tr.val (wn rfl) rfl (fun _ _ h1 h2 => run_fieldAddr fo_34_2 (h1.ev rfl)) ?_
      refine Tr.val (wn rfl) rfl (fun _ _ h1 h2 => run_fieldAddr fo_32_0 (h1.ev rfl)) ?_
      refine Tr.val (wn rfl) rfl (fun _ _ h1 h2 => run_load1 ag_3 (h1.ev rfl) (rdb h2 (vs := [(.string p0.Board), (.int .i64 p0.Quarters), (.int .i64 p0.At.X), (.int .i64 p0.At.Y)]) (k := 1) rfl 2) rfl) ?_
      refine Tr.val (wn rfl) rfl (fun _ _ h1 h2 => run_fieldAddr fo_34_2 (h1.ev rfl)) ?_
      refine Tr.val (wn rfl) rfl (fun _ _ h1 h2 => run_fieldAddr fo_32_0 (h1.ev rfl)) ?_
      refine Tr.val (wn rfl) rfl (fun _ _ h1 h2 => run_load1 ag_3 (h1.ev rfl) (rdb h2 (vs := [(.string p1.Board), (.int .i64 p1.Quarters), (.int .i64 p1.At.X), (.int .i64 p1.At.Y)]) (k := 2) rfl 2) rfl) ?_
      refine Tr.val (wn rfl) rfl (fun _ _ h1 h2 => run_lss (h1.ev rfl) (h1.ev rfl)) ?_
      refine Tr.val (wn rfl) rfl (fun _ _ h1 h2 => run_assign (h1.ev rfl)) ?_
      refine Tr.nil (Tr.normThen ?_)
      refine Tr.ret (Tr.retThen ?_)
      obtain rfl := Option.some.inj H
      exact Tr.out (m := [(.bool (decide (p0.At.X < p1.At.X)))]) [] (res_tmp rfl res_nil) (fun W hW => ⟨rfl, hW.low leB⟩)
    · refine Tr.skip (Tr.normThen ?_)
      refine Tr.seq ?_
      refine Tr.region ?_
      refine Tr.val (wn rfl) rfl (fun _ _ h1 h2 => run_fieldAddr fo_34_1 (h1.ev rfl)) ?_
      refine Tr.val (wn rfl) rfl (fun _ _ h1 h2 => run_load1 ag_3 (h1.ev rfl) (rdb h2 (vs := [(.string p0.Board), (.int .i64 p0.Quarters), (.int .i64 p0.At.X), (.int .i64 p0.At.Y)]) (k := 1) rfl 1) rfl) ?_
      refine Tr.val (wn rfl) rfl (fun _ _ h1 h2 => run_fieldAddr fo_34_1 (h1.ev rfl)) ?_
      refine Tr.val (wn rfl) rfl (fun _ _ h1 h2 => run_load1 ag_3 (h1.ev rfl) (rdb h2 (vs := [(.string p1.Board), (.int .i64 p1.Quarters), (.int .i64 p1.At.X), (.int .i64 p1.At.Y)]) (k := 2) rfl 1) rfl) ?_
      refine Tr.val (wn rfl) rfl (fun _ _ h1 h2 => run_lss (h1.ev rfl) (h1.ev rfl)) ?_
      refine Tr.val (wn rfl) rfl (fun _ _ h1 h2 => run_assign (h1.ev rfl)) ?_
      refine Tr.nil (Tr.normThen ?_)
      refine Tr.ret ?_
      obtain rfl := Option.some.inj H
      exact Tr.out (m := [(.bool (decide (p0.Quarters < p1.Quarters)))]) [] (res_tmp rfl res_nil) (fun W hW => ⟨rfl, hW.low leB⟩)

theorem F_etchhouseref9_marked_ok (N : Nat) {w : Bs} (p0 : TPanel) (Ap0_0 : Option Addr) (cp0_0 : Nat) (hp0_0 : Sl w.R w.W fl_TBoardKind Ap0_0 cp0_0 p0.Kinds) (Ap0_1 : Option Addr) (cp0_1 : Nat) (hp0_1 : Sl w.R w.W fl_TSlot Ap0_1 cp0_1 p0.Slots) (Ap0_2 : Option Addr) (cp0_2 : Nat) (hp0_2 : Sl w.R w.W fl_TPoint Ap0_2 cp0_2 p0.Marks) (p1 : TRect) (r : Bool) (H : F_etchhouseref9_marked N p0 p1 = some r) (hE : HF w w.W E0) : Calls Try.prog 109 [(.agg #[(.int .i64 p0.W), (.int .i64 p0.H), (.int .i64 p0.Rail), (.int .i64 p0.Gap), (.slice Ap0_0 (p0.Kinds).length cp0_0), (.slice Ap0_1 (p0.Slots).length cp0_1), (.slice Ap0_2 (p0.Marks).length cp0_2)]), (.agg #[(.int .i64 p1.X0), (.int .i64 p1.Y0), (.int .i64 p1.X1), (.int .i64 p1.Y1)])].toArray w.W fun e W' => e = .returned (.bool r) ∧ HF w W' E0 := by
  unfold F_etchhouseref9_marked at H
  have leB := Bs.Le.refl w
  refine Tr.enter (n := 45) Try.func109 rfl rfl rfl hE ?_
  refine Tr.seq ?_
  refine Tr.region ?_
  refine Tr.box 1 (cs := [(.int .i64 p0.W), (.int .i64 p0.H), (.int .i64 p0.Rail), (.int .i64 p0.Gap), (.slice Ap0_0 (p0.Kinds).length cp0_0), (.slice Ap0_1 (p0.Slots).length cp0_1), (.slice Ap0_2 (p0.Marks).length cp0_2)]) (wn rfl) rfl rfl rfl fun b100 => ?_
  refine Tr.box 2 (cs := [(.int .i64 p1.X0), (.int .i64 p1.Y0), (.int .i64 p1.X1), (.int .i64 p1.Y1)]) (wn rfl) rfl rfl rfl fun b101 => ?_
  refine Tr.val (wn rfl) rfl (fun _ _ h1 h2 => run_assign (h1.ev rfl)) ?_
  refine Tr.nil (Tr.normThen ?_)
  refine Tr.seq ?_
  refine Tr.seq ?_
  refine Tr.region ?_
  refine Tr.val (wn rfl) rfl (fun _ _ h1 h2 => run_assign (h1.ev rfl)) ?_
  refine Tr.nil (Tr.normThen ?_)
  refine Tr.block ?_
  refine Tr.loop (σ := Int) (fun m w s => F_etchhouseref9_marked_L1 p0 p1 m s = some r) (fun s => [(2, (.pointer (some ⟨b100, 0, none⟩))), (3, (.pointer (some ⟨b101, 0, none⟩))), (5, (.int .i64 s))]) (fun s => [(1, bx b100 #[(.int .i64 p0.W), (.int .i64 p0.H), (.int .i64 p0.Rail), (.int .i64 p0.Gap), (.slice Ap0_0 (p0.Kinds).length cp0_0), (.slice Ap0_1 (p0.Slots).length cp0_1), (.slice Ap0_2 (p0.Marks).length cp0_2)] 26), (2, bx b101 #[(.int .i64 p1.X0), (.int .i64 p1.Y0), (.int .i64 p1.X1), (.int .i64 p1.Y1)] 42)]) N 0 H (.cons rfl (.cons rfl (.cons rfl .nil))) (.cons rfl (.cons rfl .nil)) (fun _ _ h => noSome (h)) ?_
  intro w leF_etchhouseref9_marked_L1 mF_etchhouseref9_marked_L1 x109 hs
  have H := hs
  replace H : F_etchhouseref9_marked_L1 p0 p1 (mF_etchhouseref9_marked_L1 + 1) x109 = some r := H
  replace hp0_0 := hp0_0.leR leF_etchhouseref9_marked_L1
  replace hp0_1 := hp0_1.leR leF_etchhouseref9_marked_L1
  replace hp0_2 := hp0_2.leR leF_etchhouseref9_marked_L1
  replace leB := leB.trans leF_etchhouseref9_marked_L1
  rw [F_etchhouseref9_marked_L1.eq_2] at H
  show Tr _ _ (LF [(2, (.pointer (some ⟨b100, 0, none⟩))), (3, (.pointer (some ⟨b101, 0, none⟩))), (5, (.int .i64 x109))]) (LE [(1, bx b100 #[(.int .i64 p0.W), (.int .i64 p0.H), (.int .i64 p0.Rail), (.int .i64 p0.Gap), (.slice Ap0_0 (p0.Kinds).length cp0_0), (.slice Ap0_1 (p0.Slots).length cp0_1), (.slice Ap0_2 (p0.Marks).length cp0_2)] 26), (2, bx b101 #[(.int .i64 p1.X0), (.int .i64 p1.Y0), (.int .i64 p1.X1), (.int .i64 p1.Y1)] 42)]) _
  refine Tr.seq ?_
  refine Tr.seq ?_
  refine Tr.region ?_
  refine Tr.val (wn rfl) rfl (fun _ _ h1 h2 => run_move (h1.ev rfl)) ?_
  refine Tr.val (wn rfl) rfl (fun _ _ h1 h2 => run_fieldAddr fo_26_6 (h1.ev rfl)) ?_
  refine Tr.val (wn rfl) rfl (fun _ _ h1 h2 => run_load1 ag_24 (h1.ev rfl) (rdb h2 (vs := [(.int .i64 p0.W), (.int .i64 p0.H), (.int .i64 p0.Rail), (.int .i64 p0.Gap), (.slice Ap0_0 (p0.Kinds).length cp0_0), (.slice Ap0_1 (p0.Slots).length cp0_1), (.slice Ap0_2 (p0.Marks).length cp0_2)]) (k := 1) rfl 6) rfl) ?_
  refine Tr.val (wn rfl) rfl (fun _ _ h1 h2 => run_len un_24 (h1.ev rfl)) ?_
  refine Tr.val (wn rfl) rfl (fun _ _ h1 h2 => run_lss (h1.ev rfl) (h1.ev rfl)) ?_
  refine Tr.nil (Tr.normThen ?_)
  refine Tr.cond rfl H (fun H => ?_) (fun H => ?_)
  · refine Tr.skip (Tr.normThen ?_)
    refine Tr.seq ?_
    refine Tr.block ?_
    refine Tr.seq ?_
    refine Tr.region ?_
    refine Tr.val (wn rfl) rfl (fun _ _ h1 h2 => run_fieldAddr fo_26_6 (h1.ev rfl)) ?_
    refine Tr.val (wn rfl) rfl (fun _ _ h1 h2 => run_load1 ag_24 (h1.ev rfl) (rdb h2 (vs := [(.int .i64 p0.W), (.int .i64 p0.H), (.int .i64 p0.Rail), (.int .i64 p0.Gap), (.slice Ap0_0 (p0.Kinds).length cp0_0), (.slice Ap0_1 (p0.Slots).length cp0_1), (.slice Ap0_2 (p0.Marks).length cp0_2)]) (k := 1) rfl 6) rfl) ?_
    refine Tr.val (wn rfl) rfl (fun _ _ h1 h2 => run_move (h1.ev rfl)) ?_
    obtain ⟨x110, hx110, H⟩ := bnd H
    obtain ⟨hx1100, hx1101, hx1102⟩ := idx_some hx110
    refine Tr.val (wn rfl) rfl (fun _ _ h1 h2 => run_indexAddr el_24 (h1.ev rfl) hp0_2.form (h1.ev rfl) hx1100 hx1101) ?_
    refine Tr.val (wn rfl) rfl (fun _ _ h1 h2 => run_loadN (cs := [(.int .i64 x110.X), (.int .i64 x110.Y)]) ag_32 sz_32 (h1.ev rfl) (CellsAt.take (rdF ef_TPoint hp0_2 hx1102 h2) 2) rfl) ?_
    refine Tr.alloc 5 (wn rfl) rfl ze_32 fun b111 => ?_
    refine Tr.store 5 (cs := [(.int .i64 x110.X), (.int .i64 x110.Y)]) [(.int .i64 x110.X), (.int .i64 x110.Y)] (wn rfl) rfl rfl rfl rfl sz_32 rfl rfl rfl ?_
    refine Tr.nil (Tr.normThen ?_)
    refine Tr.seq ?_
    refine Tr.region ?_
    refine Tr.val (wn rfl) rfl (fun _ _ h1 h2 => run_fieldAddr fo_42_0 (h1.ev rfl)) ?_
    refine Tr.val (wn rfl) rfl (fun _ _ h1 h2 => run_load1 ag_3 (h1.ev rfl) (rdb h2 (vs := [(.int .i64 p1.X0), (.int .i64 p1.Y0), (.int .i64 p1.X1), (.int .i64 p1.Y1)]) (k := 2) rfl 0) rfl) ?_
    refine Tr.val (wn rfl) rfl (fun _ _ h1 h2 => run_fieldAddr fo_32_0 (h1.ev rfl)) ?_
    refine Tr.val (wn rfl) rfl (fun _ _ h1 h2 => run_load1 ag_3 (h1.ev rfl) (rdb h2 (vs := [(.int .i64 x110.X), (.int .i64 x110.Y)]) (k := 5) rfl 0) rfl) ?_
    refine Tr.val (wn rfl) rfl (fun _ _ h1 h2 => run_lss (h1.ev rfl) (h1.ev rfl)) ?_
    refine Tr.val (wn rfl) rfl (fun _ _ h1 h2 => run_move (h1.ev rfl)) ?_
    refine Tr.mid0 6 [(2, (.pointer (some ⟨b100, 0, none⟩))), (3, (.pointer (some ⟨b101, 0, none⟩))), (5, (.int .i64 x109)), (6, (.pointer (some ⟨b111, 0, none⟩))), (30, (.bool ((decide (p1.X0 < x110.X)) && (decide (x110.X < p1.X1)))))] [(1, bx b100 #[(.int .i64 p0.W), (.int .i64 p0.H), (.int .i64 p0.Rail), (.int .i64 p0.Gap), (.slice Ap0_0 (p0.Kinds).length cp0_0), (.slice Ap0_1 (p0.Slots).length cp0_1), (.slice Ap0_2 (p0.Marks).length cp0_2)] 26), (2, bx b101 #[(.int .i64 p1.X0), (.int .i64 p1.Y0), (.int .i64 p1.X1), (.int .i64 p1.Y1)] 42), (5, bx b111 #[(.int .i64 x110.X), (.int .i64 x110.Y)] 32)] ?_ ?_
    · cases hg111 : (decide (p1.X0 < x110.X))
      · refine Tr.pass rfl rfl rfl rfl rfl (by decide) ?_
        refine Tr.pass rfl rfl rfl rfl rfl (by decide) ?_
        refine Tr.pass rfl rfl rfl rfl rfl (by decide) ?_
        refine Tr.pass rfl rfl rfl rfl rfl (by decide) ?_
        refine Tr.pass rfl rfl rfl rfl rfl (by decide) ?_
        refine Tr.val (wn rfl) rfl (fun _ _ h1 h2 => run_pickF (h1.ev rfl) (h1.ev rfl)) ?_
        exact Tr.nil (Tr.fin0 (.cons rfl (.cons rfl (.cons rfl (.cons rfl (.cons rfl .nil))))) (.cons rfl (.cons rfl (.cons rfl .nil))))
      · refine Tr.val (wg rfl rfl rfl) rfl (fun _ _ h1 h2 => run_fieldAddr fo_32_0 (h1.ev rfl)) ?_
        refine Tr.val (wg rfl rfl rfl) rfl (fun _ _ h1 h2 => run_load1 ag_3 (h1.ev rfl) (rdb h2 (vs := [(.int .i64 x110.X), (.int .i64 x110.Y)]) (k := 5) rfl 0) rfl) ?_
        refine Tr.val (wg rfl rfl rfl) rfl (fun _ _ h1 h2 => run_fieldAddr fo_42_2 (h1.ev rfl)) ?_
        refine Tr.val (wg rfl rfl rfl) rfl (fun _ _ h1 h2 => run_load1 ag_3 (h1.ev rfl) (rdb h2 (vs := [(.int .i64 p1.X0), (.int .i64 p1.Y0), (.int .i64 p1.X1), (.int .i64 p1.Y1)]) (k := 2) rfl 2) rfl) ?_
        refine Tr.val (wg rfl rfl rfl) rfl (fun _ _ h1 h2 => run_lss (h1.ev rfl) (h1.ev rfl)) ?_
        refine Tr.val (wn rfl) rfl (fun _ _ h1 h2 => run_pickT (h1.ev rfl) (h1.ev rfl)) ?_
        exact Tr.nil (Tr.fin0 (.cons rfl (.cons rfl (.cons rfl (.cons rfl (.cons rfl .nil))))) (.cons rfl (.cons rfl (.cons rfl .nil))))
    · show Tr _ _ (LF [(2, (.pointer (some ⟨b100, 0, none⟩))), (3, (.pointer (some ⟨b101, 0, none⟩))), (5, (.int .i64 x109)), (6, (.pointer (some ⟨b111, 0, none⟩))), (30, (.bool ((decide (p1.X0 < x110.X)) && (decide (x110.X < p1.X1)))))]) (LE [(1, bx b100 #[(.int .i64 p0.W), (.int .i64 p0.H), (.int .i64 p0.Rail), (.int .i64 p0.Gap), (.slice Ap0_0 (p0.Kinds).length cp0_0), (.slice Ap0_1 (p0.Slots).length cp0_1), (.slice Ap0_2 (p0.Marks).length cp0_2)] 26), (2, bx b101 #[(.int .i64 p1.X0), (.int .i64 p1.Y0), (.int .i64 p1.X1), (.int .i64 p1.Y1)] 42), (5, bx b111 #[(.int .i64 x110.X), (.int .i64 x110.Y)] 32)]) _
      refine Tr.val (wn rfl) rfl (fun _ _ h1 h2 => run_move (h1.ev rfl)) ?_
      refine Tr.mid0 6 [(2, (.pointer (some ⟨b100, 0, none⟩))), (3, (.pointer (some ⟨b101, 0, none⟩))), (5, (.int .i64 x109)), (6, (.pointer (some ⟨b111, 0, none⟩))), (37, (.bool (((decide (p1.X0 < x110.X)) && (decide (x110.X < p1.X1))) && (decide (p1.Y0 < x110.Y)))))] [(1, bx b100 #[(.int .i64 p0.W), (.int .i64 p0.H), (.int .i64 p0.Rail), (.int .i64 p0.Gap), (.slice Ap0_0 (p0.Kinds).length cp0_0), (.slice Ap0_1 (p0.Slots).length cp0_1), (.slice Ap0_2 (p0.Marks).length cp0_2)] 26), (2, bx b101 #[(.int .i64 p1.X0), (.int .i64 p1.Y0), (.int .i64 p1.X1), (.int .i64 p1.Y1)] 42), (5, bx b111 #[(.int .i64 x110.X), (.int .i64 x110.Y)] 32)] ?_ ?_
      · cases hg111 : ((decide (p1.X0 < x110.X)) && (decide (x110.X < p1.X1)))
        · refine Tr.pass rfl rfl rfl rfl rfl (by decide) ?_
          refine Tr.pass rfl rfl rfl rfl rfl (by decide) ?_
          refine Tr.pass rfl rfl rfl rfl rfl (by decide) ?_
          refine Tr.pass rfl rfl rfl rfl rfl (by decide) ?_
          refine Tr.pass rfl rfl rfl rfl rfl (by decide) ?_
          refine Tr.val (wn rfl) rfl (fun _ _ h1 h2 => run_pickF (h1.ev rfl) (h1.ev rfl)) ?_
          exact Tr.nil (Tr.fin0 (.cons rfl (.cons rfl (.cons rfl (.cons rfl (.cons rfl .nil))))) (.cons rfl (.cons rfl (.cons rfl .nil))))
        · refine Tr.val (wg rfl rfl rfl) rfl (fun _ _ h1 h2 => run_fieldAddr fo_42_1 (h1.ev rfl)) ?_
          refine Tr.val (wg rfl rfl rfl) rfl (fun _ _ h1 h2 => run_load1 ag_3 (h1.ev rfl) (rdb h2 (vs := [(.int .i64 p1.X0), (.int .i64 p1.Y0), (.int .i64 p1.X1), (.int .i64 p1.Y1)]) (k := 2) rfl 1) rfl) ?_
          refine Tr.val (wg rfl rfl rfl) rfl (fun _ _ h1 h2 => run_fieldAddr fo_32_1 (h1.ev rfl)) ?_
          refine Tr.val (wg rfl rfl rfl) rfl (fun _ _ h1 h2 => run_load1 ag_3 (h1.ev rfl) (rdb h2 (vs := [(.int .i64 x110.X), (.int .i64 x110.Y)]) (k := 5) rfl 1) rfl) ?_
          refine Tr.val (wg rfl rfl rfl) rfl (fun _ _ h1 h2 => run_lss (h1.ev rfl) (h1.ev rfl)) ?_
          refine Tr.val (wn rfl) rfl (fun _ _ h1 h2 => run_pickT (h1.ev rfl) (h1.ev rfl)) ?_
          exact Tr.nil (Tr.fin0 (.cons rfl (.cons rfl (.cons rfl (.cons rfl (.cons rfl .nil))))) (.cons rfl (.cons rfl (.cons rfl .nil))))
      · show Tr _ _ (LF [(2, (.pointer (some ⟨b100, 0, none⟩))), (3, (.pointer (some ⟨b101, 0, none⟩))), (5, (.int .i64 x109)), (6, (.pointer (some ⟨b111, 0, none⟩))), (37, (.bool (((decide (p1.X0 < x110.X)) && (decide (x110.X < p1.X1))) && (decide (p1.Y0 < x110.Y)))))]) (LE [(1, bx b100 #[(.int .i64 p0.W), (.int .i64 p0.H), (.int .i64 p0.Rail), (.int .i64 p0.Gap), (.slice Ap0_0 (p0.Kinds).length cp0_0), (.slice Ap0_1 (p0.Slots).length cp0_1), (.slice Ap0_2 (p0.Marks).length cp0_2)] 26), (2, bx b101 #[(.int .i64 p1.X0), (.int .i64 p1.Y0), (.int .i64 p1.X1), (.int .i64 p1.Y1)] 42), (5, bx b111 #[(.int .i64 x110.X), (.int .i64 x110.Y)] 32)]) _
        refine Tr.val (wn rfl) rfl (fun _ _ h1 h2 => run_move (h1.ev rfl)) ?_
        refine Tr.mid0 6 [(2, (.pointer (some ⟨b100, 0, none⟩))), (3, (.pointer (some ⟨b101, 0, none⟩))), (5, (.int .i64 x109)), (44, (.bool ((((decide (p1.X0 < x110.X)) && (decide (x110.X < p1.X1))) && (decide (p1.Y0 < x110.Y))) && (decide (x110.Y < p1.Y1)))))] [(1, bx b100 #[(.int .i64 p0.W), (.int .i64 p0.H), (.int .i64 p0.Rail), (.int .i64 p0.Gap), (.slice Ap0_0 (p0.Kinds).length cp0_0), (.slice Ap0_1 (p0.Slots).length cp0_1), (.slice Ap0_2 (p0.Marks).length cp0_2)] 26), (2, bx b101 #[(.int .i64 p1.X0), (.int .i64 p1.Y0), (.int .i64 p1.X1), (.int .i64 p1.Y1)] 42), (5, bx b111 #[(.int .i64 x110.X), (.int .i64 x110.Y)] 32)] ?_ ?_
        · cases hg111 : (((decide (p1.X0 < x110.X)) && (decide (x110.X < p1.X1))) && (decide (p1.Y0 < x110.Y)))
          · refine Tr.pass rfl rfl rfl rfl rfl (by decide) ?_
            refine Tr.pass rfl rfl rfl rfl rfl (by decide) ?_
            refine Tr.pass rfl rfl rfl rfl rfl (by decide) ?_
            refine Tr.pass rfl rfl rfl rfl rfl (by decide) ?_
            refine Tr.pass rfl rfl rfl rfl rfl (by decide) ?_
            refine Tr.val (wn rfl) rfl (fun _ _ h1 h2 => run_pickF (h1.ev rfl) (h1.ev rfl)) ?_
            exact Tr.nil (Tr.fin0 (.cons rfl (.cons rfl (.cons rfl (.cons rfl .nil)))) (.cons rfl (.cons rfl (.cons rfl .nil))))
          · refine Tr.val (wg rfl rfl rfl) rfl (fun _ _ h1 h2 => run_fieldAddr fo_32_1 (h1.ev rfl)) ?_
            refine Tr.val (wg rfl rfl rfl) rfl (fun _ _ h1 h2 => run_load1 ag_3 (h1.ev rfl) (rdb h2 (vs := [(.int .i64 x110.X), (.int .i64 x110.Y)]) (k := 5) rfl 1) rfl) ?_
            refine Tr.val (wg rfl rfl rfl) rfl (fun _ _ h1 h2 => run_fieldAddr fo_42_3 (h1.ev rfl)) ?_
            refine Tr.val (wg rfl rfl rfl) rfl (fun _ _ h1 h2 => run_load1 ag_3 (h1.ev rfl) (rdb h2 (vs := [(.int .i64 p1.X0), (.int .i64 p1.Y0), (.int .i64 p1.X1), (.int .i64 p1.Y1)]) (k := 2) rfl 3) rfl) ?_
            refine Tr.val (wg rfl rfl rfl) rfl (fun _ _ h1 h2 => run_lss (h1.ev rfl) (h1.ev rfl)) ?_
            refine Tr.val (wn rfl) rfl (fun _ _ h1 h2 => run_pickT (h1.ev rfl) (h1.ev rfl)) ?_
            exact Tr.nil (Tr.fin0 (.cons rfl (.cons rfl (.cons rfl (.cons rfl .nil)))) (.cons rfl (.cons rfl (.cons rfl .nil))))
        · show Tr _ _ (LF [(2, (.pointer (some ⟨b100, 0, none⟩))), (3, (.pointer (some ⟨b101, 0, none⟩))), (5, (.int .i64 x109)), (44, (.bool ((((decide (p1.X0 < x110.X)) && (decide (x110.X < p1.X1))) && (decide (p1.Y0 < x110.Y))) && (decide (x110.Y < p1.Y1)))))]) (LE [(1, bx b100 #[(.int .i64 p0.W), (.int .i64 p0.H), (.int .i64 p0.Rail), (.int .i64 p0.Gap), (.slice Ap0_0 (p0.Kinds).length cp0_0), (.slice Ap0_1 (p0.Slots).length cp0_1), (.slice Ap0_2 (p0.Marks).length cp0_2)] 26), (2, bx b101 #[(.int .i64 p1.X0), (.int .i64 p1.Y0), (.int .i64 p1.X1), (.int .i64 p1.Y1)] 42), (5, bx b111 #[(.int .i64 x110.X), (.int .i64 x110.Y)] 32)]) _
          refine Tr.nil (Tr.normThen ?_)
          refine Tr.cond rfl H (fun H => ?_) (fun H => ?_)
          · refine Tr.seq ?_
            refine Tr.region ?_
            refine Tr.val (wn rfl) rfl (fun _ _ h1 h2 => run_assign (h1.ev rfl)) ?_
            refine Tr.nil (Tr.normThen ?_)
            refine Tr.ret (Tr.retBlock (Tr.retThen (Tr.retThen (Tr.retBlock (Tr.retThen ?_)))))
            obtain rfl := Option.some.inj H
            exact Tr.out (m := [(.bool true)]) [] (res_tmp rfl res_nil) (fun W hW => ⟨rfl, hW.low leB⟩)
          · refine Tr.skip (Tr.normBlock (Tr.normThen ?_))
            refine Tr.region ?_
            refine Tr.val (wn rfl) rfl (fun _ _ h1 h2 => run_move (h1.ev rfl)) ?_
            refine Tr.val (wn rfl) rfl (fun _ _ h1 h2 => run_add (h1.ev rfl) (h1.ev rfl)) ?_
            refine Tr.val (wn rfl) rfl (fun _ _ h1 h2 => run_assign (h1.ev rfl)) ?_
            refine Tr.nil ?_
            exact Tr.backThen leF_etchhouseref9_marked_L1 (w64 (x109 + 1)) H (.cons rfl (.cons rfl (.cons rfl .nil))) (.cons rfl (.cons rfl .nil))
  · refine Tr.exit (Tr.exitThen (Tr.exitThen (Tr.exitBlock (Tr.normThen ?_))))
    refine Tr.seq ?_
    refine Tr.region ?_
    refine Tr.val (wn rfl) rfl (fun _ _ h1 h2 => run_assign (h1.ev rfl)) ?_
    refine Tr.nil (Tr.normThen ?_)
    refine Tr.ret ?_
    obtain rfl := Option.some.inj H
    exact Tr.out (m := [(.bool false)]) [] (res_tmp rfl res_nil) (fun W hW => ⟨rfl, hW.low leB⟩)

theorem F_etchhouseref9_fits_ok (N : Nat) {w : Bs} (p0 : TPanel) (Ap0_0 : Option Addr) (cp0_0 : Nat) (hp0_0 : Sl w.R w.W fl_TBoardKind Ap0_0 cp0_0 p0.Kinds) (Ap0_1 : Option Addr) (cp0_1 : Nat) (hp0_1 : Sl w.R w.W fl_TSlot Ap0_1 cp0_1 p0.Slots) (Ap0_2 : Option Addr) (cp0_2 : Nat) (hp0_2 : Sl w.R w.W fl_TPoint Ap0_2 cp0_2 p0.Marks) (p1 : TSlot) (r : Bool) (H : F_etchhouseref9_fits N p0 p1 = some r) (hE : HF w w.W E0) : Calls Try.prog 79 [(.agg #[(.int .i64 p0.W), (.int .i64 p0.H), (.int .i64 p0.Rail), (.int .i64 p0.Gap), (.slice Ap0_0 (p0.Kinds).length cp0_0), (.slice Ap0_1 (p0.Slots).length cp0_1), (.slice Ap0_2 (p0.Marks).length cp0_2)]), (.agg #[(.string p1.Board), (.int .i64 p1.Quarters), (.int .i64 p1.At.X), (.int .i64 p1.At.Y)])].toArray w.W fun e W' => e = .returned (.bool r) ∧ HF w W' E0 := by
  unfold F_etchhouseref9_fits at H
  have leB := Bs.Le.refl w
  refine Tr.enter (n := 57) Try.func79 rfl rfl rfl hE ?_
  refine Tr.seq ?_
  refine Tr.region ?_
  refine Tr.box 1 (cs := [(.int .i64 p0.W), (.int .i64 p0.H), (.int .i64 p0.Rail), (.int .i64 p0.Gap), (.slice Ap0_0 (p0.Kinds).length cp0_0), (.slice Ap0_1 (p0.Slots).length cp0_1), (.slice Ap0_2 (p0.Marks).length cp0_2)]) (wn rfl) rfl rfl rfl fun b100 => ?_
  refine Tr.box 2 (cs := [(.string p1.Board), (.int .i64 p1.Quarters), (.int .i64 p1.At.X), (.int .i64 p1.At.Y)]) (wn rfl) rfl rfl rfl fun b101 => ?_
  refine Tr.val (wn rfl) rfl (fun _ _ h1 h2 => run_assign (h1.ev rfl)) ?_
  refine Tr.nil (Tr.normThen ?_)
  refine Tr.seq ?_
  refine Tr.draw (by kernel_rfl) (by kernel_rfl) ?_
  refine Tq.val (wn rfl) rfl (fun _ _ h1 h2 => run_fieldAddr fo_26_4 (h1.ev rfl)) ?_
  refine Tq.val (wn rfl) rfl (fun _ _ h1 h2 => run_load1 ag_22 (h1.ev rfl) (rdb h2 (vs := [(.int .i64 p0.W), (.int .i64 p0.H), (.int .i64 p0.Rail), (.int .i64 p0.Gap), (.slice Ap0_0 (p0.Kinds).length cp0_0), (.slice Ap0_1 (p0.Slots).length cp0_1), (.slice Ap0_2 (p0.Marks).length cp0_2)]) (k := 1) rfl 4) rfl) ?_
  refine Tq.val (wn rfl) rfl (fun _ _ h1 h2 => run_loadN (cs := [(.int .i64 p0.W), (.int .i64 p0.H), (.int .i64 p0.Rail), (.int .i64 p0.Gap), (.slice Ap0_0 (p0.Kinds).length cp0_0), (.slice Ap0_1 (p0.Slots).length cp0_1), (.slice Ap0_2 (p0.Marks).length cp0_2)]) ag_26 sz_26 (h1.ev rfl) (CellsAt.take (rdb h2 (vs := [(.int .i64 p0.W), (.int .i64 p0.H), (.int .i64 p0.Rail), (.int .i64 p0.Gap), (.slice Ap0_0 (p0.Kinds).length cp0_0), (.slice Ap0_1 (p0.Slots).length cp0_1), (.slice Ap0_2 (p0.Marks).length cp0_2)]) (k := 1) rfl 0) 7) rfl) ?_
  refine Tq.val (wn rfl) rfl (fun _ _ h1 h2 => run_fieldAddr fo_34_0 (h1.ev rfl)) ?_
  refine Tq.val (wn rfl) rfl (fun _ _ h1 h2 => run_load1 ag_9 (h1.ev rfl) (rdb h2 (vs := [(.string p1.Board), (.int .i64 p1.Quarters), (.int .i64 p1.At.X), (.int .i64 p1.At.Y)]) (k := 2) rfl 0) rfl) ?_
  obtain ⟨y102, hy102, H⟩ := bnd H
  refine Tq.call0 (r := (.int .i64 y102)) (wn rfl) rfl Try.call55 (evl_cons rfl (evl_cons rfl evl_nil)) (fun W hW => F_etchhouseref9_kind_ok N p0 Ap0_0 cp0_0 (hp0_0.ext hW.extAll) Ap0_1 cp0_1 (hp0_1.ext hW.extAll) Ap0_2 cp0_2 (hp0_2.ext hW.extAll) p1.Board y102 hy102 (HF.start _)) ?_
  obtain ⟨x103, hx103, H⟩ := bnd H
  obtain ⟨hx1030, hx1031, hx1032⟩ := idx_some hx103
  refine Tq.val (wn rfl) rfl (fun _ _ h1 h2 => run_indexAddr el_22 (h1.ev rfl) hp0_0.form (h1.ev rfl) hx1030 hx1031) ?_
  refine Tq.val (wn rfl) rfl (fun _ _ h1 h2 => run_loadN (cs := [(.string x103.Name), (.int .i64 x103.W), (.int .i64 x103.H)]) ag_82 sz_82 (h1.ev rfl) (CellsAt.take (rdF ef_TBoardKind hp0_0 hx1032 h2) 3) rfl) ?_
  refine Tq.val (wn rfl) rfl (fun _ _ h1 h2 => run_fieldAddr fo_34_1 (h1.ev rfl)) ?_
  refine Tq.val (wn rfl) rfl (fun _ _ h1 h2 => run_load1 ag_3 (h1.ev rfl) (rdb h2 (vs := [(.string p1.Board), (.int .i64 p1.Quarters), (.int .i64 p1.At.X), (.int .i64 p1.At.Y)]) (k := 2) rfl 1) rfl) ?_
  obtain ⟨y104, hy104, H⟩ := bnd H
  refine Tq.call0 (r := (.tuple #[(.int .i64 y104.1), (.int .i64 y104.2)])) (wn rfl) rfl Try.call62 (evl_cons rfl (evl_cons rfl evl_nil)) (fun W hW => F_etchhouseref9_sizeOf_ok x103 p1.Quarters y104 hy104 (HF.start _)) ?_
  refine Tq.val (wn rfl) rfl (fun _ _ h1 h2 => run_move (h1.ev rfl)) ?_
  refine Tq.val (wn rfl) rfl (fun _ _ h1 h2 => run_extract (h1.ev rfl) rfl) ?_
  refine Tq.val (wn rfl) rfl (fun _ _ h1 h2 => run_extract (h1.ev rfl) rfl) ?_
  refine Tq.val (wn rfl) rfl (fun _ _ h1 h2 => run_assign (h1.ev rfl)) ?_
  refine Tq.val (wn rfl) rfl (fun _ _ h1 h2 => run_assign (h1.ev rfl)) ?_
  refine Tq.nil (Tr.normThen ?_)
  refine Tr.seq ?_
  refine Tr.seq ?_
  refine Tr.draw (by kernel_rfl) (by kernel_rfl) ?_
  refine Tq.val (wn rfl) rfl (fun _ _ h1 h2 => run_loadN (cs := [(.int .i64 p0.W), (.int .i64 p0.H), (.int .i64 p0.Rail), (.int .i64 p0.Gap), (.slice Ap0_0 (p0.Kinds).length cp0_0), (.slice Ap0_1 (p0.Slots).length cp0_1), (.slice Ap0_2 (p0.Marks).length cp0_2)]) ag_26 sz_26 (h1.ev rfl) (CellsAt.take (rdb h2 (vs := [(.int .i64 p0.W), (.int .i64 p0.H), (.int .i64 p0.Rail), (.int .i64 p0.Gap), (.slice Ap0_0 (p0.Kinds).length cp0_0), (.slice Ap0_1 (p0.Slots).length cp0_1), (.slice Ap0_2 (p0.Marks).length cp0_2)]) (k := 1) rfl 0) 7) rfl) ?_
  refine Tq.val (wn rfl) rfl (fun _ _ h1 h2 => run_fieldAddr fo_34_2 (h1.ev rfl)) ?_
  refine Tq.val (wn rfl) rfl (fun _ _ h1 h2 => run_loadN (cs := [(.int .i64 p1.At.X), (.int .i64 p1.At.Y)]) ag_32 sz_32 (h1.ev rfl) (CellsAt.take (rdb h2 (vs := [(.string p1.Board), (.int .i64 p1.Quarters), (.int .i64 p1.At.X), (.int .i64 p1.At.Y)]) (k := 2) rfl 2) 2) rfl) ?_
  refine Tq.val (wn rfl) rfl (fun _ _ h1 h2 => run_move (h1.ev rfl)) ?_
  refine Tq.val (wn rfl) rfl (fun _ _ h1 h2 => run_move (h1.ev rfl)) ?_
  obtain ⟨y105, hy105, H⟩ := bnd H
  refine Tq.call0 (r := (.bool y105)) (wn rfl) rfl Try.call108 (evl_cons rfl (evl_cons rfl (evl_cons rfl (evl_cons rfl evl_nil)))) (fun W hW => F_etchhouseref9_lies_ok p0 Ap0_0 cp0_0 (hp0_0.ext hW.extAll) Ap0_1 cp0_1 (hp0_1.ext hW.extAll) Ap0_2 cp0_2 (hp0_2.ext hW.extAll) p1.At y104.1 y104.2 y105 hy105 (HF.start _)) ?_
  refine Tq.val (wn rfl) rfl (fun _ _ h1 h2 => run_not (h1.ev rfl)) ?_
  refine Tq.val (wn rfl) rfl (fun _ _ h1 h2 => run_move (h1.ev rfl)) ?_
  obtain ⟨g108, hg108, H⟩ := bnd H
  refine Tq.mid 6 [(2, (.pointer (some ⟨b100, 0, none⟩))), (3, (.pointer (some ⟨b101, 0, none⟩))), (35, (.bool g108))] ?_ ?_
  · cases hg126 : (!y105)
    · rw [hg126] at hg108
      rw [if_neg (by decide)] at hg108
      have H := hg108
      refine Tq.val (wg rfl rfl rfl) rfl (fun _ _ h1 h2 => run_loadN (cs := [(.int .i64 p0.W), (.int .i64 p0.H), (.int .i64 p0.Rail), (.int .i64 p0.Gap), (.slice Ap0_0 (p0.Kinds).length cp0_0), (.slice Ap0_1 (p0.Slots).length cp0_1), (.slice Ap0_2 (p0.Marks).length cp0_2)]) ag_26 sz_26 (h1.ev rfl) (CellsAt.take (rdb h2 (vs := [(.int .i64 p0.W), (.int .i64 p0.H), (.int .i64 p0.Rail), (.int .i64 p0.Gap), (.slice Ap0_0 (p0.Kinds).length cp0_0), (.slice Ap0_1 (p0.Slots).length cp0_1), (.slice Ap0_2 (p0.Marks).length cp0_2)]) (k := 1) rfl 0) 7) rfl) ?_
      refine Tq.val (wg rfl rfl rfl) rfl (fun _ _ h1 h2 => run_loadN (cs := [(.int .i64 p0.W), (.int .i64 p0.H), (.int .i64 p0.Rail), (.int .i64 p0.Gap), (.slice Ap0_0 (p0.Kinds).length cp0_0), (.slice Ap0_1 (p0.Slots).length cp0_1), (.slice Ap0_2 (p0.Marks).length cp0_2)]) ag_26 sz_26 (h1.ev rfl) (CellsAt.take (rdb h2 (vs := [(.int .i64 p0.W), (.int .i64 p0.H), (.int .i64 p0.Rail), (.int .i64 p0.Gap), (.slice Ap0_0 (p0.Kinds).length cp0_0), (.slice Ap0_1 (p0.Slots).length cp0_1), (.slice Ap0_2 (p0.Marks).length cp0_2)]) (k := 1) rfl 0) 7) rfl) ?_
      refine Tq.val (wg rfl rfl rfl) rfl (fun _ _ h1 h2 => run_loadN (cs := [(.string p1.Board), (.int .i64 p1.Quarters), (.int .i64 p1.At.X), (.int .i64 p1.At.Y)]) ag_34 sz_34 (h1.ev rfl) (CellsAt.take (rdb h2 (vs := [(.string p1.Board), (.int .i64 p1.Quarters), (.int .i64 p1.At.X), (.int .i64 p1.At.Y)]) (k := 2) rfl 0) 4) rfl) ?_
      obtain ⟨y109, hy109, H⟩ := bnd H
      refine Tq.call0 (r := (.agg #[(.int .i64 y109.X0), (.int .i64 y109.Y0), (.int .i64 y109.X1), (.int .i64 y109.Y1)])) (wg rfl rfl rfl) rfl Try.call50 (evl_cons rfl (evl_cons rfl evl_nil)) (fun W hW => F_etchhouseref9_cellOf_ok N p0 Ap0_0 cp0_0 (hp0_0.ext hW.extAll) Ap0_1 cp0_1 (hp0_1.ext hW.extAll) Ap0_2 cp0_2 (hp0_2.ext hW.extAll) p1 y109 hy109 (HF.start _)) ?_
      obtain ⟨y110, hy110, H⟩ := bnd H
      refine Tq.call0 (r := (.bool y110)) (wg rfl rfl rfl) rfl Try.call109 (evl_cons rfl (evl_cons rfl evl_nil)) (fun W hW => F_etchhouseref9_marked_ok N p0 Ap0_0 cp0_0 (hp0_0.ext hW.extAll) Ap0_1 cp0_1 (hp0_1.ext hW.extAll) Ap0_2 cp0_2 (hp0_2.ext hW.extAll) y109 y110 hy110 (HF.start _)) ?_
      refine Tq.val (wn rfl) rfl (fun _ _ h1 h2 => run_pickF (h1.ev rfl) (h1.ev rfl)) ?_
      obtain rfl := Option.some.inj H
      exact Tq.fin (.cons rfl (.cons rfl (.cons rfl .nil)))
    · rw [hg126] at hg108
      rw [if_pos rfl] at hg108
      have H := hg108
      obtain rfl := Option.some.inj H
      refine Tq.pass rfl rfl rfl rfl rfl (by decide) ?_
      refine Tq.pass rfl rfl rfl rfl rfl (by decide) ?_
      refine Tq.pass rfl rfl rfl rfl rfl (by decide) ?_
      refine Tq.pass rfl rfl rfl rfl rfl (by decide) ?_
      refine Tq.pass rfl rfl rfl rfl rfl (by decide) ?_
      refine Tq.val (wn rfl) rfl (fun _ _ h1 h2 => run_pickT (h1.ev rfl) (h1.ev rfl)) ?_
      exact Tq.fin (.cons rfl (.cons rfl (.cons rfl .nil)))
  · refine Tq.nil (Tr.normThen ?_)
    refine Tr.cond rfl H (fun H => ?_) (fun H => ?_)
    · refine Tr.seq ?_
      refine Tr.region ?_
      refine Tr.val (wn rfl) rfl (fun _ _ h1 h2 => run_assign (h1.ev rfl)) ?_
      refine Tr.nil (Tr.normThen ?_)
      refine Tr.ret (Tr.retThen ?_)
      obtain rfl := Option.some.inj H
      exact Tr.out (m := [(.bool false)]) [] (res_tmp rfl res_nil) (fun W hW => ⟨rfl, hW.low leB⟩)
    · refine Tr.skip (Tr.normThen ?_)
      refine Tr.seq ?_
      refine Tr.seq ?_
      refine Tr.region ?_
      refine Tr.val (wn rfl) rfl (fun _ _ h1 h2 => run_assign (h1.ev rfl)) ?_
      refine Tr.nil (Tr.normThen ?_)
      refine Tr.block ?_
      refine Tr.loop (σ := Int) (fun m w s => F_etchhouseref9_fits_L1 N p0 p1 m s = some r) (fun s => [(2, (.pointer (some ⟨b100, 0, none⟩))), (3, (.pointer (some ⟨b101, 0, none⟩))), (7, (.int .i64 s))]) (fun s => [(1, bx b100 #[(.int .i64 p0.W), (.int .i64 p0.H), (.int .i64 p0.Rail), (.int .i64 p0.Gap), (.slice Ap0_0 (p0.Kinds).length cp0_0), (.slice Ap0_1 (p0.Slots).length cp0_1), (.slice Ap0_2 (p0.Marks).length cp0_2)] 26), (2, bx b101 #[(.string p1.Board), (.int .i64 p1.Quarters), (.int .i64 p1.At.X), (.int .i64 p1.At.Y)] 34)]) N 0 H (.cons rfl (.cons rfl (.cons rfl .nil))) (.cons rfl (.cons rfl .nil)) (fun _ _ h => noSome (h)) ?_
      intro w leF_etchhouseref9_fits_L1 mF_etchhouseref9_fits_L1 x122 hs
      have H := hs
      replace H : F_etchhouseref9_fits_L1 N p0 p1 (mF_etchhouseref9_fits_L1 + 1) x122 = some r := H
      replace hp0_0 := hp0_0.leR leF_etchhouseref9_fits_L1
      replace hp0_1 := hp0_1.leR leF_etchhouseref9_fits_L1
      replace hp0_2 := hp0_2.leR leF_etchhouseref9_fits_L1
      replace leB := leB.trans leF_etchhouseref9_fits_L1
      rw [F_etchhouseref9_fits_L1.eq_2] at H
      show Tr _ _ (LF [(2, (.pointer (some ⟨b100, 0, none⟩))), (3, (.pointer (some ⟨b101, 0, none⟩))), (7, (.int .i64 x122))]) (LE [(1, bx b100 #[(.int .i64 p0.W), (.int .i64 p0.H), (.int .i64 p0.Rail), (.int .i64 p0.Gap), (.slice Ap0_0 (p0.Kinds).length cp0_0), (.slice Ap0_1 (p0.Slots).length cp0_1), (.slice Ap0_2 (p0.Marks).length cp0_2)] 26), (2, bx b101 #[(.string p1.Board), (.int .i64 p1.Quarters), (.int .i64 p1.At.X), (.int .i64 p1.At.Y)] 34)]) _
      refine Tr.seq ?_
      refine Tr.seq ?_
      refine Tr.region ?_
      refine Tr.val (wn rfl) rfl (fun _ _ h1 h2 => run_move (h1.ev rfl)) ?_
      refine Tr.val (wn rfl) rfl (fun _ _ h1 h2 => run_fieldAddr fo_26_5 (h1.ev rfl)) ?_
      refine Tr.val (wn rfl) rfl (fun _ _ h1 h2 => run_load1 ag_23 (h1.ev rfl) (rdb h2 (vs := [(.int .i64 p0.W), (.int .i64 p0.H), (.int .i64 p0.Rail), (.int .i64 p0.Gap), (.slice Ap0_0 (p0.Kinds).length cp0_0), (.slice Ap0_1 (p0.Slots).length cp0_1), (.slice Ap0_2 (p0.Marks).length cp0_2)]) (k := 1) rfl 5) rfl) ?_
      refine Tr.val (wn rfl) rfl (fun _ _ h1 h2 => run_len un_23 (h1.ev rfl)) ?_
      refine Tr.val (wn rfl) rfl (fun _ _ h1 h2 => run_lss (h1.ev rfl) (h1.ev rfl)) ?_
      refine Tr.nil (Tr.normThen ?_)
      refine Tr.cond rfl H (fun H => ?_) (fun H => ?_)
      · refine Tr.skip (Tr.normThen ?_)
        refine Tr.seq ?_
        refine Tr.block ?_
        refine Tr.seq ?_
        refine Tr.draw (by kernel_rfl) (by kernel_rfl) ?_
        refine Tq.val (wn rfl) rfl (fun _ _ h1 h2 => run_loadN (cs := [(.int .i64 p0.W), (.int .i64 p0.H), (.int .i64 p0.Rail), (.int .i64 p0.Gap), (.slice Ap0_0 (p0.Kinds).length cp0_0), (.slice Ap0_1 (p0.Slots).length cp0_1), (.slice Ap0_2 (p0.Marks).length cp0_2)]) ag_26 sz_26 (h1.ev rfl) (CellsAt.take (rdb h2 (vs := [(.int .i64 p0.W), (.int .i64 p0.H), (.int .i64 p0.Rail), (.int .i64 p0.Gap), (.slice Ap0_0 (p0.Kinds).length cp0_0), (.slice Ap0_1 (p0.Slots).length cp0_1), (.slice Ap0_2 (p0.Marks).length cp0_2)]) (k := 1) rfl 0) 7) rfl) ?_
        refine Tq.val (wn rfl) rfl (fun _ _ h1 h2 => run_loadN (cs := [(.string p1.Board), (.int .i64 p1.Quarters), (.int .i64 p1.At.X), (.int .i64 p1.At.Y)]) ag_34 sz_34 (h1.ev rfl) (CellsAt.take (rdb h2 (vs := [(.string p1.Board), (.int .i64 p1.Quarters), (.int .i64 p1.At.X), (.int .i64 p1.At.Y)]) (k := 2) rfl 0) 4) rfl) ?_
        obtain ⟨y123, hy123, H⟩ := bnd H
        refine Tq.call0 (r := (.agg #[(.int .i64 y123.X0), (.int .i64 y123.Y0), (.int .i64 y123.X1), (.int .i64 y123.Y1)])) (wn rfl) rfl Try.call50 (evl_cons rfl (evl_cons rfl evl_nil)) (fun W hW => F_etchhouseref9_cellOf_ok N p0 Ap0_0 cp0_0 (hp0_0.ext hW.extAll) Ap0_1 cp0_1 (hp0_1.ext hW.extAll) Ap0_2 cp0_2 (hp0_2.ext hW.extAll) p1 y123 hy123 (HF.start _)) ?_
        refine Tq.val (wn rfl) rfl (fun _ _ h1 h2 => run_loadN (cs := [(.int .i64 p0.W), (.int .i64 p0.H), (.int .i64 p0.Rail), (.int .i64 p0.Gap), (.slice Ap0_0 (p0.Kinds).length cp0_0), (.slice Ap0_1 (p0.Slots).length cp0_1), (.slice Ap0_2 (p0.Marks).length cp0_2)]) ag_26 sz_26 (h1.ev rfl) (CellsAt.take (rdb h2 (vs := [(.int .i64 p0.W), (.int .i64 p0.H), (.int .i64 p0.Rail), (.int .i64 p0.Gap), (.slice Ap0_0 (p0.Kinds).length cp0_0), (.slice Ap0_1 (p0.Slots).length cp0_1), (.slice Ap0_2 (p0.Marks).length cp0_2)]) (k := 1) rfl 0) 7) rfl) ?_
        refine Tq.val (wn rfl) rfl (fun _ _ h1 h2 => run_fieldAddr fo_26_5 (h1.ev rfl)) ?_
        refine Tq.val (wn rfl) rfl (fun _ _ h1 h2 => run_load1 ag_23 (h1.ev rfl) (rdb h2 (vs := [(.int .i64 p0.W), (.int .i64 p0.H), (.int .i64 p0.Rail), (.int .i64 p0.Gap), (.slice Ap0_0 (p0.Kinds).length cp0_0), (.slice Ap0_1 (p0.Slots).length cp0_1), (.slice Ap0_2 (p0.Marks).length cp0_2)]) (k := 1) rfl 5) rfl) ?_
        refine Tq.val (wn rfl) rfl (fun _ _ h1 h2 => run_move (h1.ev rfl)) ?_
        obtain ⟨x124, hx124, H⟩ := bnd H
        obtain ⟨hx1240, hx1241, hx1242⟩ := idx_some hx124
        refine Tq.val (wn rfl) rfl (fun _ _ h1 h2 => run_indexAddr el_23 (h1.ev rfl) hp0_1.form (h1.ev rfl) hx1240 hx1241) ?_
        refine Tq.val (wn rfl) rfl (fun _ _ h1 h2 => run_loadN (cs := [(.string x124.Board), (.int .i64 x124.Quarters), (.int .i64 x124.At.X), (.int .i64 x124.At.Y)]) ag_34 sz_34 (h1.ev rfl) (CellsAt.take (rdF ef_TSlot hp0_1 hx1242 h2) 4) rfl) ?_
        obtain ⟨y125, hy125, H⟩ := bnd H
        refine Tq.call0 (r := (.agg #[(.int .i64 y125.X0), (.int .i64 y125.Y0), (.int .i64 y125.X1), (.int .i64 y125.Y1)])) (wn rfl) rfl Try.call50 (evl_cons rfl (evl_cons rfl evl_nil)) (fun W hW => F_etchhouseref9_cellOf_ok N p0 Ap0_0 cp0_0 (hp0_0.ext hW.extAll) Ap0_1 cp0_1 (hp0_1.ext hW.extAll) Ap0_2 cp0_2 (hp0_2.ext hW.extAll) x124 y125 hy125 (HF.start _)) ?_
        refine Tq.val (wn rfl) rfl (fun _ _ h1 h2 => run_fieldAddr fo_26_3 (h1.ev rfl)) ?_
        refine Tq.val (wn rfl) rfl (fun _ _ h1 h2 => run_load1 ag_3 (h1.ev rfl) (rdb h2 (vs := [(.int .i64 p0.W), (.int .i64 p0.H), (.int .i64 p0.Rail), (.int .i64 p0.Gap), (.slice Ap0_0 (p0.Kinds).length cp0_0), (.slice Ap0_1 (p0.Slots).length cp0_1), (.slice Ap0_2 (p0.Marks).length cp0_2)]) (k := 1) rfl 3) rfl) ?_
        obtain ⟨y126, hy126, H⟩ := bnd H
        refine Tq.call0 (r := (.bool y126)) (wn rfl) rfl Try.call110 (evl_cons rfl (evl_cons rfl (evl_cons rfl evl_nil))) (fun W hW => F_etchhouseref9_apart_ok y123 y125 p0.Gap y126 hy126 (HF.start _)) ?_
        refine Tq.val (wn rfl) rfl (fun _ _ h1 h2 => run_not (h1.ev rfl)) ?_
        refine Tq.nil (Tr.normThen ?_)
        refine Tr.cond rfl H (fun H => ?_) (fun H => ?_)
        · refine Tr.seq ?_
          refine Tr.region ?_
          refine Tr.val (wn rfl) rfl (fun _ _ h1 h2 => run_assign (h1.ev rfl)) ?_
          refine Tr.nil (Tr.normThen ?_)
          refine Tr.ret (Tr.retBlock (Tr.retThen (Tr.retThen (Tr.retBlock (Tr.retThen ?_)))))
          obtain rfl := Option.some.inj H
          exact Tr.out (m := [(.bool false)]) [] (res_tmp rfl res_nil) (fun W hW => ⟨rfl, hW.low leB⟩)
        · refine Tr.skip (Tr.normBlock (Tr.normThen ?_))
          refine Tr.region ?_
          refine Tr.val (wn rfl) rfl (fun _ _ h1 h2 => run_move (h1.ev rfl)) ?_
          refine Tr.val (wn rfl) rfl (fun _ _ h1 h2 => run_add (h1.ev rfl) (h1.ev rfl)) ?_
          refine Tr.val (wn rfl) rfl (fun _ _ h1 h2 => run_assign (h1.ev rfl)) ?_
          refine Tr.nil ?_
          exact Tr.backThen leF_etchhouseref9_fits_L1 (w64 (x122 + 1)) H (.cons rfl (.cons rfl (.cons rfl .nil))) (.cons rfl (.cons rfl .nil))
      · refine Tr.exit (Tr.exitThen (Tr.exitThen (Tr.exitBlock (Tr.normThen ?_))))
        refine Tr.seq ?_
        refine Tr.region ?_
        refine Tr.val (wn rfl) rfl (fun _ _ h1 h2 => run_assign (h1.ev rfl)) ?_
        refine Tr.nil (Tr.normThen ?_)
        refine Tr.ret ?_
        obtain rfl := Option.some.inj H
        exact Tr.out (m := [(.bool true)]) [] (res_tmp rfl res_nil) (fun W hW => ⟨rfl, hW.low leB⟩)

theorem F_etchhouseref9_laid_ok (N : Nat) {w : Bs} (p0 : TPanel) (Ap0_0 : Option Addr) (cp0_0 : Nat) (hp0_0 : Sl w.O w.W fl_TBoardKind Ap0_0 cp0_0 p0.Kinds) (Ap0_1 : Option Addr) (cp0_1 : Nat) (hp0_1 : Sl w.R w.W fl_TSlot Ap0_1 cp0_1 p0.Slots) (Ap0_2 : Option Addr) (cp0_2 : Nat) (hp0_2 : Sl w.O w.W fl_TPoint Ap0_2 cp0_2 p0.Marks) (p1 : (List TSlot)) (Ap1_0 : Option Addr) (cp1_0 : Nat) (hp1_0 : Sl w.O w.W fl_TSlot Ap1_0 cp1_0 p1) (r : (TPanel × Int)) (H : F_etchhouseref9_laid N p0 p1 = some r) (hE : HF w w.W (LEn [])) : Calls Try.prog 65 [(.agg #[(.int .i64 p0.W), (.int .i64 p0.H), (.int .i64 p0.Rail), (.int .i64 p0.Gap), (.slice Ap0_0 (p0.Kinds).length cp0_0), (.slice Ap0_1 (p0.Slots).length cp0_1), (.slice Ap0_2 (p0.Marks).length cp0_2)]), (.slice Ap1_0 (p1).length cp1_0)].toArray w.W fun e W' => ∃ (w' : Bs) (u : (Option Addr × Nat) × (Option Addr × Nat) × (Option Addr × Nat)), w.Le w' ∧ e = .returned (.tuple #[(.agg #[(.int .i64 r.1.W), (.int .i64 r.1.H), (.int .i64 r.1.Rail), (.int .i64 r.1.Gap), (.slice u.1.1 (r.1.Kinds).length u.1.2), (.slice u.2.1.1 (r.1.Slots).length u.2.1.2), (.slice u.2.2.1 (r.1.Marks).length u.2.2.2)]), (.int .i64 r.2)]) ∧ (Sl w'.O w'.W fl_TBoardKind u.1.1 u.1.2 r.1.Kinds ∧ Sl w'.O w'.W fl_TSlot u.2.1.1 u.2.1.2 r.1.Slots ∧ Sl w'.O w'.W fl_TPoint u.2.2.1 u.2.2.2 r.1.Marks) ∧ HF w' W' (LEn []) := by
  unfold F_etchhouseref9_laid at H
  have leB := Bs.Le.refl w
  refine Tr.enter (n := 16) Try.func65 rfl rfl rfl hE ?_
  refine Tr.seq ?_
  refine Tr.region ?_
  refine Tr.box 1 (cs := [(.int .i64 p0.W), (.int .i64 p0.H), (.int .i64 p0.Rail), (.int .i64 p0.Gap), (.slice Ap0_0 (p0.Kinds).length cp0_0), (.slice Ap0_1 (p0.Slots).length cp0_1), (.slice Ap0_2 (p0.Marks).length cp0_2)]) (wn rfl) rfl rfl rfl fun b100 => ?_
  refine Tr.alloc 2 (wn rfl) rfl ze_26 fun b101 => ?_
  refine Tr.val (wn rfl) rfl (fun _ _ h1 h2 => run_assign (h1.ev rfl)) ?_
  refine Tr.nil (Tr.normThen ?_)
  refine Tr.seq ?_
  refine Tr.region ?_
  refine Tr.val (wn rfl) rfl (fun _ _ h1 h2 => run_move (h1.ev rfl)) ?_
  refine Tr.val (wn rfl) rfl (fun _ _ h1 h2 => run_fieldAddr fo_26_5 (h1.ev rfl)) ?_
  refine Tr.store 1 (cs := [(.slice Ap1_0 (p1).length cp1_0)]) [(.int .i64 p0.W), (.int .i64 p0.H), (.int .i64 p0.Rail), (.int .i64 p0.Gap), (.slice Ap0_0 (p0.Kinds).length cp0_0), (.slice Ap1_0 (p1).length cp1_0), (.slice Ap0_2 (p0.Marks).length cp0_2)] (wn rfl) rfl rfl rfl rfl sz_23 rfl rfl rfl ?_
  refine Tr.nil (Tr.normThen ?_)
  refine Tr.seq ?_
  refine Tr.seq ?_
  refine Tr.region ?_
  refine Tr.val (wn rfl) rfl (fun _ _ h1 h2 => run_loadN (cs := [(.int .i64 p0.W), (.int .i64 p0.H), (.int .i64 p0.Rail), (.int .i64 p0.Gap), (.slice Ap0_0 (p0.Kinds).length cp0_0), (.slice Ap1_0 (p1).length cp1_0), (.slice Ap0_2 (p0.Marks).length cp0_2)]) ag_26 sz_26 (h1.ev rfl) (CellsAt.take (rdb h2 (vs := [(.int .i64 p0.W), (.int .i64 p0.H), (.int .i64 p0.Rail), (.int .i64 p0.Gap), (.slice Ap0_0 (p0.Kinds).length cp0_0), (.slice Ap1_0 (p1).length cp1_0), (.slice Ap0_2 (p0.Marks).length cp0_2)]) (k := 1) rfl 0) 7) rfl) ?_
  obtain ⟨y102, hy102, H⟩ := bnd H
  refine Tr.call0 (r := (.int .i64 y102)) (wn rfl) rfl Try.call39 (evl_cons rfl evl_nil) (fun W hW => F_etchhouseref9_CheckPanel_ok N (TPanel.mk p0.W p0.H p0.Rail p0.Gap p0.Kinds p1 p0.Marks) Ap0_0 cp0_0 (hp0_0.rl.ext hW.extAll) Ap1_0 cp1_0 (hp1_0.rl.ext hW.extAll) Ap0_2 cp0_2 (hp0_2.rl.ext hW.extAll) y102 hy102 (HF.start _)) ?_
  refine Tr.val (wn rfl) rfl (fun _ _ h1 h2 => run_assign (h1.ev rfl)) ?_
  refine Tr.nil (Tr.normThen ?_)
  refine Tr.seq ?_
  refine Tr.region ?_
  refine Tr.val (wn rfl) rfl (fun _ _ h1 h2 => run_move (h1.ev rfl)) ?_
  refine Tr.val (wn rfl) rfl (fun _ _ h1 h2 => run_neq (h1.ev rfl) (h1.ev rfl)) ?_
  refine Tr.nil (Tr.normThen ?_)
  refine Tr.cond rfl H (fun H => ?_) (fun H => ?_)
  · refine Tr.seq ?_
    refine Tr.region ?_
    refine Tr.build (vs := []) (cs := [(.int .i64 0), (.int .i64 0), (.int .i64 0), (.int .i64 0), (.slice none 0 0), (.slice none 0 0), (.slice none 0 0)]) (wn rfl) rfl evs_nil (by kernel_rfl) ?_
    refine Tr.val (wn rfl) rfl (fun _ _ h1 h2 => run_move (h1.ev rfl)) ?_
    refine Tr.store 2 (cs := [(.int .i64 0), (.int .i64 0), (.int .i64 0), (.int .i64 0), (.slice none 0 0), (.slice none 0 0), (.slice none 0 0)]) [(.int .i64 0), (.int .i64 0), (.int .i64 0), (.int .i64 0), (.slice none 0 0), (.slice none 0 0), (.slice none 0 0)] (wn rfl) rfl rfl rfl rfl sz_26 rfl rfl rfl ?_
    refine Tr.val (wn rfl) rfl (fun _ _ h1 h2 => run_assign (h1.ev rfl)) ?_
    refine Tr.nil (Tr.normThen ?_)
    refine Tr.ret (Tr.retThen ?_)
    obtain rfl := Option.some.inj H
    exact Tr.out (m := [(.agg #[(.int .i64 0), (.int .i64 0), (.int .i64 0), (.int .i64 0), (.slice none 0 0), (.slice none 0 0), (.slice none 0 0)]), (.int .i64 y102)]) [2] (res_cell rfl rfl ag_26 sz_26 (res_tmp rfl res_nil)) (fun W hW => ⟨w, ((none, 0), (none, 0), (none, 0)), leB, rfl, ⟨(Sl.nil _ _ _), (Sl.nil _ _ _), (Sl.nil _ _ _)⟩, hW.pick (ks := []) (by decide) pk_nil⟩)
  · refine Tr.skip (Tr.normThen ?_)
    refine Tr.seq ?_
    refine Tr.region ?_
    refine Tr.val (wn rfl) rfl (fun _ _ h1 h2 => run_loadN (cs := [(.int .i64 p0.W), (.int .i64 p0.H), (.int .i64 p0.Rail), (.int .i64 p0.Gap), (.slice Ap0_0 (p0.Kinds).length cp0_0), (.slice Ap1_0 (p1).length cp1_0), (.slice Ap0_2 (p0.Marks).length cp0_2)]) ag_26 sz_26 (h1.ev rfl) (CellsAt.take (rdb h2 (vs := [(.int .i64 p0.W), (.int .i64 p0.H), (.int .i64 p0.Rail), (.int .i64 p0.Gap), (.slice Ap0_0 (p0.Kinds).length cp0_0), (.slice Ap1_0 (p1).length cp1_0), (.slice Ap0_2 (p0.Marks).length cp0_2)]) (k := 1) rfl 0) 7) rfl) ?_
    refine Tr.store 2 (cs := [(.int .i64 p0.W), (.int .i64 p0.H), (.int .i64 p0.Rail), (.int .i64 p0.Gap), (.slice Ap0_0 (p0.Kinds).length cp0_0), (.slice Ap1_0 (p1).length cp1_0), (.slice Ap0_2 (p0.Marks).length cp0_2)]) [(.int .i64 p0.W), (.int .i64 p0.H), (.int .i64 p0.Rail), (.int .i64 p0.Gap), (.slice Ap0_0 (p0.Kinds).length cp0_0), (.slice Ap1_0 (p1).length cp1_0), (.slice Ap0_2 (p0.Marks).length cp0_2)] (wn rfl) rfl rfl rfl rfl sz_26 rfl rfl rfl ?_
    refine Tr.val (wn rfl) rfl (fun _ _ h1 h2 => run_assign (h1.ev rfl)) ?_
    refine Tr.nil (Tr.normThen ?_)
    refine Tr.ret ?_
    obtain rfl := Option.some.inj H
    exact Tr.out (m := [(.agg #[(.int .i64 p0.W), (.int .i64 p0.H), (.int .i64 p0.Rail), (.int .i64 p0.Gap), (.slice Ap0_0 (p0.Kinds).length cp0_0), (.slice Ap1_0 (p1).length cp1_0), (.slice Ap0_2 (p0.Marks).length cp0_2)]), (.int .i64 0)]) [2] (res_cell rfl rfl ag_26 sz_26 (res_tmp rfl res_nil)) (fun W hW => ⟨w, ((Ap0_0, cp0_0), (Ap1_0, cp1_0), (Ap0_2, cp0_2)), leB, rfl, ⟨hp0_0, hp1_0, hp0_2⟩, hW.pick (ks := []) (by decide) pk_nil⟩)

end Go.Proofs.Ytpkicpnbpldkpaa
