/- The walks: each function computes its plain function. -/
import Derived.Test.YtcjeebkoafonpaaGreatDoorXWa
namespace Go.Proofs.YtcjeebkoafonpaaGreatDoor
open Go.RowKit
set_option maxRecDepth 100000
set_option maxHeartbeats 1000000
theorem F_shape_corners_ok {w : Bs} (p0 : (List TSide)) (Ap0_0 : Option Addr) (cp0_0 : Nat) (hp0_0 : Sl w.R w.W fl_TSide Ap0_0 cp0_0 p0) (r : (List TPoint)) (H : F_shape_corners p0 = some r) (hE : HF w w.W (LEn [emp])) : Calls Tryz.prog 73 [(.slice Ap0_0 (p0).length cp0_0)].toArray w.W fun e W' => ∃ u : (Option Addr × Nat), e = .returned (.slice u.1 (r).length u.2) ∧ (SlF u.1 (r).length u.2) ∧ HF w W' (LEn [ow u.1 u.2 47 fl_TPoint r]) := by
 unfold F_shape_corners at H
 have leB := Bs.Le.refl w
 refine Tr.enter (n := 60) Tryz.func73 rfl rfl rfl hE ?_
 refine Tr.sr ?_
 refine Tr.asg rfl rfl ?_
 refine Tr.nilOwn 1 47 fl_TPoint ?_
 show Tr _ _ (uf _ 2 (.slice none (([] : List TPoint)).length 0)) _ _
 refine Tr.nil (Tr.normThen ?_)
 refine Tr.sr ?_
 refine Tr.asg rfl rfl ?_
 refine Tr.nilOwn 2 47 fl_TPoint ?_
 show Tr _ _ (uf _ 3 (.slice none (([] : List TPoint)).length 0)) _ _
 refine Tr.nil (Tr.normThen ?_)
 refine Tr.seq ?_
 refine Tr.sr ?_
 refine Tr.mv rfl rfl ?_
 refine Tr.v1 rfl (run_len un_121) rfl ?_
 refine Tr.mv rfl rfl ?_
 refine Tr.nil (Tr.normThen ?_)
 refine Tr.block ?_
 refine Tr.loop (σ := (List TSide) × Nat × (List TPoint) × (Option Addr) × Nat) (fun m w s => m = s.1.length + 1 ∧ s.1 = List.drop s.2.1 p0 ∧ s.2.1 ≤ p0.length ∧ F_shape_corners_L1 p0 s.1 s.2.1 s.2.2.1 = some r ∧ SlF s.2.2.2.1 (s.2.2.1).length s.2.2.2.2) (fun s => [(0, (.slice Ap0_0 (p0).length cp0_0)), (3, (.slice s.2.2.2.1 (s.2.2.1).length s.2.2.2.2)), (9, (.slice Ap0_0 (p0).length cp0_0)), (10, (iv (p0.length : Int))), (11, (iv (s.2.1 : Int)))]) (fun s => [(2, ow s.2.2.2.1 s.2.2.2.2 47 fl_TPoint s.2.2.1)]) (p0.length + 1) (p0, 0, ([] : List TPoint), none, 0) ⟨rfl, rfl, Nat.zero_le _, H, slf_nil⟩ (.r rfl) (.r rfl) (fun _ _ h => absurd h.1 (by simp)) ?_
 intro w leL1 m s hs
 obtain ⟨restL1, iL1, l122, Al122, cl122⟩ := s
 obtain ⟨hmL1, hdL1, hiL1, H, hl122⟩ := hs
 replace hdL1 : restL1 = List.drop iL1 p0 := hdL1
 replace H : F_shape_corners_L1 p0 restL1 iL1 l122 = some r := H
 replace hmL1 : m + 1 = restL1.length + 1 := hmL1
 replace hp0_0 := hp0_0.leR leL1
 replace leB := leB.trans leL1
 replace hl122 : SlF Al122 (l122).length cl122 := hl122
 obtain rfl : m = restL1.length := by omega
 clear hmL1
 show Tr _ _ (LF [(0, (.slice Ap0_0 (p0).length cp0_0)), (3, (.slice Al122 (l122).length cl122)), (9, (.slice Ap0_0 (p0).length cp0_0)), (10, (iv (p0.length : Int))), (11, (iv (iL1 : Int)))]) (LE [(2, ow Al122 cl122 47 fl_TPoint l122)]) _
 cases restL1 with
 | nil =>
  rw [F_shape_corners_L1.eq_1] at H
  refine Tr.sr ?_
  refine Tr.v2 rfl run_lss rfl rfl ?_
  refine Tr.nil (Tr.normThen ?_)
  refine Tr.seq ?_
  refine Tr.condF rfl (range_nil hdL1) ?_
  refine Tr.exit (Tr.exitThen (Tr.exitThen (Tr.exitBlock (Tr.normThen ?_))))
  refine Tr.sr ?_
  refine Tr.asg rfl rfl ?_
  refine Tr.nil (Tr.normThen ?_)
  refine Tr.seq ?_
  refine Tr.sr ?_
  refine Tr.mv rfl rfl ?_
  refine Tr.v1 rfl (run_len un_43) rfl ?_
  refine Tr.mv rfl rfl ?_
  refine Tr.nil (Tr.normThen ?_)
  refine Tr.block ?_
  refine Tr.loop (σ := (List TPoint) × Nat × Int) (fun m w s => m = s.1.length + 1 ∧ s.1 = List.drop s.2.1 l122 ∧ s.2.1 ≤ l122.length ∧ F_shape_corners_L2 l122 s.1 s.2.1 s.2.2 = some r) (fun s => [(3, (.slice Al122 (l122).length cl122)), (6, (iv s.2.2)), (37, (.slice Al122 (l122).length cl122)), (38, (iv (l122.length : Int))), (39, (iv (s.2.1 : Int)))]) (fun s => [(2, ow Al122 cl122 47 fl_TPoint l122)]) (l122.length + 1) (l122, 0, 0) ⟨rfl, rfl, Nat.zero_le _, H⟩ (.r rfl) (.r rfl) (fun _ _ h => absurd h.1 (by simp)) ?_
  intro w leL2 m s hs
  obtain ⟨restL2, iL2, x137⟩ := s
  obtain ⟨hmL2, hdL2, hiL2, H⟩ := hs
  replace hdL2 : restL2 = List.drop iL2 l122 := hdL2
  replace H : F_shape_corners_L2 l122 restL2 iL2 x137 = some r := H
  replace hmL2 : m + 1 = restL2.length + 1 := hmL2
  replace leB := leB.trans leL2
  replace leL1 := leL1.trans leL2
  obtain rfl : m = restL2.length := by omega
  clear hmL2
  show Tr _ _ (LF [(3, (.slice Al122 (l122).length cl122)), (6, (iv x137)), (37, (.slice Al122 (l122).length cl122)), (38, (iv (l122.length : Int))), (39, (iv (iL2 : Int)))]) (LE [(2, ow Al122 cl122 47 fl_TPoint l122)]) _
  cases restL2 with
  | nil =>
   rw [F_shape_corners_L2.eq_1] at H
   refine Tr.sr ?_
   refine Tr.v2 rfl run_lss rfl rfl ?_
   refine Tr.nil (Tr.normThen ?_)
   refine Tr.seq ?_
   refine Tr.condF rfl (range_nil hdL2) ?_
   refine Tr.exit (Tr.exitThen (Tr.exitThen (Tr.exitBlock (Tr.normThen ?_))))
   refine Tr.seq ?_
   refine Tr.drawTail 6 (by kernel_rfl) (by kernel_rfl) ?_
   refine Tq.mv rfl rfl ?_
   refine Tq.mv rfl rfl ?_
   obtain ⟨l138, hl138, H⟩ := bnd H
   refine Tq.va rfl (fun _ _ h1 h2 => run_cutL el_43 (h1.ev rfl) hl122 (h1.ev rfl) hl138) ?_
   refine Tq.mv rfl rfl ?_
   refine Tq.mv rfl rfl ?_
   obtain ⟨l139, hl139, H⟩ := bnd H
   refine Tq.va rfl (fun _ _ h1 h2 => run_pre el_43 (h1.ev rfl) hl122 (h1.ev rfl) hl139) ?_
   refine Tq.nil ?_
   refine Tr.freeze 2 rfl fun w le141 hz140 => ?_
   replace leB := leB.trans le141
   replace leL1 := leL1.trans le141
   replace leL2 := leL2.trans le141
   refine Tr.buildSlice 9 (e := 43) (vs := [(0, (.slice (cutA Al122 x137.toNat 2 cl122) (l138).length (cl122 - x137.toNat))), (1, (.slice Al122 (l139).length cl122))]) (cs := [(.slice (cutA Al122 x137.toNat 2 cl122) (l138).length (cl122 - x137.toNat)), (.slice Al122 (l139).length cl122)]) (wn rfl) rfl (evs_cons rfl (evs_cons rfl evs_nil)) (by kernel_rfl) fun b142 => ?_
   refine Tr.own 9 fl_LTPoint [l138, l139] (css := [[(.slice (cutA Al122 x137.toNat 2 cl122) (l138).length (cl122 - x137.toNat))], [(.slice Al122 (l139).length cl122)]]) rfl (.cons ⟨((cutA Al122 x137.toNat 2 cl122), (cl122 - x137.toNat)), (Sl.cut hz140 hl138), rfl⟩ (.cons ⟨(Al122, cl122), (Sl.pre hz140 hl139), rfl⟩ .nil)) rfl (by decide) (lit_max rfl) ?_
   obtain ⟨y143, hy143, H⟩ := bnd H
   refine Tr.callM [10] [emp] (U := (Option Addr × Nat)) (fun u => (.slice u.1 (y143).length u.2)) (fun u => SlF u.1 (y143).length u.2) (fun u => [ow u.1 u.2 47 fl_TPoint y143]) rfl (pk_cons rfl pk_nil) (fun _ => rfl) (wn rfl) rfl Tryz.call117 (evl_cons rfl evl_nil) (fun W hW hp hE => F_slices_Concat_Point_ok [l138, l139] (some ⟨b142, 0, none⟩) 2 (hW.slS (k := 9) rfl hp rfl) y143 hy143 hE) ?_
   intro u hu
   obtain ⟨Ay143_0, cy143_0⟩ := u
   have gy143_0 := hu
   have hgy143_0 : SlF Ay143_0 (y143).length cy143_0 := gy143_0 --@phi
   show Tr _ _ (uf _ 59 (.slice Ay143_0 (y143).length cy143_0)) (up _ 10 (ow Ay143_0 cy143_0 47 fl_TPoint y143)) _
   refine Tr.asg rfl rfl ?_
   refine Tr.nil (Tr.normThen ?_)
   refine Tr.ret ?_
   obtain rfl := Option.some.inj H
   exact Tr.out (m := [(.slice Ay143_0 (y143).length cy143_0)]) [] (res_tmp rfl res_nil) (fun W hW => ⟨(Ay143_0, cy143_0), rfl, hgy143_0, HF.lowE leB (hW.pick (ks := [10]) (by decide) (pk_cons rfl pk_nil)) ⟨ow_any _ _ _ _ tr_TPoint, trivial⟩⟩)
  | cons xL2 restL2 =>
   rw [F_shape_corners_L2.eq_2] at H
   refine Tr.sr ?_
   refine Tr.v2 rfl run_lss rfl rfl ?_
   refine Tr.nil (Tr.normThen ?_)
   refine Tr.seq ?_
   refine Tr.condT rfl (range_on hdL2) ?_
   refine Tr.skip (Tr.normThen ?_)
   refine Tr.seq ?_
   refine Tr.block ?_
   refine Tr.sr ?_
   refine Tr.mv rfl rfl ?_
   refine Tr.va rfl (fun _ _ h1 h2 => run_indexAddr el_43 (h1.ev rfl) hl122 (h1.ev rfl) (Int.natCast_nonneg _) (range_lt hdL2)) ?_
   refine Tr.va rfl (fun _ _ h1 h2 => run_loadN (cs := [(iv xL2.X), (iv xL2.Y)]) ag_47 sz_47 (h1.ev rfl) (CellsAt.take (rdo ef_TPoint (k := 2) h2 rfl (range_at hdL2)) 2) rfl) ?_
   refine Tr.alloc 11 (wn rfl) rfl ze_47 fun b145 => ?_
   refine Tr.asg rfl rfl ?_
   refine Tr.store 11 (cs := [(iv xL2.X), (iv xL2.Y)]) [(iv xL2.X), (iv xL2.Y)] (wn rfl) rfl rfl rfl rfl sz_47 rfl rfl rfl ?_
   refine Tr.nil (Tr.normThen ?_)
   refine Tr.seq ?_
   refine Tr.draw (by kernel_rfl) (by kernel_rfl) ?_
   refine Tq.va rfl (fun _ _ h1 h2 => run_loadN (cs := [(iv xL2.X), (iv xL2.Y)]) ag_47 sz_47 (h1.ev rfl) (CellsAt.take (rdb h2 (vs := [(iv xL2.X), (iv xL2.Y)]) (k := 11) rfl 0) 2) rfl) ?_
   refine Tq.mv rfl rfl ?_
   refine Tq.mv rfl rfl ?_
   obtain ⟨x146, hx146, H⟩ := bnd H
   obtain ⟨hx1460, hx1461, hx1462⟩ := idx_some hx146
   refine Tq.va rfl (fun _ _ h1 h2 => run_indexAddr el_43 (h1.ev rfl) hl122 (h1.ev rfl) hx1460 hx1461) ?_
   refine Tq.va rfl (fun _ _ h1 h2 => run_loadN (cs := [(iv x146.X), (iv x146.Y)]) ag_47 sz_47 (h1.ev rfl) (CellsAt.take (rdo ef_TPoint (k := 2) h2 rfl hx1462) 2) rfl) ?_
   obtain ⟨y147, hy147, H⟩ := bnd H
   refine Tq.call0 (r := (.bool y147)) (wn rfl) rfl Tryz.call76 (evl_cons rfl (evl_cons rfl evl_nil)) (fun W hW => F_shape_less_ok xL2 x146 y147 hy147 (HF.start _)) ?_
   refine Tq.nil (Tr.normThen ?_)
   refine Tr.cond rfl H (fun H => ?_) (fun H => ?_)
   ·refine Tr.region ?_
    refine Tr.mv rfl rfl ?_
    refine Tr.asg rfl rfl ?_
    refine Tr.nil (Tr.normBlock (Tr.normThen ?_))
    refine Tr.region ?_
    refine Tr.v2 rfl run_add rfl rfl ?_
    refine Tr.mv rfl rfl ?_
    refine Tr.nil ?_
    exact Tr.backThen leL2 (restL2, (iL2 + 1), (iL2 : Int)) ⟨rfl, range_tl hdL2, range_lt hdL2, H⟩ (.cons rfl (.cons rfl (.cons rfl (.cons rfl (.cons (congrArg (fun z => some (Value.int .i64 z)) (range_up hdL2 hl122)) .nil))))) (.r rfl)
   ·refine Tr.skip (Tr.normBlock (Tr.normThen ?_))
    refine Tr.region ?_
    refine Tr.v2 rfl run_add rfl rfl ?_
    refine Tr.mv rfl rfl ?_
    refine Tr.nil ?_
    exact Tr.backThen leL2 (restL2, (iL2 + 1), x137) ⟨rfl, range_tl hdL2, range_lt hdL2, H⟩ (.cons rfl (.cons rfl (.cons rfl (.cons rfl (.cons (congrArg (fun z => some (Value.int .i64 z)) (range_up hdL2 hl122)) .nil))))) (.r rfl)
 | cons xL1 restL1 =>
  rw [F_shape_corners_L1.eq_2] at H
  refine Tr.sr ?_
  refine Tr.v2 rfl run_lss rfl rfl ?_
  refine Tr.nil (Tr.normThen ?_)
  refine Tr.seq ?_
  refine Tr.condT rfl (range_on hdL1) ?_
  refine Tr.skip (Tr.normThen ?_)
  refine Tr.seq ?_
  refine Tr.block ?_
  refine Tr.sr ?_
  refine Tr.mv rfl rfl ?_
  refine Tr.va rfl (fun _ _ h1 h2 => run_indexAddr el_121 (h1.ev rfl) hp0_0.form (h1.ev rfl) (Int.natCast_nonneg _) (range_lt hdL1)) ?_
  refine Tr.va rfl (fun _ _ h1 h2 => run_loadN (cs := [(iv xL1.from_.X), (iv xL1.from_.Y), (iv xL1.to_.X), (iv xL1.to_.Y)]) ag_125 sz_125 (h1.ev rfl) (CellsAt.take (rdF ef_TSide hp0_0 (range_at hdL1) h2) 4) rfl) ?_
  refine Tr.alloc 12 (wn rfl) rfl ze_125 fun b148 => ?_
  refine Tr.asg rfl rfl ?_
  refine Tr.store 12 (cs := [(iv xL1.from_.X), (iv xL1.from_.Y), (iv xL1.to_.X), (iv xL1.to_.Y)]) [(iv xL1.from_.X), (iv xL1.from_.Y), (iv xL1.to_.X), (iv xL1.to_.Y)] (wn rfl) rfl rfl rfl rfl sz_125 rfl rfl rfl ?_
  refine Tr.nil (Tr.normThen ?_)
  refine Tr.seq ?_
  refine Tr.draw (by kernel_rfl) (by kernel_rfl) ?_
  refine Tq.va rfl (fun _ _ h1 h2 => run_loadN (cs := [(iv xL1.from_.X), (iv xL1.from_.Y), (iv xL1.to_.X), (iv xL1.to_.Y)]) ag_125 sz_125 (h1.ev rfl) (CellsAt.take (rdb h2 (vs := [(iv xL1.from_.X), (iv xL1.from_.Y), (iv xL1.to_.X), (iv xL1.to_.Y)]) (k := 12) rfl 0) 4) rfl) ?_
  obtain ⟨y149, hy149, H⟩ := bnd H
  refine Tq.call0 (r := (.agg #[(iv y149.X), (iv y149.Y)])) (wn rfl) rfl Tryz.call70 (evl_cons rfl evl_nil) (fun W hW => F_shape_side__direction_ok xL1 y149 hy149 (HF.start _)) ?_
  refine Tq.mv rfl rfl ?_
  refine Tq.mv rfl rfl ?_
  refine Tq.mv rfl rfl ?_
  refine Tq.v1 rfl (run_len un_121) rfl ?_
  refine Tq.v2 rfl run_add rfl rfl ?_
  refine Tq.v2 rfl run_sub rfl rfl ?_
  refine Tq.mv rfl rfl ?_
  refine Tq.v1 rfl (run_len un_121) rfl ?_
  obtain ⟨q150, hq150, H⟩ := bnd H
  refine Tq.va rfl (fun _ _ h1 h2 => run_md (h1.ev rfl) (h1.ev rfl) hq150) ?_
  obtain ⟨x151, hx151, H⟩ := bnd H
  obtain ⟨hx1510, hx1511, hx1512⟩ := idx_some hx151
  refine Tq.va rfl (fun _ _ h1 h2 => run_indexAddr el_121 (h1.ev rfl) hp0_0.form (h1.ev rfl) hx1510 hx1511) ?_
  refine Tq.va rfl (fun _ _ h1 h2 => run_loadN (cs := [(iv x151.from_.X), (iv x151.from_.Y), (iv x151.to_.X), (iv x151.to_.Y)]) ag_125 sz_125 (h1.ev rfl) (CellsAt.take (rdF ef_TSide hp0_0 hx1512 h2) 4) rfl) ?_
  obtain ⟨y152, hy152, H⟩ := bnd H
  refine Tq.call0 (r := (.agg #[(iv y152.X), (iv y152.Y)])) (wn rfl) rfl Tryz.call70 (evl_cons rfl evl_nil) (fun W hW => F_shape_side__direction_ok x151 y152 hy152 (HF.start _)) ?_
  refine Tq.v2 rfl (run_neq_47 y149 y152) rfl rfl ?_
  refine Tq.nil (Tr.normThen ?_)
  refine Tr.cond rfl H (fun H => ?_) (fun H => ?_)
  ·refine Tr.region ?_
   refine Tr.mv rfl rfl ?_
   refine Tr.v1 rfl (run_fieldAddr fo_125_0) rfl ?_
   refine Tr.va rfl (fun _ _ h1 h2 => run_loadN (cs := [(iv xL1.from_.X), (iv xL1.from_.Y)]) ag_47 sz_47 (h1.ev rfl) (CellsAt.take (rdb h2 (vs := [(iv xL1.from_.X), (iv xL1.from_.Y), (iv xL1.to_.X), (iv xL1.to_.Y)]) (k := 12) rfl 0) 2) rfl) ?_
   refine Tr.buildSlice 13 (e := 47) (vs := [(0, (.agg #[(iv xL1.from_.X), (iv xL1.from_.Y)]))]) (cs := [(iv xL1.from_.X), (iv xL1.from_.Y)]) (wn rfl) rfl (evs_cons rfl evs_nil) (by kernel_rfl) fun b153 => ?_
   obtain ⟨l154, hl154, H⟩ := bnd H
   refine Tr.append 2 (t := fl_TPoint) (l := l122) (l2 := [xL1.from_]) (wn rfl) rfl rfl rfl rfl (fun W hW => ⟨[[(iv xL1.from_.X), (iv xL1.from_.Y)]], (.cons ⟨(), trivial, rfl⟩ .nil), rdb hW (vs := [(iv xL1.from_.X), (iv xL1.from_.Y)]) (k := 13) rfl 0⟩) un_43 sz_47 zl_47 (by decide) by_47 rfl hl154 fun Al154 cl154 hAl154 => ?_
   refine Tr.asg rfl rfl ?_
   refine Tr.nil (Tr.normBlock (Tr.normThen ?_))
   refine Tr.region ?_
   refine Tr.v2 rfl run_add rfl rfl ?_
   refine Tr.mv rfl rfl ?_
   refine Tr.nil ?_
   exact Tr.backThen leL1 (restL1, (iL1 + 1), l154, Al154, cl154) ⟨rfl, range_tl hdL1, range_lt hdL1, H, hAl154⟩ (.cons rfl (.cons rfl (.cons rfl (.cons rfl (.cons (congrArg (fun z => some (Value.int .i64 z)) (range_up hdL1 hp0_0.form)) .nil))))) (.r rfl)
  ·refine Tr.skip (Tr.normBlock (Tr.normThen ?_))
   refine Tr.region ?_
   refine Tr.v2 rfl run_add rfl rfl ?_
   refine Tr.mv rfl rfl ?_
   refine Tr.nil ?_
   exact Tr.backThen leL1 (restL1, (iL1 + 1), l122, Al122, cl122) ⟨rfl, range_tl hdL1, range_lt hdL1, H, hl122⟩ (.cons rfl (.cons rfl (.cons rfl (.cons rfl (.cons (congrArg (fun z => some (Value.int .i64 z)) (range_up hdL1 hp0_0.form)) .nil))))) (.r rfl)

theorem F_slices_SortFunc_LTPoint_ok {w : Bs} (p0 : List (List TPoint)) (Ap0_0 : Option Addr) (cp0_0 : Nat) (p1 : (List TPoint) → (List TPoint) → Option Int) (fid1 : Nat) (cap1 : List Value) (hg1 : ∀ args W, (callFunc fid1 args).run Tryz.prog W = .ok (.enter fid1 args) W) (hf1 : ∀ (w' : Bs), w.Ext w' → ∀ (z0 : (List TPoint)) (A0 : Option Addr) (c0 : Nat), Sl w'.R w'.W fl_TPoint A0 c0 z0 → ∀ (z1 : (List TPoint)) (A1 : Option Addr) (c1 : Nat), Sl w'.R w'.W fl_TPoint A1 c1 z1 → ∀ y, p1 z0 z1 = some y → Calls Tryz.prog fid1 (([.slice A0 z0.length c0, .slice A1 z1.length c1] : List Value) ++ cap1).toArray w'.W fun e W'' => e = .returned (iv y) ∧ HF w' W'' E0) (r : List (List TPoint)) (H : srtU p0 p1 = some r) (hE : HF w w.W (LEn [ow Ap0_0 cp0_0 43 fl_LTPoint p0])) : Calls Tryz.prog 74 [(.slice Ap0_0 (p0).length cp0_0), (.func (.func fid1) #[] cap1.toArray)].toArray w.W fun e W' => ∃ u : Unit, e = .returned (.tuple #[]) ∧ ((r).length = (p0).length) ∧ HF w W' (LEn [ow Ap0_0 cp0_0 43 fl_LTPoint r]) :=
 sortFuncS_rule (ρ := Tryz.srt74_ren) Tryz.srt74 rfl (fun _ _ u x h => ⟨(u, x), rfl, rfl, h⟩) (fun _ _ p h => ⟨p.1, h, rfl⟩) hg1 hf1 H hE

theorem F_shape_Set__Borders_4_ok {w : Bs} (p0 : (List TPoint)) (Ap0_0 : Option Addr) (cp0_0 : Nat) (hp0_0 : Sl w.R w.W fl_TPoint Ap0_0 cp0_0 p0) (p1 : (List TPoint)) (Ap1_0 : Option Addr) (cp1_0 : Nat) (hp1_0 : Sl w.R w.W fl_TPoint Ap1_0 cp1_0 p1) (r : Int) (H : F_shape_Set__Borders_4 p0 p1 = some r) (hE : HF w w.W E0) : Calls Tryz.prog 75 [(.slice Ap0_0 (p0).length cp0_0), (.slice Ap1_0 (p1).length cp1_0)].toArray w.W fun e W' => e = .returned (iv r) ∧ HF w W' E0 := by
 unfold F_shape_Set__Borders_4 at H
 have leB := Bs.Le.refl w
 refine Tr.enter (n := 29) Tryz.func75 rfl rfl rfl hE ?_
 refine Tr.sr ?_
 refine Tr.asg rfl rfl ?_
 refine Tr.nil (Tr.normThen ?_)
 refine Tr.seq ?_
 refine Tr.block ?_
 have leJ113 := Bs.Le.refl w
 refine Tr.cutJ (σ := Bool) (fun w s => F_shape_Set__Borders_4_J1 s = some r) (fun s => [(5, (.bool s))]) (fun s => []) ?_ ?_
 ·refine Tr.seq ?_
  refine Tr.draw (by kernel_rfl) (by kernel_rfl) ?_
  refine Tq.mv rfl rfl ?_
  obtain ⟨x115, hx115, H⟩ := bnd H
  obtain ⟨hx1150, hx1151, hx1152⟩ := idx_some hx115
  refine Tq.va rfl (fun _ _ h1 h2 => run_indexAddr el_43 (h1.ev rfl) hp0_0.form (h1.ev rfl) hx1150 hx1151) ?_
  refine Tq.va rfl (fun _ _ h1 h2 => run_loadN (cs := [(iv x115.X), (iv x115.Y)]) ag_47 sz_47 (h1.ev rfl) (CellsAt.take (rdF ef_TPoint hp0_0 hx1152 h2) 2) rfl) ?_
  refine Tq.mv rfl rfl ?_
  obtain ⟨x116, hx116, H⟩ := bnd H
  obtain ⟨hx1160, hx1161, hx1162⟩ := idx_some hx116
  refine Tq.va rfl (fun _ _ h1 h2 => run_indexAddr el_43 (h1.ev rfl) hp1_0.form (h1.ev rfl) hx1160 hx1161) ?_
  refine Tq.va rfl (fun _ _ h1 h2 => run_loadN (cs := [(iv x116.X), (iv x116.Y)]) ag_47 sz_47 (h1.ev rfl) (CellsAt.take (rdF ef_TPoint hp1_0 hx1162 h2) 2) rfl) ?_
  obtain ⟨y117, hy117, H⟩ := bnd H
  refine Tq.call0 (r := (.bool y117)) (wn rfl) rfl Tryz.call76 (evl_cons rfl (evl_cons rfl evl_nil)) (fun W hW => F_shape_less_ok x115 x116 y117 hy117 (HF.start _)) ?_
  refine Tq.asg rfl rfl ?_
  refine Tq.nil (Tr.normThen ?_)
  refine Tr.cond rfl H (fun H => ?_) (fun H => ?_)
  ·refine Tr.skip ?_
   exact Tr.backThen leJ113 y117 H (.r rfl) .nil
  ·refine Tr.draw (by kernel_rfl) (by kernel_rfl) ?_
   refine Tq.mv rfl rfl ?_
   obtain ⟨x118, hx118, H⟩ := bnd H
   obtain ⟨hx1180, hx1181, hx1182⟩ := idx_some hx118
   refine Tq.va rfl (fun _ _ h1 h2 => run_indexAddr el_43 (h1.ev rfl) hp0_0.form (h1.ev rfl) hx1180 hx1181) ?_
   refine Tq.va rfl (fun _ _ h1 h2 => run_loadN (cs := [(iv x118.X), (iv x118.Y)]) ag_47 sz_47 (h1.ev rfl) (CellsAt.take (rdF ef_TPoint hp0_0 hx1182 h2) 2) rfl) ?_
   refine Tq.mv rfl rfl ?_
   obtain ⟨x119, hx119, H⟩ := bnd H
   obtain ⟨hx1190, hx1191, hx1192⟩ := idx_some hx119
   refine Tq.va rfl (fun _ _ h1 h2 => run_indexAddr el_43 (h1.ev rfl) hp1_0.form (h1.ev rfl) hx1190 hx1191) ?_
   refine Tq.va rfl (fun _ _ h1 h2 => run_loadN (cs := [(iv x119.X), (iv x119.Y)]) ag_47 sz_47 (h1.ev rfl) (CellsAt.take (rdF ef_TPoint hp1_0 hx1192 h2) 2) rfl) ?_
   refine Tq.v2 rfl (run_eql_47 x118 x119) rfl rfl ?_
   refine Tq.mv rfl rfl ?_
   obtain ⟨g123, hg123, H⟩ := bnd H
   refine Tq.mid 8 [(28, (.bool g123))] ?_ ?_
   ·cases hg126 : (eqTPoint x118 x119)
    ·rw [hg126] at hg123
     rw [if_neg (by decide)] at hg123
     have H := hg123
     obtain rfl := Option.some.inj H
     refine Tq.ps ?_
     refine Tq.ps ?_
     refine Tq.ps ?_
     refine Tq.ps ?_
     refine Tq.ps ?_
     refine Tq.ps ?_
     refine Tq.ps ?_
     refine Tq.v2 rfl run_pickF rfl rfl ?_
     exact Tq.fin (.r rfl)
    ·rw [hg126] at hg123
     rw [if_pos rfl] at hg123
     have H := hg123
     refine Tq.w1 (wg rfl rfl rfl) rfl run_move rfl ?_
     obtain ⟨x124, hx124, H⟩ := bnd H
     obtain ⟨hx1240, hx1241, hx1242⟩ := idx_some hx124
     refine Tq.val (wg rfl rfl rfl) rfl (fun _ _ h1 h2 => run_indexAddr el_43 (h1.ev rfl) hp1_0.form (h1.ev rfl) hx1240 hx1241) ?_
     refine Tq.val (wg rfl rfl rfl) rfl (fun _ _ h1 h2 => run_loadN (cs := [(iv x124.X), (iv x124.Y)]) ag_47 sz_47 (h1.ev rfl) (CellsAt.take (rdF ef_TPoint hp1_0 hx1242 h2) 2) rfl) ?_
     refine Tq.w1 (wg rfl rfl rfl) rfl run_move rfl ?_
     obtain ⟨x125, hx125, H⟩ := bnd H
     obtain ⟨hx1250, hx1251, hx1252⟩ := idx_some hx125
     refine Tq.val (wg rfl rfl rfl) rfl (fun _ _ h1 h2 => run_indexAddr el_43 (h1.ev rfl) hp0_0.form (h1.ev rfl) hx1250 hx1251) ?_
     refine Tq.val (wg rfl rfl rfl) rfl (fun _ _ h1 h2 => run_loadN (cs := [(iv x125.X), (iv x125.Y)]) ag_47 sz_47 (h1.ev rfl) (CellsAt.take (rdF ef_TPoint hp0_0 hx1252 h2) 2) rfl) ?_
     obtain ⟨y126, hy126, H⟩ := bnd H
     refine Tq.call0 (r := (.bool y126)) (wg rfl rfl rfl) rfl Tryz.call76 (evl_cons rfl (evl_cons rfl evl_nil)) (fun W hW => F_shape_less_ok x124 x125 y126 hy126 (HF.start _)) ?_
     refine Tq.v2 rfl run_pickT rfl rfl ?_
     obtain rfl := Option.some.inj H
     exact Tq.fin (.r rfl)
   ·refine Tq.asg rfl rfl ?_
    refine Tq.nil ?_
    exact Tr.backThen leJ113 g123 H (.r rfl) .nil
 ·intro w x112 hlJ114 hs
  have H := hs
  replace H : F_shape_Set__Borders_4_J1 x112 = some r := H
  replace leB := leB.trans hlJ114
  unfold F_shape_Set__Borders_4_J1 at H
  show Tr _ _ (LF [(5, (.bool x112))]) (LE []) _
  refine Tr.cond rfl H (fun H => ?_) (fun H => ?_)
  ·refine Tr.sr ?_
   refine Tr.asg rfl rfl ?_
   refine Tr.nil (Tr.normThen ?_)
   refine Tr.ret (Tr.retBlock (Tr.retThen ?_))
   obtain rfl := Option.some.inj H
   exact Tr.out (m := [(iv (-1))]) [] (res_tmp rfl res_nil) (fun W hW => ⟨rfl, hW.low leB⟩)
  ·refine Tr.skip (Tr.normBlock (Tr.normThen ?_))
   refine Tr.sr ?_
   refine Tr.asg rfl rfl ?_
   refine Tr.nil (Tr.normThen ?_)
   refine Tr.ret ?_
   obtain rfl := Option.some.inj H
   exact Tr.out (m := [(iv 1)]) [] (res_tmp rfl res_nil) (fun W hW => ⟨rfl, hW.low leB⟩)

theorem F_shape_Set__Borders_2__Borders_1_ok {w : Bs} (p0 : TSide) (p1 : TSide) (q0 : (List ((Int × Int) × List Int))) (bmq0 : Nat) (hmq0 : MRo w.R w.W encP okP bmq0 fl_i64 q0) (bq0 : Nat) (hb0 : w.R bq0) (hc0 : CellsAt w.W bq0 0 [(.map (some bmq0))]) (bq1 : Nat) (hb1 : w.R bq1) (hc1 : CellsAt w.W bq1 0 [(.func (.func 69) #[] #[])]) (r : Bool) (H : F_shape_Set__Borders_2__Borders_1 p0 p1 q0 = some r) (hE : HF w w.W E0) : Calls Tryz.prog 71 [(.agg #[(iv p0.from_.X), (iv p0.from_.Y), (iv p0.to_.X), (iv p0.to_.Y)]), (.agg #[(iv p1.from_.X), (iv p1.from_.Y), (iv p1.to_.X), (iv p1.to_.Y)]), (.pointer (some ⟨bq0, 0, none⟩)), (.pointer (some ⟨bq1, 0, none⟩))].toArray w.W fun e W' => e = .returned (.bool r) ∧ HF w W' E0 := by
 unfold F_shape_Set__Borders_2__Borders_1 at H
 have leB := Bs.Le.refl w
 refine Tr.enter (n := 21) Tryz.func71 rfl rfl rfl hE ?_
 refine Tr.sr ?_
 refine Tr.box 1 (cs := [(iv p0.from_.X), (iv p0.from_.Y), (iv p0.to_.X), (iv p0.to_.Y)]) (wn rfl) rfl rfl rfl fun b100 => ?_
 refine Tr.box 2 (cs := [(iv p1.from_.X), (iv p1.from_.Y), (iv p1.to_.X), (iv p1.to_.Y)]) (wn rfl) rfl rfl rfl fun b101 => ?_
 refine Tr.asg rfl rfl ?_
 refine Tr.nil (Tr.normThen ?_)
 refine Tr.seq ?_
 refine Tr.draw (by kernel_rfl) (by kernel_rfl) ?_
 refine Tq.va rfl (fun _ _ h1 h2 => run_load1 ag_123 (h1.ev rfl) (rdR hb0 hc0 h2) rfl) ?_
 refine Tq.v1 rfl (run_fieldAddr fo_125_1) rfl ?_
 refine Tq.va rfl (fun _ _ h1 h2 => run_loadN (cs := [(iv p0.to_.X), (iv p0.to_.Y)]) ag_47 sz_47 (h1.ev rfl) (CellsAt.take (rdb h2 (vs := [(iv p0.from_.X), (iv p0.from_.Y), (iv p0.to_.X), (iv p0.to_.Y)]) (k := 1) rfl 2) 2) rfl) ?_
 obtain ⟨l102, hl102, H⟩ := bnd H
 obtain ⟨Al102, cl102, hsl102, hkl102⟩ := hmq0.look hl102
 refine Tq.va rfl (fun _ _ h1 h2 => hkl102 h2 un_123 kp_47 zs_96 (h1.ev rfl) (h1.ev rfl)) ?_
 refine Tq.v1 rfl (run_len un_96) rfl ?_
 refine Tq.v2 rfl run_eql rfl rfl ?_
 refine Tq.mv rfl rfl ?_
 obtain ⟨g105, hg105, H⟩ := bnd H
 refine Tq.mid 7 [(20, (.bool g105))] ?_ ?_
 ·cases hg107 : ((l102.length : Int) == 1)
  ·rw [hg107] at hg105
   rw [if_neg (by decide)] at hg105
   have H := hg105
   refine Tq.val (wg rfl rfl rfl) rfl (fun _ _ h1 h2 => run_loadN (cs := [(iv p1.from_.X), (iv p1.from_.Y), (iv p1.to_.X), (iv p1.to_.Y)]) ag_125 sz_125 (h1.ev rfl) (CellsAt.take (rdb h2 (vs := [(iv p1.from_.X), (iv p1.from_.Y), (iv p1.to_.X), (iv p1.to_.Y)]) (k := 2) rfl 0) 4) rfl) ?_
   obtain ⟨y106, hy106, H⟩ := bnd H
   refine Tq.call0 (r := (.agg #[(iv y106.X), (iv y106.Y)])) (wg rfl rfl rfl) rfl Tryz.call70 (evl_cons rfl evl_nil) (fun W hW => F_shape_side__direction_ok p1 y106 hy106 (HF.start _)) ?_
   refine Tq.val (wg rfl rfl rfl) rfl (fun _ _ h1 h2 => run_load1 ag_128 (h1.ev rfl) (rdR hb1 hc1 h2) rfl) ?_
   refine Tq.val (wg rfl rfl rfl) rfl (fun _ _ h1 h2 => run_loadN (cs := [(iv p0.from_.X), (iv p0.from_.Y), (iv p0.to_.X), (iv p0.to_.Y)]) ag_125 sz_125 (h1.ev rfl) (CellsAt.take (rdb h2 (vs := [(iv p0.from_.X), (iv p0.from_.Y), (iv p0.to_.X), (iv p0.to_.Y)]) (k := 1) rfl 0) 4) rfl) ?_
   obtain ⟨y107, hy107, H⟩ := bnd H
   refine Tq.callF (r := (.agg #[(iv y107.X), (iv y107.Y)])) (wg rfl rfl rfl) rfl rfl Tryz.call69 (evl_cons rfl evl_nil) (fun W hW => F_shape_Set__Borders_1_ok p0 y107 hy107 (HF.start _)) ?_
   refine Tq.w2 (wg rfl rfl rfl) rfl (run_eql_47 y106 y107) rfl rfl ?_
   refine Tq.v2 rfl run_pickF rfl rfl ?_
   obtain rfl := Option.some.inj H
   exact Tq.fin (.r rfl)
  ·rw [hg107] at hg105
   rw [if_pos rfl] at hg105
   have H := hg105
   obtain rfl := Option.some.inj H
   refine Tq.ps ?_
   refine Tq.ps ?_
   refine Tq.ps ?_
   refine Tq.ps ?_
   refine Tq.ps ?_
   refine Tq.ps ?_
   refine Tq.v2 rfl run_pickT rfl rfl ?_
   exact Tq.fin (.r rfl)
 ·refine Tq.asg rfl rfl ?_
  refine Tq.nil (Tr.normThen ?_)
  refine Tr.ret ?_
  obtain rfl := Option.some.inj H
  exact Tr.out (m := [(.bool g105)]) [] (res_tmp rfl res_nil) (fun W hW => ⟨rfl, hW.low leB⟩)

theorem F_shape_Set__Borders_3__Borders_2__Borders_1_ok {w : Bs} (p0 : TSide) (q0 : (List ((Int × Int) × List Int))) (bmq0 : Nat) (hmq0 : MRo w.R w.W encP okP bmq0 fl_i64 q0) (bq0 : Nat) (hb0 : w.R bq0) (hc0 : CellsAt w.W bq0 0 [(.map (some bmq0))]) (q1 : (List Bool)) (Aq1_0 : Option Addr) (cq1_0 : Nat) (hq1_0 : Sl w.R w.W fl_bool Aq1_0 cq1_0 q1) (bq1 : Nat) (hb1 : w.R bq1) (hc1 : CellsAt w.W bq1 0 [(.slice Aq1_0 (q1).length cq1_0)]) (bq2 : Nat) (q3 : (List TSide)) (Aq3_0 : Option Addr) (cq3_0 : Nat) (hq3_0 : Sl w.R w.W fl_TSide Aq3_0 cq3_0 q3) (bq3 : Nat) (hb3 : w.R bq3) (hc3 : CellsAt w.W bq3 0 [(.slice Aq3_0 (q3).length cq3_0)]) (q4 : (List ((Int × Int) × List Int))) (bmq4 : Nat) (hmq4 : MRo w.R w.W encP okP bmq4 fl_i64 q4) (bq4 : Nat) (hb4 : w.R bq4) (hc4 : CellsAt w.W bq4 0 [(.map (some bmq4))]) (bq5 : Nat) (hb2 : w.R bq2) (hc2 : CellsAt w.W bq2 0 [(.func (.func 71) #[] #[(.pointer (some ⟨bq4, 0, none⟩)), (.pointer (some ⟨bq5, 0, none⟩))])]) (hb5 : w.R bq5) (hc5 : CellsAt w.W bq5 0 [(.func (.func 69) #[] #[])]) (r : Int) (H : F_shape_Set__Borders_3__Borders_2__Borders_1 p0 q0 q1 q3 q4 = some r) (hE : HF w w.W E0) : Calls Tryz.prog 72 [(.agg #[(iv p0.from_.X), (iv p0.from_.Y), (iv p0.to_.X), (iv p0.to_.Y)]), (.pointer (some ⟨bq0, 0, none⟩)), (.pointer (some ⟨bq1, 0, none⟩)), (.pointer (some ⟨bq2, 0, none⟩)), (.pointer (some ⟨bq3, 0, none⟩))].toArray w.W fun e W' => e = .returned (iv r) ∧ HF w W' E0 := by
 unfold F_shape_Set__Borders_3__Borders_2__Borders_1 at H
 have leB := Bs.Le.refl w
 refine Tr.enter (n := 34) Tryz.func72 rfl rfl rfl hE ?_
 refine Tr.sr ?_
 refine Tr.box 1 (cs := [(iv p0.from_.X), (iv p0.from_.Y), (iv p0.to_.X), (iv p0.to_.Y)]) (wn rfl) rfl rfl rfl fun b100 => ?_
 refine Tr.asg rfl rfl ?_
 refine Tr.nil (Tr.normThen ?_)
 refine Tr.seq ?_
 refine Tr.sr ?_
 refine Tr.va rfl (fun _ _ h1 h2 => run_load1 ag_123 (h1.ev rfl) (rdR hb0 hc0 h2) rfl) ?_
 refine Tr.v1 rfl (run_fieldAddr fo_125_1) rfl ?_
 refine Tr.va rfl (fun _ _ h1 h2 => run_loadN (cs := [(iv p0.to_.X), (iv p0.to_.Y)]) ag_47 sz_47 (h1.ev rfl) (CellsAt.take (rdb h2 (vs := [(iv p0.from_.X), (iv p0.from_.Y), (iv p0.to_.X), (iv p0.to_.Y)]) (k := 1) rfl 2) 2) rfl) ?_
 obtain ⟨l101, hl101, H⟩ := bnd H
 obtain ⟨Al101, cl101, hsl101, hkl101⟩ := hmq0.look hl101
 refine Tr.va rfl (fun _ _ h1 h2 => hkl101 h2 un_123 kp_47 zs_96 (h1.ev rfl) (h1.ev rfl)) ?_
 refine Tr.v1 rfl (run_len un_96) rfl ?_
 refine Tr.mv rfl rfl ?_
 refine Tr.nil (Tr.normThen ?_)
 refine Tr.block ?_
 refine Tr.loop (σ := (List Int) × Nat) (fun m w s => m = s.1.length + 1 ∧ s.1 = List.drop s.2 l101 ∧ s.2 ≤ l101.length ∧ F_shape_Set__Borders_3__Borders_2__Borders_1_L1 p0 q1 q3 q4 s.1 s.2 = some r) (fun s => [(2, (.pointer (some ⟨bq1, 0, none⟩))), (3, (.pointer (some ⟨bq2, 0, none⟩))), (4, (.pointer (some ⟨bq3, 0, none⟩))), (5, (.pointer (some ⟨b100, 0, none⟩))), (12, (.slice Al101 (l101).length cl101)), (13, (iv (l101.length : Int))), (14, (iv (s.2 : Int)))]) (fun s => [(1, bx b100 #[(iv p0.from_.X), (iv p0.from_.Y), (iv p0.to_.X), (iv p0.to_.Y)] 125)]) (l101.length + 1) (l101, 0) ⟨rfl, rfl, Nat.zero_le _, H⟩ (.r rfl) (.r rfl) (fun _ _ h => absurd h.1 (by simp)) ?_
 intro w leL1 m s hs
 obtain ⟨restL1, iL1⟩ := s
 obtain ⟨hmL1, hdL1, hiL1, H⟩ := hs
 replace hdL1 : restL1 = List.drop iL1 l101 := hdL1
 replace H : F_shape_Set__Borders_3__Borders_2__Borders_1_L1 p0 q1 q3 q4 restL1 iL1 = some r := H
 replace hmL1 : m + 1 = restL1.length + 1 := hmL1
 replace hc1 := leL1.ext.cells hb1 hc1
 replace hb1 := leL1.r _ hb1
 replace hq1_0 := hq1_0.leR leL1
 replace hc2 := leL1.ext.cells hb2 hc2
 replace hb2 := leL1.r _ hb2
 replace hc4 := leL1.ext.cells hb4 hc4
 replace hb4 := leL1.r _ hb4
 replace hmq4 := hmq4.leR leL1
 replace hc5 := leL1.ext.cells hb5 hc5
 replace hb5 := leL1.r _ hb5
 replace hc3 := leL1.ext.cells hb3 hc3
 replace hb3 := leL1.r _ hb3
 replace hq3_0 := hq3_0.leR leL1
 replace hsl101 := hsl101.leR leL1
 replace leB := leB.trans leL1
 obtain rfl : m = restL1.length := by omega
 clear hmL1
 show Tr _ _ (LF [(2, (.pointer (some ⟨bq1, 0, none⟩))), (3, (.pointer (some ⟨bq2, 0, none⟩))), (4, (.pointer (some ⟨bq3, 0, none⟩))), (5, (.pointer (some ⟨b100, 0, none⟩))), (12, (.slice Al101 (l101).length cl101)), (13, (iv (l101.length : Int))), (14, (iv (iL1 : Int)))]) (LE [(1, bx b100 #[(iv p0.from_.X), (iv p0.from_.Y), (iv p0.to_.X), (iv p0.to_.Y)] 125)]) _
 cases restL1 with
 | nil =>
  rw [F_shape_Set__Borders_3__Borders_2__Borders_1_L1.eq_1] at H
  refine Tr.sr ?_
  refine Tr.v2 rfl run_lss rfl rfl ?_
  refine Tr.nil (Tr.normThen ?_)
  refine Tr.seq ?_
  refine Tr.condF rfl (range_nil hdL1) ?_
  refine Tr.exit (Tr.exitThen (Tr.exitThen (Tr.exitBlock (Tr.normThen ?_))))
  refine Tr.sr ?_
  refine Tr.asg rfl rfl ?_
  refine Tr.nil (Tr.normThen ?_)
  refine Tr.ret ?_
  obtain rfl := Option.some.inj H
  exact Tr.out (m := [(iv (-1))]) [] (res_tmp rfl res_nil) (fun W hW => ⟨rfl, hW.low leB⟩)
 | cons xL1 restL1 =>
  rw [F_shape_Set__Borders_3__Borders_2__Borders_1_L1.eq_2] at H
  refine Tr.sr ?_
  refine Tr.v2 rfl run_lss rfl rfl ?_
  refine Tr.nil (Tr.normThen ?_)
  refine Tr.seq ?_
  refine Tr.condT rfl (range_on hdL1) ?_
  refine Tr.skip (Tr.normThen ?_)
  refine Tr.seq ?_
  refine Tr.block ?_
  refine Tr.sr ?_
  refine Tr.va rfl (fun _ _ h1 h2 => run_indexAddr el_96 (h1.ev rfl) hsl101.form (h1.ev rfl) (Int.natCast_nonneg _) (range_lt hdL1)) ?_
  refine Tr.va rfl (fun _ _ h1 h2 => run_load1 ag_3 (h1.ev rfl) (rdF ef_i64 hsl101 (range_at hdL1) h2) rfl) ?_
  refine Tr.asg rfl rfl ?_
  refine Tr.nil (Tr.normThen ?_)
  refine Tr.seq ?_
  refine Tr.draw (by kernel_rfl) (by kernel_rfl) ?_
  refine Tq.va rfl (fun _ _ h1 h2 => run_load1 ag_126 (h1.ev rfl) (rdR hb1 hc1 h2) rfl) ?_
  refine Tq.mv rfl rfl ?_
  obtain ⟨x110, hx110, H⟩ := bnd H
  obtain ⟨hx1100, hx1101, hx1102⟩ := idx_some hx110
  refine Tq.va rfl (fun _ _ h1 h2 => run_indexAddr el_126 (h1.ev rfl) hq1_0.form (h1.ev rfl) hx1100 hx1101) ?_
  refine Tq.va rfl (fun _ _ h1 h2 => run_load1 ag_4 (h1.ev rfl) (rdF ef_bool hq1_0 hx1102 h2) rfl) ?_
  refine Tq.v1 rfl run_not rfl ?_
  refine Tq.mv rfl rfl ?_
  obtain ⟨g113, hg113, H⟩ := bnd H
  refine Tq.mid 8 [(2, (.pointer (some ⟨bq1, 0, none⟩))), (3, (.pointer (some ⟨bq2, 0, none⟩))), (4, (.pointer (some ⟨bq3, 0, none⟩))), (5, (.pointer (some ⟨b100, 0, none⟩))), (8, (iv xL1)), (12, (.slice Al101 (l101).length cl101)), (13, (iv (l101.length : Int))), (14, (iv (iL1 : Int))), (31, (.bool g113))] ?_ ?_
  ·cases hg115 : (!x110)
   ·rw [hg115] at hg113
    rw [if_neg (by decide)] at hg113
    have H := hg113
    obtain rfl := Option.some.inj H
    refine Tq.ps ?_
    refine Tq.ps ?_
    refine Tq.ps ?_
    refine Tq.ps ?_
    refine Tq.ps ?_
    refine Tq.ps ?_
    refine Tq.ps ?_
    refine Tq.v2 rfl run_pickF rfl rfl ?_
    exact Tq.fin (.r rfl)
   ·rw [hg115] at hg113
    rw [if_pos rfl] at hg113
    have H := hg113
    refine Tq.val (wg rfl rfl rfl) rfl (fun _ _ h1 h2 => run_load1 ag_129 (h1.ev rfl) (rdR hb2 hc2 h2) rfl) ?_
    refine Tq.val (wg rfl rfl rfl) rfl (fun _ _ h1 h2 => run_loadN (cs := [(iv p0.from_.X), (iv p0.from_.Y), (iv p0.to_.X), (iv p0.to_.Y)]) ag_125 sz_125 (h1.ev rfl) (CellsAt.take (rdb h2 (vs := [(iv p0.from_.X), (iv p0.from_.Y), (iv p0.to_.X), (iv p0.to_.Y)]) (k := 1) rfl 0) 4) rfl) ?_
    refine Tq.val (wg rfl rfl rfl) rfl (fun _ _ h1 h2 => run_load1 ag_121 (h1.ev rfl) (rdR hb3 hc3 h2) rfl) ?_
    refine Tq.w1 (wg rfl rfl rfl) rfl run_move rfl ?_
    obtain ⟨x114, hx114, H⟩ := bnd H
    obtain ⟨hx1140, hx1141, hx1142⟩ := idx_some hx114
    refine Tq.val (wg rfl rfl rfl) rfl (fun _ _ h1 h2 => run_indexAddr el_121 (h1.ev rfl) hq3_0.form (h1.ev rfl) hx1140 hx1141) ?_
    refine Tq.val (wg rfl rfl rfl) rfl (fun _ _ h1 h2 => run_loadN (cs := [(iv x114.from_.X), (iv x114.from_.Y), (iv x114.to_.X), (iv x114.to_.Y)]) ag_125 sz_125 (h1.ev rfl) (CellsAt.take (rdF ef_TSide hq3_0 hx1142 h2) 4) rfl) ?_
    obtain ⟨y115, hy115, H⟩ := bnd H
    refine Tq.callF (r := (.bool y115)) (wg rfl rfl rfl) rfl rfl Tryz.call71 (evl_cons rfl (evl_cons rfl evl_nil)) (fun W hW => F_shape_Set__Borders_2__Borders_1_ok p0 x114 q4 bmq4 (hmq4.ext hW.extAll) bq4 (hW.extAll.r _ hb4) (hW.extAll.cells hb4 hc4) bq5 (hW.extAll.r _ hb5) (hW.extAll.cells hb5 hc5) y115 hy115 (HF.start _)) ?_
    refine Tq.v2 rfl run_pickT rfl rfl ?_
    obtain rfl := Option.some.inj H
    exact Tq.fin (.r rfl)
  ·refine Tq.nil (Tr.normThen ?_)
   refine Tr.cond rfl H (fun H => ?_) (fun H => ?_)
   ·refine Tr.sr ?_
    refine Tr.mv rfl rfl ?_
    refine Tr.asg rfl rfl ?_
    refine Tr.nil (Tr.normThen ?_)
    refine Tr.ret (Tr.retBlock (Tr.retThen (Tr.retThen (Tr.retBlock (Tr.retThen ?_)))))
    obtain rfl := Option.some.inj H
    exact Tr.out (m := [(iv xL1)]) [] (res_tmp rfl res_nil) (fun W hW => ⟨rfl, hW.low leB⟩)
   ·refine Tr.skip (Tr.normBlock (Tr.normThen ?_))
    refine Tr.region ?_
    refine Tr.v2 rfl run_add rfl rfl ?_
    refine Tr.mv rfl rfl ?_
    refine Tr.nil ?_
    exact Tr.backThen leL1 (restL1, (iL1 + 1)) ⟨rfl, range_tl hdL1, range_lt hdL1, H⟩ (.cons rfl (.cons rfl (.cons rfl (.cons rfl (.cons rfl (.cons rfl (.cons (congrArg (fun z => some (Value.int .i64 z)) (range_up hdL1 hsl101.form)) .nil))))))) (.r rfl)

theorem F_shape_Set__Borders_ok (N : Nat) {w : Bs} (p0 : (List TBand)) (Ap0_0 : Option Addr) (cp0_0 : Nat) (hp0_0 : Sl w.R w.W fl_TBand Ap0_0 cp0_0 p0) (r : (List (List TPoint))) (H : F_shape_Set__Borders N p0 = some r) (hE : HF w w.W (LEn [emp])) : Calls Tryz.prog 33 [(.slice Ap0_0 (p0).length cp0_0)].toArray w.W fun e W' => ∃ (w' : Bs) (u : (Option Addr × Nat)), w.Le w' ∧ e = .returned (.slice u.1 (r).length u.2) ∧ (SlF u.1 (r).length u.2) ∧ HF w' W' (LEn [ow u.1 u.2 43 fl_LTPoint r]) := by
 unfold F_shape_Set__Borders at H
 have leB := Bs.Le.refl w
 refine Tr.enter (n := 100) Tryz.func33 rfl rfl rfl hE ?_
 refine Tr.sr ?_
 refine Tr.asg rfl rfl ?_
 refine Tr.nilOwn 1 43 fl_LTPoint ?_
 show Tr _ _ (uf _ 2 (.slice none (([] : List (List TPoint))).length 0)) _ _
 refine Tr.nil (Tr.normThen ?_)
 refine Tr.sr ?_
 refine Tr.mv rfl rfl ?_
 obtain ⟨y100, hy100, H⟩ := bnd H
 refine Tr.callM [2] [emp] (U := (Option Addr × Nat)) (fun u => (.slice u.1 (y100).length u.2)) (fun u => SlF u.1 (y100).length u.2) (fun u => [ow u.1 u.2 125 fl_TSide y100]) rfl (pk_cons rfl pk_nil) (fun _ => rfl) (wn rfl) rfl Tryz.call68 (evl_cons rfl evl_nil) (fun W hW hp hE => F_shape_Set__sides_ok N p0 Ap0_0 cp0_0 (hp0_0.ext (hW.extS hp)) y100 hy100 hE) ?_
 intro u hu
 obtain ⟨Ay100_0, cy100_0⟩ := u
 have gy100_0 := hu
 have hgy100_0 : SlF Ay100_0 (y100).length cy100_0 := gy100_0 --@phi
 show Tr _ _ (uf _ 16 (.slice Ay100_0 (y100).length cy100_0)) (up _ 2 (ow Ay100_0 cy100_0 125 fl_TSide y100)) _
 refine Tr.alloc 3 (wn rfl) rfl ze_121 fun b102 => ?_
 refine Tr.store 3 (cs := [(.slice Ay100_0 (y100).length cy100_0)]) [(.slice Ay100_0 (y100).length cy100_0)] (wn rfl) rfl rfl rfl rfl sz_121 rfl rfl rfl ?_
 refine Tr.nil (Tr.normThen ?_)
 refine Tr.sr ?_
 refine Tr.makeMapQ encP okP 4 3 fl_i64 (wn rfl) rfl fun b103 => ?_
 refine Tr.alloc 5 (wn rfl) rfl ze_123 fun b104 => ?_
 refine Tr.store 5 (cs := [(.map (some b103))]) [(.map (some b103))] (wn rfl) rfl rfl rfl rfl sz_123 rfl rfl rfl ?_
 refine Tr.nil (Tr.normThen ?_)
 refine Tr.seq ?_
 refine Tr.sr ?_
 refine Tr.va rfl (fun _ _ h1 h2 => run_load1 ag_121 (h1.ev rfl) (rdb h2 (vs := [(.slice Ay100_0 (y100).length cy100_0)]) (k := 3) rfl 0) rfl) ?_
 refine Tr.v1 rfl (run_len un_121) rfl ?_
 refine Tr.mv rfl rfl ?_
 refine Tr.nil (Tr.normThen ?_)
 refine Tr.block ?_
 refine Tr.loop (σ := (List TSide) × Nat × (List ((Int × Int) × List Int)) × (List (KE (Int × Int) Int))) (fun m w s => m = s.1.length + 1 ∧ s.1 = List.drop s.2.1 y100 ∧ s.2.1 ≤ y100.length ∧ F_shape_Set__Borders_L1 N y100 s.1 s.2.1 s.2.2.1 = some r ∧ MQ s.2.2.2 s.2.2.1) (fun s => [(3, (.pointer (some ⟨b102, 0, none⟩))), (4, (.pointer (some ⟨b104, 0, none⟩))), (18, (.slice Ay100_0 (y100).length cy100_0)), (19, (iv (y100.length : Int))), (20, (iv (s.2.1 : Int)))]) (fun s => [(2, ow Ay100_0 cy100_0 125 fl_TSide y100), (3, bx b102 #[(.slice Ay100_0 (y100).length cy100_0)] 121), (4, mq encP okP b103 3 fl_i64 s.2.2.2), (5, bx b104 #[(.map (some b103))] 123)]) (y100.length + 1) (y100, 0, ([] : List ((Int × Int) × List Int)), ([] : List (KE (Int × Int) Int))) ⟨rfl, rfl, Nat.zero_le _, H, MQ.nil⟩ (.r rfl) (.r rfl) (fun _ _ h => absurd h.1 (by simp)) ?_
 intro w leL1 m s hs
 obtain ⟨restL1, iL1, m123, msm123⟩ := s
 obtain ⟨hmL1, hdL1, hiL1, H, hm123⟩ := hs
 replace hdL1 : restL1 = List.drop iL1 y100 := hdL1
 replace H : F_shape_Set__Borders_L1 N y100 restL1 iL1 m123 = some r := H
 replace hmL1 : m + 1 = restL1.length + 1 := hmL1
 replace leB := leB.trans leL1
 replace hm123 : MQ msm123 m123 := hm123
 obtain rfl : m = restL1.length := by omega
 clear hmL1
 show Tr _ _ (LF [(3, (.pointer (some ⟨b102, 0, none⟩))), (4, (.pointer (some ⟨b104, 0, none⟩))), (18, (.slice Ay100_0 (y100).length cy100_0)), (19, (iv (y100.length : Int))), (20, (iv (iL1 : Int)))]) (LE [(2, ow Ay100_0 cy100_0 125 fl_TSide y100), (3, bx b102 #[(.slice Ay100_0 (y100).length cy100_0)] 121), (4, mq encP okP b103 3 fl_i64 msm123), (5, bx b104 #[(.map (some b103))] 123)]) _
 cases restL1 with
 | nil =>
  rw [F_shape_Set__Borders_L1.eq_1] at H
  refine Tr.sr ?_
  refine Tr.v2 rfl run_lss rfl rfl ?_
  refine Tr.nil (Tr.normThen ?_)
  refine Tr.seq ?_
  refine Tr.condF rfl (range_nil hdL1) ?_
  refine Tr.exit (Tr.exitThen (Tr.exitThen (Tr.exitBlock (Tr.normThen ?_))))
  refine Tr.seq ?_
  refine Tr.mapFreeze 4 rfl hm123 fun w le125 hz124 => ?_
  replace leB := leB.trans le125
  replace leL1 := leL1.trans le125
  refine Tr.region ?_
  refine Tr.va rfl (fun _ _ h1 h2 => run_load1 ag_121 (h1.ev rfl) (rdb h2 (vs := [(.slice Ay100_0 (y100).length cy100_0)]) (k := 3) rfl 0) rfl) ?_
  refine Tr.v1 rfl (run_len un_121) rfl ?_
  obtain ⟨l126, hl126, H⟩ := bnd H
  refine Tr.makeSlice 12 fl_bool false (wn rfl) rfl rfl rfl un_126 sz_4 rfl ze_4 by_4 rfl ⟨(), fun _ _ => tr_bool _ _ _ _, rfl⟩ hl126 fun b127 hfl126 => ?_
  refine Tr.alloc 13 (wn rfl) rfl ze_126 fun b128 => ?_
  refine Tr.store 13 (cs := [(.slice (some ⟨b127, 0, none⟩) (l126).length (l126).length)]) [(.slice (some ⟨b127, 0, none⟩) (l126).length (l126).length)] (wn rfl) rfl rfl rfl rfl sz_126 rfl rfl rfl ?_
  refine Tr.nil (Tr.normThen ?_)
  refine Tr.sr ?_
  refine Tr.alloc 14 (wn rfl) rfl ze_128 fun b129 => ?_
  refine Tr.store 14 (cs := [(.func (.func 69) #[] #[])]) [(.func (.func 69) #[] #[])] (wn rfl) rfl rfl rfl rfl sz_128 rfl rfl rfl ?_
  refine Tr.nil (Tr.normThen ?_)
  refine Tr.sr ?_
  refine Tr.mkFunc (vs := [(.pointer (some ⟨b104, 0, none⟩)), (.pointer (some ⟨b129, 0, none⟩))]) (wn rfl) rfl (evl_cons rfl (evl_cons rfl evl_nil)) ?_
  refine Tr.alloc 15 (wn rfl) rfl ze_129 fun b130 => ?_
  refine Tr.store 15 (cs := [(.func (.func 71) #[] #[(.pointer (some ⟨b104, 0, none⟩)), (.pointer (some ⟨b129, 0, none⟩))])]) [(.func (.func 71) #[] #[(.pointer (some ⟨b104, 0, none⟩)), (.pointer (some ⟨b129, 0, none⟩))])] (wn rfl) rfl rfl rfl rfl sz_129 rfl rfl rfl ?_
  refine Tr.nil (Tr.normThen ?_)
  refine Tr.sr ?_
  refine Tr.mkFunc (vs := [(.pointer (some ⟨b104, 0, none⟩)), (.pointer (some ⟨b128, 0, none⟩)), (.pointer (some ⟨b130, 0, none⟩)), (.pointer (some ⟨b102, 0, none⟩))]) (wn rfl) rfl (evl_cons rfl (evl_cons rfl (evl_cons rfl (evl_cons rfl evl_nil)))) ?_
  refine Tr.asg rfl rfl ?_
  refine Tr.nil (Tr.normThen ?_)
  refine Tr.sr ?_
  refine Tr.asg rfl rfl ?_
  refine Tr.nilOwn 16 43 fl_LTPoint ?_
  show Tr _ _ (uf _ 11 (.slice none (([] : List (List TPoint))).length 0)) _ _
  refine Tr.nil (Tr.normThen ?_)
  refine Tr.seq ?_
  refine Tr.sr ?_
  refine Tr.va rfl (fun _ _ h1 h2 => run_load1 ag_121 (h1.ev rfl) (rdb h2 (vs := [(.slice Ay100_0 (y100).length cy100_0)]) (k := 3) rfl 0) rfl) ?_
  refine Tr.v1 rfl (run_len un_121) rfl ?_
  refine Tr.mv rfl rfl ?_
  refine Tr.nil (Tr.normThen ?_)
  refine Tr.block ?_
  refine Tr.loop (σ := (List TSide) × Nat × (List Bool) × (List (List TPoint)) × (Option Addr) × Nat × (Option Addr) × Nat) (fun m w s => m = s.1.length + 1 ∧ s.1 = List.drop s.2.1 y100 ∧ s.2.1 ≤ y100.length ∧ F_shape_Set__Borders_L8 N y100 m123 s.1 s.2.1 s.2.2.1 s.2.2.2.1 = some r ∧ SlF s.2.2.2.2.1 (s.2.2.1).length s.2.2.2.2.2.1 ∧ SlF s.2.2.2.2.2.2.1 (s.2.2.2.1).length s.2.2.2.2.2.2.2) (fun s => [(3, (.pointer (some ⟨b102, 0, none⟩))), (7, (.pointer (some ⟨b128, 0, none⟩))), (9, (.pointer (some ⟨b130, 0, none⟩))), (10, (.func (.func 72) #[] #[(.pointer (some ⟨b104, 0, none⟩)), (.pointer (some ⟨b128, 0, none⟩)), (.pointer (some ⟨b130, 0, none⟩)), (.pointer (some ⟨b102, 0, none⟩))])), (11, (.slice s.2.2.2.2.2.2.1 (s.2.2.2.1).length s.2.2.2.2.2.2.2)), (41, (iv (y100.length : Int))), (42, (iv (s.2.1 : Int)))]) (fun s => [(2, ow Ay100_0 cy100_0 125 fl_TSide y100), (3, bx b102 #[(.slice Ay100_0 (y100).length cy100_0)] 121), (5, bx b104 #[(.map (some b103))] 123), (12, ow s.2.2.2.2.1 s.2.2.2.2.2.1 4 fl_bool s.2.2.1), (13, bx b128 #[(.slice s.2.2.2.2.1 (s.2.2.1).length s.2.2.2.2.2.1)] 126), (14, bx b129 #[(.func (.func 69) #[] #[])] 128), (15, bx b130 #[(.func (.func 71) #[] #[(.pointer (some ⟨b104, 0, none⟩)), (.pointer (some ⟨b129, 0, none⟩))])] 129), (16, ow s.2.2.2.2.2.2.1 s.2.2.2.2.2.2.2 43 fl_LTPoint s.2.2.2.1)]) (y100.length + 1) (y100, 0, l126, ([] : List (List TPoint)), (some ⟨b127, 0, none⟩), (l126).length, none, 0) ⟨rfl, rfl, Nat.zero_le _, H, hfl126, slf_nil⟩ (.r rfl) (.r rfl) (fun _ _ h => absurd h.1 (by simp)) ?_
  intro w leL8 m s hs
  obtain ⟨restL8, iL8, l402, l403, Al402, cl402, Al403, cl403⟩ := s
  obtain ⟨hmL8, hdL8, hiL8, H, hl402, hl403⟩ := hs
  replace hdL8 : restL8 = List.drop iL8 y100 := hdL8
  replace H : F_shape_Set__Borders_L8 N y100 m123 restL8 iL8 l402 l403 = some r := H
  replace hmL8 : m + 1 = restL8.length + 1 := hmL8
  replace hz124 := hz124.leR leL8
  replace leB := leB.trans leL8
  replace leL1 := leL1.trans leL8
  replace hl402 : SlF Al402 (l402).length cl402 := hl402
  replace hl403 : SlF Al403 (l403).length cl403 := hl403
  obtain rfl : m = restL8.length := by omega
  clear hmL8
  show Tr _ _ (LF [(3, (.pointer (some ⟨b102, 0, none⟩))), (7, (.pointer (some ⟨b128, 0, none⟩))), (9, (.pointer (some ⟨b130, 0, none⟩))), (10, (.func (.func 72) #[] #[(.pointer (some ⟨b104, 0, none⟩)), (.pointer (some ⟨b128, 0, none⟩)), (.pointer (some ⟨b130, 0, none⟩)), (.pointer (some ⟨b102, 0, none⟩))])), (11, (.slice Al403 (l403).length cl403)), (41, (iv (y100.length : Int))), (42, (iv (iL8 : Int)))]) (LE [(2, ow Ay100_0 cy100_0 125 fl_TSide y100), (3, bx b102 #[(.slice Ay100_0 (y100).length cy100_0)] 121), (5, bx b104 #[(.map (some b103))] 123), (12, ow Al402 cl402 4 fl_bool l402), (13, bx b128 #[(.slice Al402 (l402).length cl402)] 126), (14, bx b129 #[(.func (.func 69) #[] #[])] 128), (15, bx b130 #[(.func (.func 71) #[] #[(.pointer (some ⟨b104, 0, none⟩)), (.pointer (some ⟨b129, 0, none⟩))])] 129), (16, ow Al403 cl403 43 fl_LTPoint l403)]) _
  cases restL8 with
  | nil =>
   rw [F_shape_Set__Borders_L8.eq_1] at H
   refine Tr.sr ?_
   refine Tr.v2 rfl run_lss rfl rfl ?_
   refine Tr.nil (Tr.normThen ?_)
   refine Tr.seq ?_
   refine Tr.condF rfl (range_nil hdL8) ?_
   refine Tr.exit (Tr.exitThen (Tr.exitThen (Tr.exitBlock (Tr.normThen ?_))))
   refine Tr.sr ?_
   refine Tr.mv rfl rfl ?_
   obtain ⟨y404, hy404, H⟩ := bnd H
   refine Tr.callM [16] [ow Al403 cl403 43 fl_LTPoint l403] (U := Unit) (fun u => (.tuple #[])) (fun u => (y404).length = (l403).length) (fun u => [ow Al403 cl403 43 fl_LTPoint y404]) rfl (pk_cons rfl pk_nil) (fun _ => rfl) (wn rfl) rfl Tryz.call74 (evl_cons rfl (evl_cons rfl evl_nil)) (fun W hW hp hE => F_slices_SortFunc_LTPoint_ok l403 Al403 cl403 (fun z0 z1 => F_shape_Set__Borders_4 z0 z1) 75 [] Tryz.call75 (fun w' he z0 A0 c0 h0 z1 A1 c1 h1 y hy => F_shape_Set__Borders_4_ok z0 A0 c0 h0 z1 A1 c1 h1 y hy (HF.start _)) y404 hy404 hE) ?_
   intro u hu
   have gky404_0 := hu
   have hgky404_0 : (y404).length = (l403).length := gky404_0 --@phi
   have hfky404_0 : SlF Al403 (y404).length cl403 := by rw [hgky404_0]; exact hl403
   show Tr _ _ (uf _ 98 (.tuple #[])) (up _ 16 (ow Al403 cl403 43 fl_LTPoint y404)) _
   refine Tr.sel (lf := [(3, (.pointer (some ⟨b102, 0, none⟩))), (7, (.pointer (some ⟨b128, 0, none⟩))), (9, (.pointer (some ⟨b130, 0, none⟩))), (10, (.func (.func 72) #[] #[(.pointer (some ⟨b104, 0, none⟩)), (.pointer (some ⟨b128, 0, none⟩)), (.pointer (some ⟨b130, 0, none⟩)), (.pointer (some ⟨b102, 0, none⟩))])), (11, (.slice Al403 (y404).length cl403)), (41, (iv (y100.length : Int))), (42, (iv (iL8 : Int))), (43, (.bool (decide ((iL8 : Int) < (y100.length : Int))))), (97, (.slice Al403 (y404).length cl403)), (98, (.tuple #[]))]) (le := [(2, ow Ay100_0 cy100_0 125 fl_TSide y100), (3, bx b102 #[(.slice Ay100_0 (y100).length cy100_0)] 121), (5, bx b104 #[(.map (some b103))] 123), (12, ow Al402 cl402 4 fl_bool l402), (13, bx b128 #[(.slice Al402 (l402).length cl402)] 126), (14, bx b129 #[(.func (.func 69) #[] #[])] 128), (15, bx b130 #[(.func (.func 71) #[] #[(.pointer (some ⟨b104, 0, none⟩)), (.pointer (some ⟨b129, 0, none⟩))])] 129), (16, ow Al403 cl403 43 fl_LTPoint y404)]) (.cons rfl (.cons rfl (.cons rfl (.cons rfl (.cons (slenV rfl (by rw [hgky404_0])) (.cons rfl (.cons rfl (.cons rfl (.cons (slenV rfl (by rw [hgky404_0])) (.r rfl)))))))))) (.r rfl) ?_
   refine Tr.nil (Tr.normThen ?_)
   refine Tr.sr ?_
   refine Tr.mv rfl rfl ?_
   refine Tr.asg rfl rfl ?_
   refine Tr.nil (Tr.normThen ?_)
   refine Tr.ret ?_
   obtain rfl := Option.some.inj H
   exact Tr.out (m := [(.slice Al403 (y404).length cl403)]) [] (res_tmp rfl res_nil) (fun W hW => ⟨w, (Al403, cl403), leB, rfl, hfky404_0, hW.pick (ks := [16]) (by decide) (pk_cons rfl pk_nil)⟩)
  | cons xL8 restL8 =>
   rw [F_shape_Set__Borders_L8.eq_2] at H
   refine Tr.sr ?_
   refine Tr.v2 rfl run_lss rfl rfl ?_
   refine Tr.nil (Tr.normThen ?_)
   refine Tr.seq ?_
   refine Tr.condT rfl (range_on hdL8) ?_
   refine Tr.skip (Tr.normThen ?_)
   refine Tr.seq ?_
   refine Tr.block ?_
   refine Tr.sr ?_
   refine Tr.mv rfl rfl ?_
   refine Tr.asg rfl rfl ?_
   refine Tr.nil (Tr.normThen ?_)
   refine Tr.seq ?_
   refine Tr.sr ?_
   refine Tr.va rfl (fun _ _ h1 h2 => run_load1 ag_126 (h1.ev rfl) (rdb h2 (vs := [(.slice Al402 (l402).length cl402)]) (k := 13) rfl 0) rfl) ?_
   refine Tr.mv rfl rfl ?_
   obtain ⟨x406, hx406, H⟩ := bnd H
   obtain ⟨hx4060, hx4061, hx4062⟩ := idx_some hx406
   refine Tr.va rfl (fun _ _ h1 h2 => run_indexAddr el_126 (h1.ev rfl) hl402 (h1.ev rfl) hx4060 hx4061) ?_
   refine Tr.va rfl (fun _ _ h1 h2 => run_load1 ag_4 (h1.ev rfl) (rdo ef_bool (k := 12) h2 rfl hx4062) rfl) ?_
   refine Tr.nil (Tr.normThen ?_)
   refine Tr.cond rfl H (fun H => ?_) (fun H => ?_)
   ·refine Tr.exit (Tr.exitThen (Tr.exitBlock (Tr.normThen ?_)))
    refine Tr.region ?_
    refine Tr.v2 rfl run_add rfl rfl ?_
    refine Tr.mv rfl rfl ?_
    refine Tr.nil ?_
    exact Tr.backThen leL8 (restL8, (iL8 + 1), l402, l403, Al402, cl402, Al403, cl403) ⟨rfl, range_tl hdL8, range_lt hdL8, H, hl402, hl403⟩ (.cons rfl (.cons rfl (.cons rfl (.cons rfl (.cons rfl (.cons rfl (.cons (congrArg (fun z => some (Value.int .i64 z)) (range_up hdL8 hgy100_0)) .nil))))))) (.r rfl)
   ·refine Tr.skip (Tr.normThen ?_)
    refine Tr.sr ?_
    refine Tr.asg rfl rfl ?_
    refine Tr.nilOwn 35 125 fl_TSide ?_
    show Tr _ _ (uf _ 13 (.slice none (([] : List TSide)).length 0)) _ _
    refine Tr.nil (Tr.normThen ?_)
    have leJ455 := Bs.Le.refl w
    refine Tr.cutJ (σ := (List Bool) × (List TSide) × (Option Addr) × Nat × (Option Addr) × Nat) (fun w s => F_shape_Set__Borders_J10 l403 (F_shape_Set__Borders_L8 N y100 m123 restL8 (iL8 + 1)) s.1 s.2.1 = some r ∧ SlF s.2.2.1 (s.1).length s.2.2.2.1 ∧ SlF s.2.2.2.2.1 (s.2.1).length s.2.2.2.2.2) (fun s => [(3, (.pointer (some ⟨b102, 0, none⟩))), (7, (.pointer (some ⟨b128, 0, none⟩))), (9, (.pointer (some ⟨b130, 0, none⟩))), (10, (.func (.func 72) #[] #[(.pointer (some ⟨b104, 0, none⟩)), (.pointer (some ⟨b128, 0, none⟩)), (.pointer (some ⟨b130, 0, none⟩)), (.pointer (some ⟨b102, 0, none⟩))])), (11, (.slice Al403 (l403).length cl403)), (13, (.slice s.2.2.2.2.1 (s.2.1).length s.2.2.2.2.2)), (41, (iv (y100.length : Int))), (42, (iv (iL8 : Int)))]) (fun s => [(2, ow Ay100_0 cy100_0 125 fl_TSide y100), (3, bx b102 #[(.slice Ay100_0 (y100).length cy100_0)] 121), (5, bx b104 #[(.map (some b103))] 123), (12, ow s.2.2.1 s.2.2.2.1 4 fl_bool s.1), (13, bx b128 #[(.slice s.2.2.1 (s.1).length s.2.2.2.1)] 126), (14, bx b129 #[(.func (.func 69) #[] #[])] 128), (15, bx b130 #[(.func (.func 71) #[] #[(.pointer (some ⟨b104, 0, none⟩)), (.pointer (some ⟨b129, 0, none⟩))])] 129), (16, ow Al403 cl403 43 fl_LTPoint l403), (35, ow s.2.2.2.2.1 s.2.2.2.2.2 125 fl_TSide s.2.1)]) ?_ ?_
    ·refine Tr.sr ?_
     refine Tr.mv rfl rfl ?_
     refine Tr.asg rfl rfl ?_
     refine Tr.nil (Tr.normThen ?_)
     refine Tr.block ?_
     refine Tr.loop (σ := (List Bool) × (List TSide) × Int × (Option Addr) × Nat × (Option Addr) × Nat) (fun m w s => F_shape_Set__Borders_L11 y100 m123 l403 (F_shape_Set__Borders_L8 N y100 m123 restL8 (iL8 + 1)) xL8 m s.1 s.2.1 s.2.2.1 = some r ∧ SlF s.2.2.2.1 (s.1).length s.2.2.2.2.1 ∧ SlF s.2.2.2.2.2.1 (s.2.1).length s.2.2.2.2.2.2) (fun s => [(3, (.pointer (some ⟨b102, 0, none⟩))), (7, (.pointer (some ⟨b128, 0, none⟩))), (9, (.pointer (some ⟨b130, 0, none⟩))), (10, (.func (.func 72) #[] #[(.pointer (some ⟨b104, 0, none⟩)), (.pointer (some ⟨b128, 0, none⟩)), (.pointer (some ⟨b130, 0, none⟩)), (.pointer (some ⟨b102, 0, none⟩))])), (11, (.slice Al403 (l403).length cl403)), (12, (iv (iL8 : Int))), (13, (.slice s.2.2.2.2.2.1 (s.2.1).length s.2.2.2.2.2.2)), (14, (iv s.2.2.1)), (41, (iv (y100.length : Int))), (42, (iv (iL8 : Int)))]) (fun s => [(2, ow Ay100_0 cy100_0 125 fl_TSide y100), (3, bx b102 #[(.slice Ay100_0 (y100).length cy100_0)] 121), (5, bx b104 #[(.map (some b103))] 123), (12, ow s.2.2.2.1 s.2.2.2.2.1 4 fl_bool s.1), (13, bx b128 #[(.slice s.2.2.2.1 (s.1).length s.2.2.2.2.1)] 126), (14, bx b129 #[(.func (.func 69) #[] #[])] 128), (15, bx b130 #[(.func (.func 71) #[] #[(.pointer (some ⟨b104, 0, none⟩)), (.pointer (some ⟨b129, 0, none⟩))])] 129), (16, ow Al403 cl403 43 fl_LTPoint l403), (35, ow s.2.2.2.2.2.1 s.2.2.2.2.2.2 125 fl_TSide s.2.1)]) N (l402, ([] : List TSide), (iL8 : Int), Al402, cl402, none, 0) ⟨H, hl402, slf_nil⟩ (.r rfl) (.r rfl) (fun _ _ h => noSome (h.1)) ?_
     intro w leL11 mL11 s hs
     obtain ⟨l493, l494, x495, Al493, cl493, Al494, cl494⟩ := s
     obtain ⟨H, hl493, hl494⟩ := hs
     replace H : F_shape_Set__Borders_L11 y100 m123 l403 (F_shape_Set__Borders_L8 N y100 m123 restL8 (iL8 + 1)) xL8 (mL11 + 1) l493 l494 x495 = some r := H
     replace hz124 := hz124.leR leL11
     replace leB := leB.trans leL11
     replace leL1 := leL1.trans leL11
     replace leL8 := leL8.trans leL11
     replace leJ455 := leJ455.trans leL11
     replace hl493 : SlF Al493 (l493).length cl493 := hl493
     replace hl494 : SlF Al494 (l494).length cl494 := hl494
     rw [F_shape_Set__Borders_L11.eq_2] at H
     show Tr _ _ (LF [(3, (.pointer (some ⟨b102, 0, none⟩))), (7, (.pointer (some ⟨b128, 0, none⟩))), (9, (.pointer (some ⟨b130, 0, none⟩))), (10, (.func (.func 72) #[] #[(.pointer (some ⟨b104, 0, none⟩)), (.pointer (some ⟨b128, 0, none⟩)), (.pointer (some ⟨b130, 0, none⟩)), (.pointer (some ⟨b102, 0, none⟩))])), (11, (.slice Al403 (l403).length cl403)), (12, (iv (iL8 : Int))), (13, (.slice Al494 (l494).length cl494)), (14, (iv x495)), (41, (iv (y100.length : Int))), (42, (iv (iL8 : Int)))]) (LE [(2, ow Ay100_0 cy100_0 125 fl_TSide y100), (3, bx b102 #[(.slice Ay100_0 (y100).length cy100_0)] 121), (5, bx b104 #[(.map (some b103))] 123), (12, ow Al493 cl493 4 fl_bool l493), (13, bx b128 #[(.slice Al493 (l493).length cl493)] 126), (14, bx b129 #[(.func (.func 69) #[] #[])] 128), (15, bx b130 #[(.func (.func 71) #[] #[(.pointer (some ⟨b104, 0, none⟩)), (.pointer (some ⟨b129, 0, none⟩))])] 129), (16, ow Al403 cl403 43 fl_LTPoint l403), (35, ow Al494 cl494 125 fl_TSide l494)]) _
     refine Tr.seq ?_
     refine Tr.sr ?_
     refine Tr.mv rfl rfl ?_
     refine Tr.v2 rfl run_geq rfl rfl ?_
     refine Tr.nil (Tr.normThen ?_)
     refine Tr.cond rfl H (fun H => ?_) (fun H => ?_)
     ·refine Tr.skip (Tr.normThen ?_)
      refine Tr.seq ?_
      refine Tr.block ?_
      refine Tr.sr ?_
      refine Tr.va rfl (fun _ _ h1 h2 => run_load1 ag_126 (h1.ev rfl) (rdb h2 (vs := [(.slice Al493 (l493).length cl493)]) (k := 13) rfl 0) rfl) ?_
      refine Tr.mv rfl rfl ?_
      obtain ⟨x496, hx496, H⟩ := bnd H
      obtain ⟨hx4960, hx4961, hx4962⟩ := idx_some hx496
      refine Tr.va rfl (fun _ _ h1 h2 => run_indexAddr el_126 (h1.ev rfl) hl493 (h1.ev rfl) hx4960 hx4961) ?_
      obtain ⟨l497, hl497, H⟩ := bnd H
      have hnl497 := sets_len hl497
      refine Tr.storeEl 12 (t := fl_bool) (l := l493) (i := x495) (fo := 0) (cs := [(.bool true)]) true (wn rfl) rfl rfl rfl rfl rfl hx4962 sz_4 rfl (fun u _ => ⟨u, trivial, rfl⟩) rfl hl497 ?_
      have hfl497 : SlF Al493 (l497).length cl493 := by rw [hnl497]; exact hl493
      refine Tr.sel (lf := [(3, (.pointer (some ⟨b102, 0, none⟩))), (7, (.pointer (some ⟨b128, 0, none⟩))), (9, (.pointer (some ⟨b130, 0, none⟩))), (10, (.func (.func 72) #[] #[(.pointer (some ⟨b104, 0, none⟩)), (.pointer (some ⟨b128, 0, none⟩)), (.pointer (some ⟨b130, 0, none⟩)), (.pointer (some ⟨b102, 0, none⟩))])), (11, (.slice Al403 (l403).length cl403)), (12, (iv (iL8 : Int))), (13, (.slice Al494 (l494).length cl494)), (14, (iv x495)), (41, (iv (y100.length : Int))), (42, (iv (iL8 : Int))), (50, (iv x495)), (51, (.bool (decide (0 ≤ x495)))), (58, (.slice Al493 (l497).length cl493)), (59, (iv x495))]) (le := [(2, ow Ay100_0 cy100_0 125 fl_TSide y100), (3, bx b102 #[(.slice Ay100_0 (y100).length cy100_0)] 121), (5, bx b104 #[(.map (some b103))] 123), (12, ow Al493 cl493 4 fl_bool l497), (13, bx b128 #[(.slice Al493 (l497).length cl493)] 126), (14, bx b129 #[(.func (.func 69) #[] #[])] 128), (15, bx b130 #[(.func (.func 71) #[] #[(.pointer (some ⟨b104, 0, none⟩)), (.pointer (some ⟨b129, 0, none⟩))])] 129), (16, ow Al403 cl403 43 fl_LTPoint l403), (35, ow Al494 cl494 125 fl_TSide l494)]) (.cons rfl (.cons rfl (.cons rfl (.cons rfl (.cons rfl (.cons rfl (.cons rfl (.cons rfl (.cons rfl (.cons rfl (.cons rfl (.cons rfl (.cons (slenV rfl (by rw [hnl497])) (.r rfl)))))))))))))) (.cons rfl (.cons rfl (.cons rfl (.cons rfl (.cons (ebx rfl (by rw [hnl497])) (.r rfl)))))) ?_
      refine Tr.nil (Tr.normThen ?_)
      refine Tr.sr ?_
      refine Tr.mv rfl rfl ?_
      refine Tr.va rfl (fun _ _ h1 h2 => run_load1 ag_121 (h1.ev rfl) (rdb h2 (vs := [(.slice Ay100_0 (y100).length cy100_0)]) (k := 3) rfl 0) rfl) ?_
      refine Tr.mv rfl rfl ?_
      obtain ⟨x498, hx498, H⟩ := bnd H
      obtain ⟨hx4980, hx4981, hx4982⟩ := idx_some hx498
      refine Tr.va rfl (fun _ _ h1 h2 => run_indexAddr el_121 (h1.ev rfl) hgy100_0 (h1.ev rfl) hx4980 hx4981) ?_
      refine Tr.va rfl (fun _ _ h1 h2 => run_loadN (cs := [(iv x498.from_.X), (iv x498.from_.Y), (iv x498.to_.X), (iv x498.to_.Y)]) ag_125 sz_125 (h1.ev rfl) (CellsAt.take (rdo ef_TSide (k := 2) h2 rfl hx4982) 4) rfl) ?_
      refine Tr.buildSlice 43 (e := 125) (vs := [(0, (.agg #[(iv x498.from_.X), (iv x498.from_.Y), (iv x498.to_.X), (iv x498.to_.Y)]))]) (cs := [(iv x498.from_.X), (iv x498.from_.Y), (iv x498.to_.X), (iv x498.to_.Y)]) (wn rfl) rfl (evs_cons rfl evs_nil) (by kernel_rfl) fun b499 => ?_
      obtain ⟨l500, hl500, H⟩ := bnd H
      refine Tr.append 35 (t := fl_TSide) (l := l494) (l2 := [x498]) (wn rfl) rfl rfl rfl rfl (fun W hW => ⟨[[(iv x498.from_.X), (iv x498.from_.Y), (iv x498.to_.X), (iv x498.to_.Y)]], (.cons ⟨(), trivial, rfl⟩ .nil), rdb hW (vs := [(iv x498.from_.X), (iv x498.from_.Y), (iv x498.to_.X), (iv x498.to_.Y)]) (k := 43) rfl 0⟩) un_121 sz_125 zl_125 (by decide) by_125 rfl hl500 fun Al500 cl500 hAl500 => ?_
      refine Tr.asg rfl rfl ?_
      refine Tr.nil (Tr.normThen ?_)
      refine Tr.seq ?_
      refine Tr.draw (by kernel_rfl) (by kernel_rfl) ?_
      refine Tq.va rfl (fun _ _ h1 h2 => run_load1 ag_121 (h1.ev rfl) (rdb h2 (vs := [(.slice Ay100_0 (y100).length cy100_0)]) (k := 3) rfl 0) rfl) ?_
      refine Tq.mv rfl rfl ?_
      obtain ⟨x501, hx501, H⟩ := bnd H
      obtain ⟨hx5010, hx5011, hx5012⟩ := idx_some hx501
      refine Tq.va rfl (fun _ _ h1 h2 => run_indexAddr el_121 (h1.ev rfl) hgy100_0 (h1.ev rfl) hx5010 hx5011) ?_
      refine Tq.v1 rfl (run_fieldAddr fo_125_1) rfl ?_
      refine Tq.va rfl (fun _ _ h1 h2 => run_loadN (cs := [(iv x501.to_.X), (iv x501.to_.Y)]) ag_47 sz_47 (h1.ev rfl) (CellsAt.take (CellsAt.drop (rdo ef_TSide (k := 2) h2 rfl hx5012) 2) 2) rfl) ?_
      refine Tq.va rfl (fun _ _ h1 h2 => run_load1 ag_121 (h1.ev rfl) (rdb h2 (vs := [(.slice Ay100_0 (y100).length cy100_0)]) (k := 3) rfl 0) rfl) ?_
      refine Tq.mv rfl rfl ?_
      refine Tq.va rfl (fun _ _ h1 h2 => run_indexAddr el_121 (h1.ev rfl) hgy100_0 (h1.ev rfl) (Int.natCast_nonneg _) (range_lt hdL8)) ?_
      refine Tq.v1 rfl (run_fieldAddr fo_125_0) rfl ?_
      refine Tq.va rfl (fun _ _ h1 h2 => run_loadN (cs := [(iv xL8.from_.X), (iv xL8.from_.Y)]) ag_47 sz_47 (h1.ev rfl) (CellsAt.take (CellsAt.drop (rdo ef_TSide (k := 2) h2 rfl (range_at hdL8)) 0) 2) rfl) ?_
      refine Tq.v2 rfl (run_eql_47 x501.to_ xL8.from_) rfl rfl ?_
      refine Tq.mv rfl rfl ?_
      obtain ⟨g504, hg504, H⟩ := bnd H
      refine Tq.mid 11 [(3, (.pointer (some ⟨b102, 0, none⟩))), (7, (.pointer (some ⟨b128, 0, none⟩))), (9, (.pointer (some ⟨b130, 0, none⟩))), (10, (.func (.func 72) #[] #[(.pointer (some ⟨b104, 0, none⟩)), (.pointer (some ⟨b128, 0, none⟩)), (.pointer (some ⟨b130, 0, none⟩)), (.pointer (some ⟨b102, 0, none⟩))])), (11, (.slice Al403 (l403).length cl403)), (12, (iv (iL8 : Int))), (13, (.slice Al500 (l500).length cl500)), (14, (iv x495)), (41, (iv (y100.length : Int))), (42, (iv (iL8 : Int))), (90, (.bool g504))] ?_ ?_
      ·cases hg508 : (eqTPoint x501.to_ xL8.from_)
       ·rw [hg508] at hg504
        rw [if_neg (by decide)] at hg504
        have H := hg504
        obtain rfl := Option.some.inj H
        refine Tq.ps ?_
        refine Tq.ps ?_
        refine Tq.ps ?_
        refine Tq.ps ?_
        refine Tq.ps ?_
        refine Tq.ps ?_
        refine Tq.ps ?_
        refine Tq.ps ?_
        refine Tq.ps ?_
        refine Tq.ps ?_
        refine Tq.v2 rfl run_pickF rfl rfl ?_
        exact Tq.fin (.r rfl)
       ·rw [hg508] at hg504
        rw [if_pos rfl] at hg504
        have H := hg504
        refine Tq.val (wg rfl rfl rfl) rfl (fun _ _ h1 h2 => run_load1 ag_129 (h1.ev rfl) (rdb h2 (vs := [(.func (.func 71) #[] #[(.pointer (some ⟨b104, 0, none⟩)), (.pointer (some ⟨b129, 0, none⟩))])]) (k := 15) rfl 0) rfl) ?_
        refine Tq.val (wg rfl rfl rfl) rfl (fun _ _ h1 h2 => run_load1 ag_121 (h1.ev rfl) (rdb h2 (vs := [(.slice Ay100_0 (y100).length cy100_0)]) (k := 3) rfl 0) rfl) ?_
        refine Tq.w1 (wg rfl rfl rfl) rfl run_move rfl ?_
        obtain ⟨x505, hx505, H⟩ := bnd H
        obtain ⟨hx5050, hx5051, hx5052⟩ := idx_some hx505
        refine Tq.val (wg rfl rfl rfl) rfl (fun _ _ h1 h2 => run_indexAddr el_121 (h1.ev rfl) hgy100_0 (h1.ev rfl) hx5050 hx5051) ?_
        refine Tq.val (wg rfl rfl rfl) rfl (fun _ _ h1 h2 => run_loadN (cs := [(iv x505.from_.X), (iv x505.from_.Y), (iv x505.to_.X), (iv x505.to_.Y)]) ag_125 sz_125 (h1.ev rfl) (CellsAt.take (rdo ef_TSide (k := 2) h2 rfl hx5052) 4) rfl) ?_
        refine Tq.val (wg rfl rfl rfl) rfl (fun _ _ h1 h2 => run_load1 ag_121 (h1.ev rfl) (rdb h2 (vs := [(.slice Ay100_0 (y100).length cy100_0)]) (k := 3) rfl 0) rfl) ?_
        refine Tq.w1 (wg rfl rfl rfl) rfl run_move rfl ?_
        refine Tq.val (wg rfl rfl rfl) rfl (fun _ _ h1 h2 => run_indexAddr el_121 (h1.ev rfl) hgy100_0 (h1.ev rfl) (Int.natCast_nonneg _) (range_lt hdL8)) ?_
        refine Tq.val (wg rfl rfl rfl) rfl (fun _ _ h1 h2 => run_loadN (cs := [(iv xL8.from_.X), (iv xL8.from_.Y), (iv xL8.to_.X), (iv xL8.to_.Y)]) ag_125 sz_125 (h1.ev rfl) (CellsAt.take (rdo ef_TSide (k := 2) h2 rfl (range_at hdL8)) 4) rfl) ?_
        obtain ⟨y506, hy506, H⟩ := bnd H
        refine Tq.callF (r := (.bool y506)) (wg rfl rfl rfl) rfl rfl Tryz.call71 (evl_cons rfl (evl_cons rfl evl_nil)) (fun W hW => F_shape_Set__Borders_2__Borders_1_ok x505 xL8 m123 b103 (hz124.ext hW.extAll) b104 (hW.capR (k := 5) rfl) (hW.capC (k := 5) rfl) b129 (hW.capR (k := 14) rfl) (hW.capC (k := 14) rfl) y506 hy506 (HF.start _)) ?_
        refine Tq.v2 rfl run_pickT rfl rfl ?_
        obtain rfl := Option.some.inj H
        exact Tq.fin (.r rfl)
      ·refine Tq.nil (Tr.normThen ?_)
       refine Tr.cond rfl H (fun H => ?_) (fun H => ?_)
       ·refine Tr.exit (Tr.exitOver rfl (Tr.exitThen (Tr.exitThen (Tr.exitBlock ?_))))
        exact Tr.backThen leJ455 (l497, l500, Al493, cl493, Al500, cl500) ⟨H, hfl497, hAl500⟩ (.r rfl) (.r rfl)
       ·refine Tr.skip (Tr.normBlock (Tr.normThen ?_))
        refine Tr.region ?_
        refine Tr.mv rfl rfl ?_
        refine Tr.va rfl (fun _ _ h1 h2 => run_load1 ag_121 (h1.ev rfl) (rdb h2 (vs := [(.slice Ay100_0 (y100).length cy100_0)]) (k := 3) rfl 0) rfl) ?_
        refine Tr.mv rfl rfl ?_
        obtain ⟨x507, hx507, H⟩ := bnd H
        obtain ⟨hx5070, hx5071, hx5072⟩ := idx_some hx507
        refine Tr.va rfl (fun _ _ h1 h2 => run_indexAddr el_121 (h1.ev rfl) hgy100_0 (h1.ev rfl) hx5070 hx5071) ?_
        refine Tr.va rfl (fun _ _ h1 h2 => run_loadN (cs := [(iv x507.from_.X), (iv x507.from_.Y), (iv x507.to_.X), (iv x507.to_.Y)]) ag_125 sz_125 (h1.ev rfl) (CellsAt.take (rdo ef_TSide (k := 2) h2 rfl hx5072) 4) rfl) ?_
        obtain ⟨y508, hy508, H⟩ := bnd H
        refine Tr.callF (r := (iv y508)) (wn rfl) rfl rfl Tryz.call72 (evl_cons rfl evl_nil) (fun W hW => F_shape_Set__Borders_3__Borders_2__Borders_1_ok x507 m123 b103 (hz124.ext hW.extAll) b104 (hW.capR (k := 5) rfl) (hW.capC (k := 5) rfl) l497 Al493 cl493 (hW.slCall (k := 12) rfl) b128 (hW.capR (k := 13) rfl) (hW.capC (k := 13) rfl) b130 y100 Ay100_0 cy100_0 (hW.slCall (k := 2) rfl) b102 (hW.capR (k := 3) rfl) (hW.capC (k := 3) rfl) m123 b103 (hz124.ext hW.extAll) b104 (hW.capR (k := 5) rfl) (hW.capC (k := 5) rfl) b129 (hW.capR (k := 15) rfl) (hW.capC (k := 15) rfl) (hW.capR (k := 14) rfl) (hW.capC (k := 14) rfl) y508 hy508 (HF.start _)) ?_
        refine Tr.asg rfl rfl ?_
        refine Tr.nil ?_
        exact Tr.backThen leL11 (l497, l500, y508, Al493, cl493, Al500, cl500) ⟨H, hfl497, hAl500⟩ (.r rfl) (.r rfl)
     ·refine Tr.exit (Tr.exitThen (Tr.exitThen (Tr.exitBlock ?_)))
      exact Tr.backThen leJ455 (l493, l494, Al493, cl493, Al494, cl494) ⟨H, hl493, hl494⟩ (.r rfl) (.r rfl)
    ·intro w s hlJ456 hs
     obtain ⟨l453, l454, Al453, cl453, Al454, cl454⟩ := s
     obtain ⟨H, hl453, hl454⟩ := hs
     replace H : F_shape_Set__Borders_J10 l403 (F_shape_Set__Borders_L8 N y100 m123 restL8 (iL8 + 1)) l453 l454 = some r := H
     replace hz124 := hz124.leR hlJ456
     replace leB := leB.trans hlJ456
     replace leL1 := leL1.trans hlJ456
     replace leL8 := leL8.trans hlJ456
     replace hl453 : SlF Al453 (l453).length cl453 := hl453
     replace hl454 : SlF Al454 (l454).length cl454 := hl454
     unfold F_shape_Set__Borders_J10 at H
     show Tr _ _ (LF [(3, (.pointer (some ⟨b102, 0, none⟩))), (7, (.pointer (some ⟨b128, 0, none⟩))), (9, (.pointer (some ⟨b130, 0, none⟩))), (10, (.func (.func 72) #[] #[(.pointer (some ⟨b104, 0, none⟩)), (.pointer (some ⟨b128, 0, none⟩)), (.pointer (some ⟨b130, 0, none⟩)), (.pointer (some ⟨b102, 0, none⟩))])), (11, (.slice Al403 (l403).length cl403)), (13, (.slice Al454 (l454).length cl454)), (41, (iv (y100.length : Int))), (42, (iv (iL8 : Int)))]) (LE [(2, ow Ay100_0 cy100_0 125 fl_TSide y100), (3, bx b102 #[(.slice Ay100_0 (y100).length cy100_0)] 121), (5, bx b104 #[(.map (some b103))] 123), (12, ow Al453 cl453 4 fl_bool l453), (13, bx b128 #[(.slice Al453 (l453).length cl453)] 126), (14, bx b129 #[(.func (.func 69) #[] #[])] 128), (15, bx b130 #[(.func (.func 71) #[] #[(.pointer (some ⟨b104, 0, none⟩)), (.pointer (some ⟨b129, 0, none⟩))])] 129), (16, ow Al403 cl403 43 fl_LTPoint l403), (35, ow Al454 cl454 125 fl_TSide l454)]) _
     refine Tr.region ?_
     refine Tr.mv rfl rfl ?_
     refine Tr.mv rfl rfl ?_
     obtain ⟨y457, hy457, H⟩ := bnd H
     refine Tr.callM [39] [emp] (U := (Option Addr × Nat)) (fun u => (.slice u.1 (y457).length u.2)) (fun u => SlF u.1 (y457).length u.2) (fun u => [ow u.1 u.2 47 fl_TPoint y457]) rfl (pk_cons rfl pk_nil) (fun _ => rfl) (wn rfl) rfl Tryz.call73 (evl_cons rfl evl_nil) (fun W hW hp hE => F_shape_corners_ok l454 Al454 cl454 (hW.slS (k := 35) rfl hp rfl) y457 hy457 hE) ?_
     intro u hu
     obtain ⟨Ay457_0, cy457_0⟩ := u
     have gy457_0 := hu
     have hgy457_0 : SlF Ay457_0 (y457).length cy457_0 := gy457_0 --@phi
     show Tr _ _ (uf _ 93 (.slice Ay457_0 (y457).length cy457_0)) (up _ 39 (ow Ay457_0 cy457_0 47 fl_TPoint y457)) _
     refine Tr.freeze 39 rfl fun w le460 hz459 => ?_
     replace hz124 := hz124.leR le460
     replace leB := leB.trans le460
     replace leL1 := leL1.trans le460
     replace leL8 := leL8.trans le460
     refine Tr.buildSlice 40 (e := 43) (vs := [(0, (.slice Ay457_0 (y457).length cy457_0))]) (cs := [(.slice Ay457_0 (y457).length cy457_0)]) (wn rfl) rfl (evs_cons rfl evs_nil) (by kernel_rfl) fun b461 => ?_
     obtain ⟨l462, hl462, H⟩ := bnd H
     refine Tr.append 16 (t := fl_LTPoint) (l := l403) (l2 := [y457]) (wn rfl) rfl rfl rfl rfl (fun W hW => ⟨[[(.slice Ay457_0 (y457).length cy457_0)]], (.cons ⟨(Ay457_0, cy457_0), hz459, rfl⟩ .nil), rdb hW (vs := [(.slice Ay457_0 (y457).length cy457_0)]) (k := 40) rfl 0⟩) un_39 sz_43 zl_43 (by decide) by_43 rfl hl462 fun Al462 cl462 hAl462 => ?_
     refine Tr.asg rfl rfl ?_
     refine Tr.nil (Tr.normBlock (Tr.normThen ?_))
     refine Tr.region ?_
     refine Tr.v2 rfl run_add rfl rfl ?_
     refine Tr.mv rfl rfl ?_
     refine Tr.nil ?_
     exact Tr.backThen leL8 (restL8, (iL8 + 1), l453, l462, Al453, cl453, Al462, cl462) ⟨rfl, range_tl hdL8, range_lt hdL8, H, hl453, hAl462⟩ (.cons rfl (.cons rfl (.cons rfl (.cons rfl (.cons rfl (.cons rfl (.cons (congrArg (fun z => some (Value.int .i64 z)) (range_up hdL8 hgy100_0)) .nil))))))) (.r rfl)
 | cons xL1 restL1 =>
  rw [F_shape_Set__Borders_L1.eq_2] at H
  refine Tr.sr ?_
  refine Tr.v2 rfl run_lss rfl rfl ?_
  refine Tr.nil (Tr.normThen ?_)
  refine Tr.seq ?_
  refine Tr.condT rfl (range_on hdL1) ?_
  refine Tr.skip (Tr.normThen ?_)
  refine Tr.seq ?_
  refine Tr.block ?_
  refine Tr.sr ?_
  refine Tr.mv rfl rfl ?_
  refine Tr.va rfl (fun _ _ h1 h2 => run_indexAddr el_121 (h1.ev rfl) hgy100_0 (h1.ev rfl) (Int.natCast_nonneg _) (range_lt hdL1)) ?_
  refine Tr.va rfl (fun _ _ h1 h2 => run_loadN (cs := [(iv xL1.from_.X), (iv xL1.from_.Y), (iv xL1.to_.X), (iv xL1.to_.Y)]) ag_125 sz_125 (h1.ev rfl) (CellsAt.take (rdo ef_TSide (k := 2) h2 rfl (range_at hdL1)) 4) rfl) ?_
  refine Tr.alloc 44 (wn rfl) rfl ze_125 fun b509 => ?_
  refine Tr.asg rfl rfl ?_
  refine Tr.store 44 (cs := [(iv xL1.from_.X), (iv xL1.from_.Y), (iv xL1.to_.X), (iv xL1.to_.Y)]) [(iv xL1.from_.X), (iv xL1.from_.Y), (iv xL1.to_.X), (iv xL1.to_.Y)] (wn rfl) rfl rfl rfl rfl sz_125 rfl rfl rfl ?_
  refine Tr.nil (Tr.normThen ?_)
  refine Tr.region ?_
  refine Tr.va rfl (fun _ _ h1 h2 => run_load1 ag_123 (h1.ev rfl) (rdb h2 (vs := [(.map (some b103))]) (k := 5) rfl 0) rfl) ?_
  refine Tr.v1 rfl (run_fieldAddr fo_125_0) rfl ?_
  refine Tr.va rfl (fun _ _ h1 h2 => run_loadN (cs := [(iv xL1.from_.X), (iv xL1.from_.Y)]) ag_47 sz_47 (h1.ev rfl) (CellsAt.take (rdb h2 (vs := [(iv xL1.from_.X), (iv xL1.from_.Y), (iv xL1.to_.X), (iv xL1.to_.Y)]) (k := 44) rfl 0) 2) rfl) ?_
  refine Tr.mv rfl rfl ?_
  refine Tr.buildSlice 45 (e := 3) (vs := [(0, (iv (iL1 : Int)))]) (cs := [(iv (iL1 : Int))]) (wn rfl) rfl (evs_cons rfl evs_nil) (by kernel_rfl) fun b510 => ?_
  obtain ⟨l511, hl511, H⟩ := bnd H
  refine Tr.entryTake 4 46 kp_47 (wn rfl) rfl un_123 zs_96 rfl rfl rfl rfl hm123 hl511 fun prl511 pol511 Al511 cl511 hQl511 hfl511 => ?_
  refine Tr.va rfl (fun _ _ h1 h2 => run_extract (h1.ev rfl) rfl) ?_
  obtain ⟨l512, hl512, H⟩ := bnd H
  refine Tr.append 46 (t := fl_i64) (l := l511) (l2 := [(iL1 : Int)]) (wn rfl) rfl rfl rfl rfl (fun W hW => ⟨[[(iv (iL1 : Int))]], (.cons ⟨(), trivial, rfl⟩ .nil), rdb hW (vs := [(iv (iL1 : Int))]) (k := 45) rfl 0⟩) un_96 sz_3 zl_3 (by decide) by_3 rfl hl512 fun Al512 cl512 hAl512 => ?_
  refine Tr.va rfl (fun _ _ h1 h2 => run_extract (h1.ev rfl) rfl) ?_
  refine Tr.entryPut 4 46 (wn rfl) rfl rfl rfl rfl rfl rfl hQl511 hAl512 fun ms513 hmms513 => ?_
  refine Tr.nil (Tr.normBlock (Tr.normThen ?_))
  refine Tr.region ?_
  refine Tr.v2 rfl run_add rfl rfl ?_
  refine Tr.mv rfl rfl ?_
  refine Tr.nil ?_
  exact Tr.backThen leL1 (restL1, (iL1 + 1), (kmput m123 (xL1.from_.X, xL1.from_.Y) l512), ms513) ⟨rfl, range_tl hdL1, range_lt hdL1, H, hmms513⟩ (.cons rfl (.cons rfl (.cons rfl (.cons rfl (.cons (congrArg (fun z => some (Value.int .i64 z)) (range_up hdL1 hgy100_0)) .nil))))) (.r rfl)

theorem F_shape_Outlines_ok (N : Nat) {w : Bs} (p0 : (List TRect)) (Ap0_0 : Option Addr) (cp0_0 : Nat) (hp0_0 : Sl w.R w.W fl_TRect Ap0_0 cp0_0 p0) (r : ((List (List TPoint)) × Int)) (H : F_shape_Outlines N p0 = some r) (hE : HF w w.W (LEn [emp])) : Calls Tryz.prog 12 [(.slice Ap0_0 (p0).length cp0_0)].toArray w.W fun e W' => ∃ (w' : Bs) (u : (Option Addr × Nat)), w.Le w' ∧ e = .returned (.tuple #[(.slice u.1 (r.1).length u.2), (iv r.2)]) ∧ (SlF u.1 (r.1).length u.2) ∧ HF w' W' (LEn [ow u.1 u.2 43 fl_LTPoint r.1]) := by
 unfold F_shape_Outlines at H
 have leB := Bs.Le.refl w
 refine Tr.enter (n := 31) Tryz.func12 rfl rfl rfl hE ?_
 refine Tr.sr ?_
 refine Tr.asg rfl rfl ?_
 refine Tr.nilOwn 1 43 fl_LTPoint ?_
 show Tr _ _ (uf _ 2 (.slice none (([] : List (List TPoint))).length 0)) _ _
 refine Tr.asg rfl rfl ?_
 refine Tr.nil (Tr.normThen ?_)
 refine Tr.seq ?_
 refine Tr.sr ?_
 refine Tr.mv rfl rfl ?_
 obtain ⟨y100, hy100, H⟩ := bnd H
 refine Tr.call0 (r := (iv y100)) (wn rfl) rfl Tryz.call31 (evl_cons rfl evl_nil) (fun W hW => F_shape_CheckRegion_ok N p0 Ap0_0 cp0_0 (hp0_0.ext hW.extAll) y100 hy100 (HF.start _)) ?_
 refine Tr.asg rfl rfl ?_
 refine Tr.nil (Tr.normThen ?_)
 refine Tr.sr ?_
 refine Tr.mv rfl rfl ?_
 refine Tr.v2 rfl run_neq rfl rfl ?_
 refine Tr.nil (Tr.normThen ?_)
 refine Tr.cond rfl H (fun H => ?_) (fun H => ?_)
 ·refine Tr.sr ?_
  refine Tr.mv rfl rfl ?_
  refine Tr.asg rfl rfl ?_
  refine Tr.nilOwn 2 43 fl_LTPoint ?_
  show Tr _ _ (uf _ 2 (.slice none (([] : List (List TPoint))).length 0)) _ _
  refine Tr.asg rfl rfl ?_
  refine Tr.nil (Tr.normThen ?_)
  refine Tr.ret (Tr.retThen ?_)
  obtain rfl := Option.some.inj H
  exact Tr.out (m := [(.slice none (([] : List (List TPoint))).length 0), (iv y100)]) [] (res_tmp rfl (res_tmp rfl res_nil)) (fun W hW => ⟨w, (none, 0), leB, rfl, slf_nil, hW.pick (ks := [2]) (by decide) (pk_cons rfl pk_nil)⟩)
 ·refine Tr.skip (Tr.normThen ?_)
  refine Tr.sr ?_
  refine Tr.mv rfl rfl ?_
  obtain ⟨y101, hy101, H⟩ := bnd H
  refine Tr.callG [3] [emp] (U := (Option Addr × Nat)) (fun u => (.slice u.1 (y101).length u.2)) (fun O W u => SlF u.1 (y101).length u.2) (fun u => [ow u.1 u.2 98 fl_TBand y101]) rfl (pk_cons rfl pk_nil) (fun _ => rfl) (wn rfl) rfl Tryz.call32 (evl_cons rfl evl_nil) (fun W hW hp hE => F_shape_SetOf_ok N p0 Ap0_0 cp0_0 (hp0_0.ext (hW.extS hp)) y101 hy101 hE) ?_
  intro w u le102 hu
  obtain ⟨Ay101_0, cy101_0⟩ := u
  have gy101_0 := hu
  replace hp0_0 := hp0_0.leR le102
  replace leB := leB.trans le102
  have hgy101_0 : SlF Ay101_0 (y101).length cy101_0 := gy101_0 --@phi
  show Tr _ _ (uf _ 15 (.slice Ay101_0 (y101).length cy101_0)) (up _ 3 (ow Ay101_0 cy101_0 98 fl_TBand y101)) _
  obtain ⟨y103, hy103, H⟩ := bnd H
  refine Tr.callG [4] [emp] (U := (Option Addr × Nat)) (fun u => (.slice u.1 (y103).length u.2)) (fun O W u => SlF u.1 (y103).length u.2) (fun u => [ow u.1 u.2 43 fl_LTPoint y103]) rfl (pk_cons rfl pk_nil) (fun _ => rfl) (wn rfl) rfl Tryz.call33 (evl_cons rfl evl_nil) (fun W hW hp hE => F_shape_Set__Borders_ok N y101 Ay101_0 cy101_0 (hW.slS (k := 3) rfl hp rfl) y103 hy103 hE) ?_
  intro w u le104 hu
  obtain ⟨Ay103_0, cy103_0⟩ := u
  have gy103_0 := hu
  replace hp0_0 := hp0_0.leR le104
  replace leB := leB.trans le104
  have hgy103_0 : SlF Ay103_0 (y103).length cy103_0 := gy103_0 --@phi
  show Tr _ _ (uf _ 16 (.slice Ay103_0 (y103).length cy103_0)) (up _ 4 (ow Ay103_0 cy103_0 43 fl_LTPoint y103)) _
  refine Tr.asg rfl rfl ?_
  refine Tr.nil (Tr.normThen ?_)
  refine Tr.sr ?_
  refine Tr.asg rfl rfl ?_
  refine Tr.nil (Tr.normThen ?_)
  refine Tr.seq ?_
  refine Tr.sr ?_
  refine Tr.mv rfl rfl ?_
  refine Tr.v1 rfl (run_len un_39) rfl ?_
  refine Tr.mv rfl rfl ?_
  refine Tr.nil (Tr.normThen ?_)
  refine Tr.block ?_
  refine Tr.loop (σ := (List (List TPoint)) × Nat × Int) (fun m w s => m = s.1.length + 1 ∧ s.1 = List.drop s.2.1 y103 ∧ s.2.1 ≤ y103.length ∧ F_shape_Outlines_L1 y103 s.1 s.2.1 s.2.2 = some r) (fun s => [(5, (.slice Ay103_0 (y103).length cy103_0)), (6, (iv s.2.2)), (17, (.slice Ay103_0 (y103).length cy103_0)), (18, (iv (y103.length : Int))), (19, (iv (s.2.1 : Int)))]) (fun s => [(4, ow Ay103_0 cy103_0 43 fl_LTPoint y103)]) (y103.length + 1) (y103, 0, 0) ⟨rfl, rfl, Nat.zero_le _, H⟩ (.r rfl) (.r rfl) (fun _ _ h => absurd h.1 (by simp)) ?_
  intro w leL1 m s hs
  obtain ⟨restL1, iL1, x115⟩ := s
  obtain ⟨hmL1, hdL1, hiL1, H⟩ := hs
  replace hdL1 : restL1 = List.drop iL1 y103 := hdL1
  replace H : F_shape_Outlines_L1 y103 restL1 iL1 x115 = some r := H
  replace hmL1 : m + 1 = restL1.length + 1 := hmL1
  replace leB := leB.trans leL1
  obtain rfl : m = restL1.length := by omega
  clear hmL1
  show Tr _ _ (LF [(5, (.slice Ay103_0 (y103).length cy103_0)), (6, (iv x115)), (17, (.slice Ay103_0 (y103).length cy103_0)), (18, (iv (y103.length : Int))), (19, (iv (iL1 : Int)))]) (LE [(4, ow Ay103_0 cy103_0 43 fl_LTPoint y103)]) _
  cases restL1 with
  | nil =>
   rw [F_shape_Outlines_L1.eq_1] at H
   refine Tr.sr ?_
   refine Tr.v2 rfl run_lss rfl rfl ?_
   refine Tr.nil (Tr.normThen ?_)
   refine Tr.seq ?_
   refine Tr.condF rfl (range_nil hdL1) ?_
   refine Tr.exit (Tr.exitThen (Tr.exitThen (Tr.exitBlock (Tr.normThen ?_))))
   refine Tr.seq ?_
   refine Tr.sr ?_
   refine Tr.mv rfl rfl ?_
   refine Tr.v2 rfl run_gtr rfl rfl ?_
   refine Tr.nil (Tr.normThen ?_)
   refine Tr.cond rfl H (fun H => ?_) (fun H => ?_)
   ·refine Tr.sr ?_
    refine Tr.asg rfl rfl ?_
    refine Tr.nilOwn 5 43 fl_LTPoint ?_
    show Tr _ _ (uf _ 2 (.slice none (([] : List (List TPoint))).length 0)) _ _
    refine Tr.asg rfl rfl ?_
    refine Tr.nil (Tr.normThen ?_)
    refine Tr.ret (Tr.retThen ?_)
    obtain rfl := Option.some.inj H
    exact Tr.out (m := [(.slice none (([] : List (List TPoint))).length 0), (iv 2)]) [] (res_tmp rfl (res_tmp rfl res_nil)) (fun W hW => ⟨w, (none, 0), leB, rfl, slf_nil, hW.pick (ks := [5]) (by decide) (pk_cons rfl pk_nil)⟩)
   ·refine Tr.skip (Tr.normThen ?_)
    refine Tr.sr ?_
    refine Tr.mv rfl rfl ?_
    refine Tr.asg rfl rfl ?_
    refine Tr.asg rfl rfl ?_
    refine Tr.nil (Tr.normThen ?_)
    refine Tr.ret ?_
    obtain rfl := Option.some.inj H
    exact Tr.out (m := [(.slice Ay103_0 (y103).length cy103_0), (iv 0)]) [] (res_tmp rfl (res_tmp rfl res_nil)) (fun W hW => ⟨w, (Ay103_0, cy103_0), leB, rfl, hgy103_0, hW.pick (ks := [4]) (by decide) (pk_cons rfl pk_nil)⟩)
  | cons xL1 restL1 =>
   rw [F_shape_Outlines_L1.eq_2] at H
   refine Tr.sr ?_
   refine Tr.v2 rfl run_lss rfl rfl ?_
   refine Tr.nil (Tr.normThen ?_)
   refine Tr.seq ?_
   refine Tr.condT rfl (range_on hdL1) ?_
   refine Tr.skip (Tr.normThen ?_)
   refine Tr.seq ?_
   refine Tr.block ?_
   refine Tr.sr ?_
   refine Tr.va rfl (fun _ _ h1 h2 => run_indexAddr el_39 (h1.ev rfl) hgy103_0 (h1.ev rfl) (Int.natCast_nonneg _) (range_lt hdL1)) ?_
   refine Tr.valE (U := (fl_LTPoint).Ad) (fun u => (fl_LTPoint).ok w.O w.W u xL1) (fun u => (.slice u.1 (xL1).length u.2)) (wn rfl) rfl (ldN (κ := 4) (t := fl_LTPoint) (V := fun u => (.slice u.1 (xL1).length u.2)) rfl (range_at hdL1) (fun _ _ u h1 hc => run_load1 ag_43 (h1.ev rfl) hc rfl)) ?_
   intro u116 hoku116
   obtain ⟨Au116_0, cu116_0⟩ := u116
   have hoku116_0 := hoku116
   replace hoku116_0 : Sl w.O w.W fl_TPoint Au116_0 cu116_0 xL1 := hoku116_0
   show Tr _ _ (uf _ 22 (.slice Au116_0 (xL1).length cu116_0)) _ _
   refine Tr.asg rfl rfl ?_
   refine Tr.nil (Tr.normThen ?_)
   refine Tr.region ?_
   refine Tr.mv rfl rfl ?_
   refine Tr.mv rfl rfl ?_
   refine Tr.v1 rfl (run_len un_43) rfl ?_
   refine Tr.v2 rfl run_add rfl rfl ?_
   refine Tr.asg rfl rfl ?_
   refine Tr.nil (Tr.normBlock (Tr.normThen ?_))
   refine Tr.region ?_
   refine Tr.v2 rfl run_add rfl rfl ?_
   refine Tr.mv rfl rfl ?_
   refine Tr.nil ?_
   exact Tr.backThen leL1 (restL1, (iL1 + 1), (w64 (x115 + (xL1.length : Int)))) ⟨rfl, range_tl hdL1, range_lt hdL1, H⟩ (.cons rfl (.cons rfl (.cons rfl (.cons rfl (.cons (congrArg (fun z => some (Value.int .i64 z)) (range_up hdL1 hgy103_0)) .nil))))) (.r rfl)

theorem F_plot_Of_1_ok {w : Bs} (p0 : TRow) (Ap0_0 : Option Addr) (cp0_0 : Nat) (hp0_0 : Sl w.R w.W fl_TPoint Ap0_0 cp0_0 p0.points) (r : Int) (H : F_plot_Of_1 p0 = some r) (hE : HF w w.W E0) : Calls Tryz.prog 13 [(.agg #[(.slice Ap0_0 (p0.points).length cp0_0), (iv p0.area)])].toArray w.W fun e W' => e = .returned (iv r) ∧ HF w W' E0 := by
 unfold F_plot_Of_1 at H
 have leB := Bs.Le.refl w
 refine Tr.enter (n := 9) Tryz.func13 rfl rfl rfl hE ?_
 refine Tr.sr ?_
 refine Tr.box 1 (cs := [(.slice Ap0_0 (p0.points).length cp0_0), (iv p0.area)]) (wn rfl) rfl rfl rfl fun b100 => ?_
 refine Tr.asg rfl rfl ?_
 refine Tr.nil (Tr.normThen ?_)
 refine Tr.sr ?_
 refine Tr.v1 rfl (run_fieldAddr fo_45_1) rfl ?_
 refine Tr.va rfl (fun _ _ h1 h2 => run_load1 ag_3 (h1.ev rfl) (rdb h2 (vs := [(.slice Ap0_0 (p0.points).length cp0_0), (iv p0.area)]) (k := 1) rfl 1) rfl) ?_
 refine Tr.v1 rfl (run_fieldAddr fo_45_1) rfl ?_
 refine Tr.va rfl (fun _ _ h1 h2 => run_load1 ag_3 (h1.ev rfl) (rdb h2 (vs := [(.slice Ap0_0 (p0.points).length cp0_0), (iv p0.area)]) (k := 1) rfl 1) rfl) ?_
 refine Tr.v1 rfl run_neg rfl ?_
 refine Tr.va rfl (fun _ _ h1 h2 => run_max (h1.ev rfl) (h1.ev rfl) _) ?_
 refine Tr.asg rfl rfl ?_
 refine Tr.nil (Tr.normThen ?_)
 refine Tr.ret ?_
 obtain rfl := Option.some.inj H
 exact Tr.out (m := [(iv (max p0.area (w64 (0 - p0.area))))]) [] (res_tmp rfl res_nil) (fun W hW => ⟨rfl, hW.low leB⟩)

theorem F_cmp_isNaN_int_ok {w : Bs} (p0 : Int) (r : Bool) (H : F_cmp_isNaN_int p0 = some r) (hE : HF w w.W E0) : Calls Tryz.prog 35 [(iv p0)].toArray w.W fun e W' => e = .returned (.bool r) ∧ HF w W' E0 := by
 unfold F_cmp_isNaN_int at H
 have leB := Bs.Le.refl w
 refine Tr.enter (n := 6) Tryz.func35 rfl rfl rfl hE ?_
 refine Tr.sr ?_
 refine Tr.asg rfl rfl ?_
 refine Tr.nil (Tr.normThen ?_)
 refine Tr.sr ?_
 refine Tr.mv rfl rfl ?_
 refine Tr.mv rfl rfl ?_
 refine Tr.v2 rfl run_neq rfl rfl ?_
 refine Tr.asg rfl rfl ?_
 refine Tr.nil (Tr.normThen ?_)
 refine Tr.ret ?_
 obtain rfl := Option.some.inj H
 exact Tr.out (m := [(.bool (p0 != p0))]) [] (res_tmp rfl res_nil) (fun W hW => ⟨rfl, hW.low leB⟩)

theorem F_cmp_Compare_int_ok {w : Bs} (p0 : Int) (p1 : Int) (r : Int) (H : F_cmp_Compare_int p0 p1 = some r) (hE : HF w w.W E0) : Calls Tryz.prog 16 [(iv p0), (iv p1)].toArray w.W fun e W' => e = .returned (iv r) ∧ HF w W' E0 := by
 unfold F_cmp_Compare_int at H
 have leB := Bs.Le.refl w
 refine Tr.enter (n := 20) Tryz.func16 rfl rfl rfl hE ?_
 refine Tr.sr ?_
 refine Tr.asg rfl rfl ?_
 refine Tr.nil (Tr.normThen ?_)
 refine Tr.sr ?_
 refine Tr.mv rfl rfl ?_
 obtain ⟨y100, hy100, H⟩ := bnd H
 refine Tr.call0 (r := (.bool y100)) (wn rfl) rfl Tryz.call35 (evl_cons rfl evl_nil) (fun W hW => F_cmp_isNaN_int_ok p0 y100 hy100 (HF.start _)) ?_
 refine Tr.asg rfl rfl ?_
 refine Tr.nil (Tr.normThen ?_)
 refine Tr.sr ?_
 refine Tr.mv rfl rfl ?_
 obtain ⟨y101, hy101, H⟩ := bnd H
 refine Tr.call0 (r := (.bool y101)) (wn rfl) rfl Tryz.call35 (evl_cons rfl evl_nil) (fun W hW => F_cmp_isNaN_int_ok p1 y101 hy101 (HF.start _)) ?_
 refine Tr.asg rfl rfl ?_
 refine Tr.nil (Tr.normThen ?_)
 refine Tr.seq ?_
 refine Tr.sr ?_
 refine Tr.mv rfl rfl ?_
 refine Tr.nil (Tr.normThen ?_)
 refine Tr.cond rfl H (fun H => ?_) (fun H => ?_)
 ·refine Tr.seq ?_
  refine Tr.sr ?_
  refine Tr.mv rfl rfl ?_
  refine Tr.nil (Tr.normThen ?_)
  refine Tr.cond rfl H (fun H => ?_) (fun H => ?_)
  ·refine Tr.sr ?_
   refine Tr.asg rfl rfl ?_
   refine Tr.nil (Tr.normThen ?_)
   refine Tr.ret (Tr.retThen (Tr.retThen ?_))
   obtain rfl := Option.some.inj H
   exact Tr.out (m := [(iv 0)]) [] (res_tmp rfl res_nil) (fun W hW => ⟨rfl, hW.low leB⟩)
  ·refine Tr.skip (Tr.normThen ?_)
   refine Tr.sr ?_
   refine Tr.asg rfl rfl ?_
   refine Tr.nil (Tr.normThen ?_)
   refine Tr.ret (Tr.retThen ?_)
   obtain rfl := Option.some.inj H
   exact Tr.out (m := [(iv (-1))]) [] (res_tmp rfl res_nil) (fun W hW => ⟨rfl, hW.low leB⟩)
 ·refine Tr.skip (Tr.normThen ?_)
  refine Tr.seq ?_
  refine Tr.sr ?_
  refine Tr.mv rfl rfl ?_
  refine Tr.nil (Tr.normThen ?_)
  refine Tr.cond rfl H (fun H => ?_) (fun H => ?_)
  ·refine Tr.sr ?_
   refine Tr.asg rfl rfl ?_
   refine Tr.nil (Tr.normThen ?_)
   refine Tr.ret (Tr.retThen ?_)
   obtain rfl := Option.some.inj H
   exact Tr.out (m := [(iv 1)]) [] (res_tmp rfl res_nil) (fun W hW => ⟨rfl, hW.low leB⟩)
  ·refine Tr.skip (Tr.normThen ?_)
   refine Tr.seq ?_
   refine Tr.sr ?_
   refine Tr.mv rfl rfl ?_
   refine Tr.mv rfl rfl ?_
   refine Tr.v2 rfl run_lss rfl rfl ?_
   refine Tr.nil (Tr.normThen ?_)
   refine Tr.cond rfl H (fun H => ?_) (fun H => ?_)
   ·refine Tr.sr ?_
    refine Tr.asg rfl rfl ?_
    refine Tr.nil (Tr.normThen ?_)
    refine Tr.ret (Tr.retThen ?_)
    obtain rfl := Option.some.inj H
    exact Tr.out (m := [(iv (-1))]) [] (res_tmp rfl res_nil) (fun W hW => ⟨rfl, hW.low leB⟩)
   ·refine Tr.skip (Tr.normThen ?_)
    refine Tr.seq ?_
    refine Tr.sr ?_
    refine Tr.mv rfl rfl ?_
    refine Tr.mv rfl rfl ?_
    refine Tr.v2 rfl run_gtr rfl rfl ?_
    refine Tr.nil (Tr.normThen ?_)
    refine Tr.cond rfl H (fun H => ?_) (fun H => ?_)
    ·refine Tr.sr ?_
     refine Tr.asg rfl rfl ?_
     refine Tr.nil (Tr.normThen ?_)
     refine Tr.ret (Tr.retThen ?_)
     obtain rfl := Option.some.inj H
     exact Tr.out (m := [(iv 1)]) [] (res_tmp rfl res_nil) (fun W hW => ⟨rfl, hW.low leB⟩)
    ·refine Tr.skip (Tr.normThen ?_)
     refine Tr.sr ?_
     refine Tr.asg rfl rfl ?_
     refine Tr.nil (Tr.normThen ?_)
     refine Tr.ret ?_
     obtain rfl := Option.some.inj H
     exact Tr.out (m := [(iv 0)]) [] (res_tmp rfl res_nil) (fun W hW => ⟨rfl, hW.low leB⟩)

theorem F_plot_Of_2__Of_1_ok {w : Bs} (p0 : TRow) (Ap0_0 : Option Addr) (cp0_0 : Nat) (hp0_0 : Sl w.R w.W fl_TPoint Ap0_0 cp0_0 p0.points) (p1 : TRow) (Ap1_0 : Option Addr) (cp1_0 : Nat) (hp1_0 : Sl w.R w.W fl_TPoint Ap1_0 cp1_0 p1.points) (bq0 : Nat) (hb0 : w.R bq0) (hc0 : CellsAt w.W bq0 0 [(.func (.func 13) #[] #[])]) (r : Int) (H : F_plot_Of_2__Of_1 p0 p1 = some r) (hE : HF w w.W E0) : Calls Tryz.prog 15 [(.agg #[(.slice Ap0_0 (p0.points).length cp0_0), (iv p0.area)]), (.agg #[(.slice Ap1_0 (p1.points).length cp1_0), (iv p1.area)]), (.pointer (some ⟨bq0, 0, none⟩))].toArray w.W fun e W' => e = .returned (iv r) ∧ HF w W' E0 := by
 unfold F_plot_Of_2__Of_1 at H
 have leB := Bs.Le.refl w
 refine Tr.enter (n := 13) Tryz.func15 rfl rfl rfl hE ?_
 refine Tr.sr ?_
 refine Tr.box 1 (cs := [(.slice Ap0_0 (p0.points).length cp0_0), (iv p0.area)]) (wn rfl) rfl rfl rfl fun b100 => ?_
 refine Tr.box 2 (cs := [(.slice Ap1_0 (p1.points).length cp1_0), (iv p1.area)]) (wn rfl) rfl rfl rfl fun b101 => ?_
 refine Tr.asg rfl rfl ?_
 refine Tr.nil (Tr.normThen ?_)
 refine Tr.seq ?_
 refine Tr.draw (by kernel_rfl) (by kernel_rfl) ?_
 refine Tq.va rfl (fun _ _ h1 h2 => run_load1 ag_48 (h1.ev rfl) (rdR hb0 hc0 h2) rfl) ?_
 refine Tq.va rfl (fun _ _ h1 h2 => run_loadN (cs := [(.slice Ap1_0 (p1.points).length cp1_0), (iv p1.area)]) ag_45 sz_45 (h1.ev rfl) (CellsAt.take (rdb h2 (vs := [(.slice Ap1_0 (p1.points).length cp1_0), (iv p1.area)]) (k := 2) rfl 0) 2) rfl) ?_
 obtain ⟨y102, hy102, H⟩ := bnd H
 refine Tq.callF (r := (iv y102)) (wn rfl) rfl rfl Tryz.call13 (evl_cons rfl evl_nil) (fun W hW => F_plot_Of_1_ok p1 Ap1_0 cp1_0 (hp1_0.ext hW.extAll) y102 hy102 (HF.start _)) ?_
 refine Tq.va rfl (fun _ _ h1 h2 => run_load1 ag_48 (h1.ev rfl) (rdR hb0 hc0 h2) rfl) ?_
 refine Tq.va rfl (fun _ _ h1 h2 => run_loadN (cs := [(.slice Ap0_0 (p0.points).length cp0_0), (iv p0.area)]) ag_45 sz_45 (h1.ev rfl) (CellsAt.take (rdb h2 (vs := [(.slice Ap0_0 (p0.points).length cp0_0), (iv p0.area)]) (k := 1) rfl 0) 2) rfl) ?_
 obtain ⟨y103, hy103, H⟩ := bnd H
 refine Tq.callF (r := (iv y103)) (wn rfl) rfl rfl Tryz.call13 (evl_cons rfl evl_nil) (fun W hW => F_plot_Of_1_ok p0 Ap0_0 cp0_0 (hp0_0.ext hW.extAll) y103 hy103 (HF.start _)) ?_
 obtain ⟨y104, hy104, H⟩ := bnd H
 refine Tq.call0 (r := (iv y104)) (wn rfl) rfl Tryz.call16 (evl_cons rfl (evl_cons rfl evl_nil)) (fun W hW => F_cmp_Compare_int_ok y102 y103 y104 hy104 (HF.start _)) ?_
 refine Tq.asg rfl rfl ?_
 refine Tq.nil (Tr.normThen ?_)
 refine Tr.ret ?_
 obtain rfl := Option.some.inj H
 exact Tr.out (m := [(iv y104)]) [] (res_tmp rfl res_nil) (fun W hW => ⟨rfl, hW.low leB⟩)

theorem F_slices_insertionSortCmpFunc_row__Of_2__Of_1_ok (N : Nat) {w : Bs} (p0 : (List TRow)) (Ap0_0 : Option Addr) (cp0_0 : Nat) (p1 : Int) (p2 : Int) (bq0 : Nat) (hb0 : w.R bq0) (hc0 : CellsAt w.W bq0 0 [(.func (.func 13) #[] #[])]) (r : (List TRow)) (H : F_slices_insertionSortCmpFunc_row__Of_2__Of_1 N p0 p1 p2 = some r) (hE : HF w w.W (LEn [ow Ap0_0 cp0_0 45 fl_TRow p0])) : Calls Tryz.prog 77 [(.slice Ap0_0 (p0).length cp0_0), (iv p1), (iv p2), (.func (.func 15) #[] #[(.pointer (some ⟨bq0, 0, none⟩))])].toArray w.W fun e W' => ∃ (w' : Bs) (u : Unit), w.Le w' ∧ e = .returned (.tuple #[]) ∧ ((r).length = (p0).length) ∧ HF w' W' (LEn [ow Ap0_0 cp0_0 45 fl_TRow r]) := by
 unfold F_slices_insertionSortCmpFunc_row__Of_2__Of_1 at H
 have hfhp0_0 := (hE.sl (k := 0) rfl).form
 have leB := Bs.Le.refl w
 refine Tr.enter (n := 53) Tryz.func77 rfl rfl rfl hE ?_
 refine Tr.sr ?_
 refine Tr.mv rfl rfl ?_
 refine Tr.v2 rfl run_add rfl rfl ?_
 refine Tr.asg rfl rfl ?_
 refine Tr.nil (Tr.normThen ?_)
 refine Tr.block ?_
 refine Tr.loop (σ := (List TRow) × Int) (fun m w s => F_slices_insertionSortCmpFunc_row__Of_2__Of_1_L3 N p1 p2 m s.1 s.2 = some r ∧ (s.1).length = (p0).length) (fun s => [(0, (.slice Ap0_0 (s.1).length cp0_0)), (1, (iv p1)), (2, (iv p2)), (3, (.func (.func 15) #[] #[(.pointer (some ⟨bq0, 0, none⟩))])), (8, (iv s.2))]) (fun s => [(0, ow Ap0_0 cp0_0 45 fl_TRow s.1)]) N (p0, (w64 (p1 + 1))) ⟨H, rfl⟩ (.r rfl) (.r rfl) (fun _ _ h => noSome (h.1)) ?_
 intro w leL3 mL3 s hs
 obtain ⟨l242, x243⟩ := s
 obtain ⟨H, hl242⟩ := hs
 replace H : F_slices_insertionSortCmpFunc_row__Of_2__Of_1_L3 N p1 p2 (mL3 + 1) l242 x243 = some r := H
 replace hc0 := leL3.ext.cells hb0 hc0
 replace hb0 := leL3.r _ hb0
 replace leB := leB.trans leL3
 replace hl242 : (l242).length = (p0).length := hl242
 have hfl242 : SlF Ap0_0 (l242).length cp0_0 := (by rw [hl242]; exact hfhp0_0)
 rw [F_slices_insertionSortCmpFunc_row__Of_2__Of_1_L3.eq_2] at H
 show Tr _ _ (LF [(0, (.slice Ap0_0 (l242).length cp0_0)), (1, (iv p1)), (2, (iv p2)), (3, (.func (.func 15) #[] #[(.pointer (some ⟨bq0, 0, none⟩))])), (8, (iv x243))]) (LE [(0, ow Ap0_0 cp0_0 45 fl_TRow l242)]) _
 refine Tr.seq ?_
 refine Tr.sr ?_
 refine Tr.mv rfl rfl ?_
 refine Tr.mv rfl rfl ?_
 refine Tr.v2 rfl run_lss rfl rfl ?_
 refine Tr.nil (Tr.normThen ?_)
 refine Tr.cond rfl H (fun H => ?_) (fun H => ?_)
 ·refine Tr.skip (Tr.normThen ?_)
  refine Tr.seq ?_
  refine Tr.block ?_
  refine Tr.sr ?_
  refine Tr.mv rfl rfl ?_
  refine Tr.asg rfl rfl ?_
  refine Tr.nil (Tr.normThen ?_)
  refine Tr.block ?_
  refine Tr.loop (σ := (List TRow) × Int) (fun m w s => F_slices_insertionSortCmpFunc_row__Of_2__Of_1_L4 p1 x243 (F_slices_insertionSortCmpFunc_row__Of_2__Of_1_L3 N p1 p2 mL3) m s.1 s.2 = some r ∧ (s.1).length = (p0).length) (fun s => [(0, (.slice Ap0_0 (s.1).length cp0_0)), (1, (iv p1)), (2, (iv p2)), (3, (.func (.func 15) #[] #[(.pointer (some ⟨bq0, 0, none⟩))])), (8, (iv x243)), (9, (iv s.2))]) (fun s => [(0, ow Ap0_0 cp0_0 45 fl_TRow s.1)]) N (l242, x243) ⟨H, hl242⟩ (.r rfl) (.r rfl) (fun _ _ h => noSome (h.1)) ?_
  intro w leL4 mL4 s hs
  obtain ⟨l290, x291⟩ := s
  obtain ⟨H, hl290⟩ := hs
  replace H : F_slices_insertionSortCmpFunc_row__Of_2__Of_1_L4 p1 x243 (F_slices_insertionSortCmpFunc_row__Of_2__Of_1_L3 N p1 p2 mL3) (mL4 + 1) l290 x291 = some r := H
  replace hc0 := leL4.ext.cells hb0 hc0
  replace hb0 := leL4.r _ hb0
  replace leB := leB.trans leL4
  replace leL3 := leL3.trans leL4
  replace hl290 : (l290).length = (p0).length := hl290
  have hfl290 : SlF Ap0_0 (l290).length cp0_0 := (by rw [hl290]; exact hfhp0_0)
  rw [F_slices_insertionSortCmpFunc_row__Of_2__Of_1_L4.eq_2] at H
  show Tr _ _ (LF [(0, (.slice Ap0_0 (l290).length cp0_0)), (1, (iv p1)), (2, (iv p2)), (3, (.func (.func 15) #[] #[(.pointer (some ⟨bq0, 0, none⟩))])), (8, (iv x243)), (9, (iv x291))]) (LE [(0, ow Ap0_0 cp0_0 45 fl_TRow l290)]) _
  refine Tr.seq ?_
  refine Tr.seq ?_
  refine Tr.draw (by kernel_rfl) (by kernel_rfl) ?_
  refine Tq.mv rfl rfl ?_
  refine Tq.mv rfl rfl ?_
  refine Tq.v2 rfl run_gtr rfl rfl ?_
  refine Tq.mv rfl rfl ?_
  obtain ⟨g297, hg297, H⟩ := bnd H
  refine Tq.mid 13 [(0, (.slice Ap0_0 (l290).length cp0_0)), (1, (iv p1)), (2, (iv p2)), (3, (.func (.func 15) #[] #[(.pointer (some ⟨bq0, 0, none⟩))])), (8, (iv x243)), (9, (iv x291)), (34, (.bool g297))] ?_ ?_
  ·cases hg311 : (decide (p1 < x291))
   ·rw [hg311] at hg297
    rw [if_neg (by decide)] at hg297
    have H := hg297
    obtain rfl := Option.some.inj H
    refine Tq.ps ?_
    refine Tq.ps ?_
    refine Tq.ps ?_
    refine Tq.ps ?_
    refine Tq.ps ?_
    refine Tq.ps ?_
    refine Tq.ps ?_
    refine Tq.ps ?_
    refine Tq.ps ?_
    refine Tq.ps ?_
    refine Tq.ps ?_
    refine Tq.ps ?_
    refine Tq.v2 rfl run_pickF rfl rfl ?_
    exact Tq.fin (.r rfl)
   ·rw [hg311] at hg297
    rw [if_pos rfl] at hg297
    have H := hg297
    refine Tq.w1 (wg rfl rfl rfl) rfl run_move rfl ?_
    refine Tq.w1 (wg rfl rfl rfl) rfl run_move rfl ?_
    refine Tq.w1 (wg rfl rfl rfl) rfl run_move rfl ?_
    obtain ⟨x298, hx298, H⟩ := bnd H
    obtain ⟨hx2980, hx2981, hx2982⟩ := idx_some hx298
    refine Tq.val (wg rfl rfl rfl) rfl (fun _ _ h1 h2 => run_indexAddr el_42 (h1.ev rfl) hfl290 (h1.ev rfl) hx2980 hx2981) ?_
    refine Tq.valE (U := (fl_TRow).Ad) (fun u => (fl_TRow).ok w.O w.W u x298) (fun u => (.agg #[(.slice u.1 (x298.points).length u.2), (iv x298.area)])) (wg rfl rfl rfl) rfl (ldN (κ := 0) (t := fl_TRow) (V := fun u => (.agg #[(.slice u.1 (x298.points).length u.2), (iv x298.area)])) rfl hx2982 (fun _ _ u h1 hc => run_loadN (cs := [(.slice u.1 (x298.points).length u.2), (iv x298.area)]) ag_45 sz_45 (h1.ev rfl) (CellsAt.take hc 2) rfl)) ?_
    intro u299 hoku299
    obtain ⟨Au299_0, cu299_0⟩ := u299
    have hoku299_0 := hoku299
    replace hoku299_0 : Sl w.O w.W fl_TPoint Au299_0 cu299_0 x298.points := hoku299_0
    show Tq _ _ _ _ (uf _ 26 (.agg #[(.slice Au299_0 (x298.points).length cu299_0), (iv x298.area)])) _ _ _
    refine Tq.w1 (wg rfl rfl rfl) rfl run_move rfl ?_
    refine Tq.w1 (wg rfl rfl rfl) rfl run_move rfl ?_
    refine Tq.w2 (wg rfl rfl rfl) rfl run_sub rfl rfl ?_
    obtain ⟨x300, hx300, H⟩ := bnd H
    obtain ⟨hx3000, hx3001, hx3002⟩ := idx_some hx300
    refine Tq.val (wg rfl rfl rfl) rfl (fun _ _ h1 h2 => run_indexAddr el_42 (h1.ev rfl) hfl290 (h1.ev rfl) hx3000 hx3001) ?_
    refine Tq.valE (U := (fl_TRow).Ad) (fun u => (fl_TRow).ok w.O w.W u x300) (fun u => (.agg #[(.slice u.1 (x300.points).length u.2), (iv x300.area)])) (wg rfl rfl rfl) rfl (ldN (κ := 0) (t := fl_TRow) (V := fun u => (.agg #[(.slice u.1 (x300.points).length u.2), (iv x300.area)])) rfl hx3002 (fun _ _ u h1 hc => run_loadN (cs := [(.slice u.1 (x300.points).length u.2), (iv x300.area)]) ag_45 sz_45 (h1.ev rfl) (CellsAt.take hc 2) rfl)) ?_
    intro u301 hoku301
    obtain ⟨Au301_0, cu301_0⟩ := u301
    have hoku301_0 := hoku301
    replace hoku301_0 : Sl w.O w.W fl_TPoint Au301_0 cu301_0 x300.points := hoku301_0
    show Tq _ _ _ _ (uf _ 31 (.agg #[(.slice Au301_0 (x300.points).length cu301_0), (iv x300.area)])) _ _ _
    obtain ⟨y302, hy302, H⟩ := bnd H
    refine Tq.callF (r := (iv y302)) (wg rfl rfl rfl) rfl rfl Tryz.call15 (evl_cons rfl (evl_cons rfl evl_nil)) (fun W hW => F_plot_Of_2__Of_1_ok x298 Au299_0 cu299_0 (hoku299_0.rl.ext hW.extAll) x300 Au301_0 cu301_0 (hoku301_0.rl.ext hW.extAll) bq0 (hW.extAll.r _ hb0) (hW.extAll.cells hb0 hc0) y302 hy302 (HF.start _)) ?_
    refine Tq.w2 (wg rfl rfl rfl) rfl run_lss rfl rfl ?_
    refine Tq.v2 rfl run_pickT rfl rfl ?_
    obtain rfl := Option.some.inj H
    exact Tq.fin (.r rfl)
  ·refine Tq.nil (Tr.normThen ?_)
   refine Tr.cond rfl H (fun H => ?_) (fun H => ?_)
   ·refine Tr.skip (Tr.normThen ?_)
    refine Tr.seq ?_
    refine Tr.block ?_
    refine Tr.drawC 16 [(15, (ow Ap0_0 cp0_0 45 fl_TRow l290).S)] [] (by kernel_rfl) (by kernel_rfl) fun sz303 hlosz303 hEsz303 => ?_
    refine Dr.quiet 0 [(37, (.slice Ap0_0 (l290).length cp0_0))] (by kernel_rfl) rfl rfl (by kernel_rfl) ?_ rfl rfl ?_
    ·refine Tq.mv rfl rfl ?_
     exact Tq.fin (.r rfl)
    refine Dr.quiet 1 [(38, (iv x291))] (by kernel_rfl) rfl rfl (by kernel_rfl) ?_ rfl rfl ?_
    ·refine Tq.mv rfl rfl ?_
     exact Tq.fin (.r rfl)
    refine Dr.quietP 2 (by kernel_rfl) rfl (wn rfl) rfl (by kernel_rfl) (fun _ _ h1 => run_move (h1.ev rfl)) rfl ?_
    refine Dr.quietP 3 (by kernel_rfl) rfl (wn rfl) rfl (by kernel_rfl) (fun _ _ h1 => run_move (h1.ev rfl)) rfl ?_
    refine Dr.quietP 4 (by kernel_rfl) rfl (wn rfl) rfl (by kernel_rfl) (fun _ _ h1 => run_sub (h1.ev rfl) (h1.ev rfl)) rfl ?_
    refine Dr.quiet 5 [(42, (.slice Ap0_0 (l290).length cp0_0))] (by kernel_rfl) rfl rfl (by kernel_rfl) ?_ rfl rfl ?_
    ·refine Tq.mv rfl rfl ?_
     exact Tq.fin (.r rfl)
    refine Dr.quiet 6 [(43, (iv x291))] (by kernel_rfl) rfl rfl (by kernel_rfl) ?_ rfl rfl ?_
    ·refine Tq.mv rfl rfl ?_
     exact Tq.fin (.r rfl)
    refine Dr.quiet 7 [(44, (iv (w64 (x291 - 1))))] (by kernel_rfl) rfl rfl (by kernel_rfl) ?_ rfl rfl ?_
    ·refine Tq.v2 rfl run_sub rfl rfl ?_
     exact Tq.fin (.r rfl)
    obtain ⟨x304, hx304, H⟩ := bnd H
    obtain ⟨hx3040, hx3041, hx3042⟩ := idx_some hx304
    refine Dr.quiet 8 [(45, (.pointer (some ⟨adB Ap0_0, adO Ap0_0 + ((w64 (x291 - 1))).toNat * 2, none⟩)))] (by kernel_rfl) rfl rfl (by kernel_rfl) ?_ rfl rfl ?_
    ·refine Tq.va rfl (fun _ _ h1 h2 => run_indexAddr el_42 (h1.ev rfl) hfl290 (h1.ev rfl) hx3040 hx3041) ?_
     exact Tq.fin (.r rfl)
    refine Dr.quietE 9 (U := (fl_TRow).Ad) (fun u => (fl_TRow).ok w.O w.W u x304) (fun u => (.agg #[(.slice u.1 (x304.points).length u.2), (iv x304.area)])) (by kernel_rfl) rfl (wn rfl) rfl (by kernel_rfl) (ldN (κ := 0) (t := fl_TRow) (V := fun u => (.agg #[(.slice u.1 (x304.points).length u.2), (iv x304.area)])) rfl hx3042 (fun _ _ u h1 hc => run_loadN (cs := [(.slice u.1 (x304.points).length u.2), (iv x304.area)]) ag_45 sz_45 (h1.ev rfl) (CellsAt.take hc 2) rfl)) ?_
    intro u305 hoku305
    obtain ⟨Au305_0, cu305_0⟩ := u305
    have hoku305_0 := hoku305
    replace hoku305_0 : Sl w.O w.W fl_TPoint Au305_0 cu305_0 x304.points := hoku305_0
    show Dr _ _ _ _ _ _ _ _ _ (uf _ 46 (.agg #[(.slice Au305_0 (x304.points).length cu305_0), (iv x304.area)])) _
    refine Dr.quietP 10 (by kernel_rfl) rfl (wn rfl) rfl (by kernel_rfl) (fun _ _ h1 => run_move (h1.ev rfl)) rfl ?_
    refine Dr.quietP 11 (by kernel_rfl) rfl (wn rfl) rfl (by kernel_rfl) (fun _ _ h1 => run_move (h1.ev rfl)) rfl ?_
    obtain ⟨x306, hx306, H⟩ := bnd H
    obtain ⟨hx3060, hx3061, hx3062⟩ := idx_some hx306
    refine Dr.quietP 12 (by kernel_rfl) rfl (wn rfl) rfl (by kernel_rfl) (fun _ _ h1 => run_indexAddr el_42 (h1.ev rfl) hfl290 (h1.ev rfl) hx3060 hx3061) rfl ?_
    refine Dr.quietE 13 (U := (fl_TRow).Ad) (fun u => (fl_TRow).ok w.O w.W u x306) (fun u => (.agg #[(.slice u.1 (x306.points).length u.2), (iv x306.area)])) (by kernel_rfl) rfl (wn rfl) rfl (by kernel_rfl) (ldN (κ := 0) (t := fl_TRow) (V := fun u => (.agg #[(.slice u.1 (x306.points).length u.2), (iv x306.area)])) rfl hx3062 (fun _ _ u h1 hc => run_loadN (cs := [(.slice u.1 (x306.points).length u.2), (iv x306.area)]) ag_45 sz_45 (h1.ev rfl) (CellsAt.take hc 2) rfl)) ?_
    intro u307 hoku307
    obtain ⟨Au307_0, cu307_0⟩ := u307
    have hoku307_0 := hoku307
    replace hoku307_0 : Sl w.O w.W fl_TPoint Au307_0 cu307_0 x306.points := hoku307_0
    show Dr _ _ _ _ _ _ _ _ _ (uf _ 50 (.agg #[(.slice Au307_0 (x306.points).length cu307_0), (iv x306.area)])) _
    obtain ⟨x308, hx308, H⟩ := bnd H
    obtain ⟨hx3080, hx3081, hx3082⟩ := idx_some hx308
    refine Dr.quiet 14 [(51, (.pointer (some ⟨adB Ap0_0, adO Ap0_0 + (x291).toNat * 2, none⟩)))] (by kernel_rfl) rfl rfl (by kernel_rfl) ?_ rfl rfl ?_
    ·refine Tq.va rfl (fun _ _ h1 h2 => run_indexAddr el_42 (h1.ev rfl) hfl290 (h1.ev rfl) hx3080 hx3081) ?_
     exact Tq.fin (.r rfl)
    obtain ⟨l309, hl309, H⟩ := bnd H
    refine Dr.one 15 (by kernel_rfl) ?_
    have hnl309 := sets_len hl309
    refine St.storeEl 15 0 (t' := fl_TRow) (ll := l290) (ix := x291) (fo := 0) (cs := [(.slice Au305_0 (x304.points).length cu305_0), (iv x304.area)]) x304 (fun b hb => .inl ⟨_, List.mem_cons_self, rfl, hb⟩) rfl (wn rfl) rfl rfl rfl rfl rfl hx3082 sz_45 rfl (fun u hu => ⟨(Au305_0, cu305_0), hoku305_0, rfl⟩) rfl hl309 ?_
    have hfl309 : SlF Ap0_0 (l309).length cp0_0 := by rw [hnl309]; exact hfl290
    have hsl309 := hnl309.trans hl290
    refine Dr.use (lf := [(0, (.slice Ap0_0 (l309).length cp0_0)), (1, (iv p1)), (2, (iv p2)), (3, (.func (.func 15) #[] #[(.pointer (some ⟨bq0, 0, none⟩))])), (8, (iv x243)), (9, (iv x291)), (34, (.bool g297)), (37, (.slice Ap0_0 (l309).length cp0_0)), (38, (iv x291)), (39, (.slice Ap0_0 (l309).length cp0_0)), (40, (iv x291)), (41, (iv (w64 (x291 - 1)))), (42, (.slice Ap0_0 (l309).length cp0_0)), (43, (iv x291)), (44, (iv (w64 (x291 - 1)))), (46, (.agg #[(.slice Au305_0 (x304.points).length cu305_0), (iv x304.area)])), (47, (.slice Ap0_0 (l309).length cp0_0)), (48, (iv x291)), (50, (.agg #[(.slice Au307_0 (x306.points).length cu307_0), (iv x306.area)]))]) (le := [(0, ow Ap0_0 cp0_0 45 fl_TRow l309)]) ?_ rfl (.cons (slenV rfl (by rw [hnl309])) (.cons rfl (.cons rfl (.cons rfl (.cons rfl (.cons rfl (.cons rfl (.cons (slenV rfl (by rw [hnl309])) (.cons rfl (.cons (slenV rfl (by rw [hnl309])) (.cons rfl (.cons rfl (.cons (slenV rfl (by rw [hnl309])) (.cons rfl (.cons rfl (.cons rfl (.cons (slenV rfl (by rw [hnl309])) (.r rfl)))))))))))))))))) (.r rfl)
    refine Dr.tail (by kernel_rfl) ?_
    obtain ⟨x310, hx310, H⟩ := bnd H
    obtain ⟨hx3100, hx3101, hx3102⟩ := idx_some hx310
    refine Tr.va rfl (fun _ _ h1 h2 => run_indexAddr el_42 (h1.ev rfl) hfl309 (h1.ev rfl) hx3100 hx3101) ?_
    obtain ⟨l311, hl311, H⟩ := bnd H
    have hnl311 := sets_len hl311
    refine Tr.storeEl 0 (t := fl_TRow) (l := l309) (i := (w64 (x291 - 1))) (fo := 0) (cs := [(.slice Au307_0 (x306.points).length cu307_0), (iv x306.area)]) x306 (wn rfl) rfl rfl rfl rfl rfl hx3102 sz_45 rfl (fun u hu => ⟨(Au307_0, cu307_0), hoku307_0, rfl⟩) rfl hl311 ?_
    have hfl311 : SlF Ap0_0 (l311).length cp0_0 := by rw [hnl311]; exact hfl309
    have hsl311 := hnl311.trans hsl309
    refine Tr.sel (lf := [(0, (.slice Ap0_0 (l311).length cp0_0)), (1, (iv p1)), (2, (iv p2)), (3, (.func (.func 15) #[] #[(.pointer (some ⟨bq0, 0, none⟩))])), (8, (iv x243)), (9, (iv x291)), (34, (.bool g297)), (37, (.slice Ap0_0 (l311).length cp0_0)), (38, (iv x291)), (39, (.slice Ap0_0 (l311).length cp0_0)), (40, (iv x291)), (41, (iv (w64 (x291 - 1)))), (42, (.slice Ap0_0 (l311).length cp0_0)), (43, (iv x291)), (44, (iv (w64 (x291 - 1)))), (46, (.agg #[(.slice Au305_0 (x304.points).length cu305_0), (iv x304.area)])), (47, (.slice Ap0_0 (l311).length cp0_0)), (48, (iv x291)), (50, (.agg #[(.slice Au307_0 (x306.points).length cu307_0), (iv x306.area)]))]) (le := [(0, ow Ap0_0 cp0_0 45 fl_TRow l311)]) (.cons (slenV rfl (by rw [hnl311])) (.cons rfl (.cons rfl (.cons rfl (.cons rfl (.cons rfl (.cons rfl (.cons (slenV rfl (by rw [hnl311])) (.cons rfl (.cons (slenV rfl (by rw [hnl311])) (.cons rfl (.cons rfl (.cons (slenV rfl (by rw [hnl311])) (.cons rfl (.cons rfl (.cons rfl (.cons (slenV rfl (by rw [hnl311])) (.r rfl)))))))))))))))))) (.r rfl) ?_
    refine Tr.nil (Tr.normBlock (Tr.normThen ?_))
    refine Tr.region ?_
    refine Tr.mv rfl rfl ?_
    refine Tr.v2 rfl run_sub rfl rfl ?_
    refine Tr.asg rfl rfl ?_
    refine Tr.nil ?_
    exact Tr.backThen leL4 (l311, (w64 (x291 - 1))) ⟨H, hsl311⟩ (.r rfl) (.r rfl)
   ·refine Tr.exit (Tr.exitThen (Tr.exitThen (Tr.exitBlock (Tr.normBlock (Tr.normThen ?_)))))
    refine Tr.region ?_
    refine Tr.mv rfl rfl ?_
    refine Tr.v2 rfl run_add rfl rfl ?_
    refine Tr.asg rfl rfl ?_
    refine Tr.nil ?_
    exact Tr.backThen leL3 (l290, (w64 (x243 + 1))) ⟨H, hl290⟩ (.r rfl) (.r rfl)
 ·refine Tr.exit (Tr.exitThen (Tr.exitThen (Tr.exitBlock (Tr.offEnd ?_))))
  obtain rfl := Option.some.inj H
  exact Tr.out (m := []) [] res_nil (fun W hW => ⟨w, (), leB, rfl, hl242, hW.pick (ks := [0]) (by decide) (pk_cons rfl pk_nil)⟩)

theorem F_slices_swapRangeCmpFunc_row__Of_2__Of_1_ok (N : Nat) {w : Bs} (p0 : (List TRow)) (Ap0_0 : Option Addr) (cp0_0 : Nat) (p1 : Int) (p2 : Int) (p3 : Int) (bq0 : Nat) (hb0 : w.R bq0) (hc0 : CellsAt w.W bq0 0 [(.func (.func 13) #[] #[])]) (r : (List TRow)) (H : F_slices_swapRangeCmpFunc_row__Of_2__Of_1 N p0 p1 p2 p3 = some r) (hE : HF w w.W (LEn [ow Ap0_0 cp0_0 45 fl_TRow p0])) : Calls Tryz.prog 170 [(.slice Ap0_0 (p0).length cp0_0), (iv p1), (iv p2), (iv p3), (.func (.func 15) #[] #[(.pointer (some ⟨bq0, 0, none⟩))])].toArray w.W fun e W' => ∃ (w' : Bs) (u : Unit), w.Le w' ∧ e = .returned (.tuple #[]) ∧ ((r).length = (p0).length) ∧ HF w' W' (LEn [ow Ap0_0 cp0_0 45 fl_TRow r]) := by
 unfold F_slices_swapRangeCmpFunc_row__Of_2__Of_1 at H
 have hfhp0_0 := (hE.sl (k := 0) rfl).form
 have leB := Bs.Le.refl w
 refine Tr.enter (n := 38) Tryz.func170 rfl rfl rfl hE ?_
 refine Tr.sr ?_
 refine Tr.asg rfl rfl ?_
 refine Tr.nil (Tr.normThen ?_)
 refine Tr.block ?_
 refine Tr.loop (σ := (List TRow) × Int) (fun m w s => F_slices_swapRangeCmpFunc_row__Of_2__Of_1_L1 p1 p2 p3 m s.1 s.2 = some r ∧ (s.1).length = (p0).length) (fun s => [(0, (.slice Ap0_0 (s.1).length cp0_0)), (1, (iv p1)), (2, (iv p2)), (3, (iv p3)), (10, (iv s.2))]) (fun s => [(0, ow Ap0_0 cp0_0 45 fl_TRow s.1)]) N (p0, 0) ⟨H, rfl⟩ (.r rfl) (.r rfl) (fun _ _ h => noSome (h.1)) ?_
 intro w leL1 mL1 s hs
 obtain ⟨l124, x125⟩ := s
 obtain ⟨H, hl124⟩ := hs
 replace H : F_slices_swapRangeCmpFunc_row__Of_2__Of_1_L1 p1 p2 p3 (mL1 + 1) l124 x125 = some r := H
 replace leB := leB.trans leL1
 replace hl124 : (l124).length = (p0).length := hl124
 have hfl124 : SlF Ap0_0 (l124).length cp0_0 := (by rw [hl124]; exact hfhp0_0)
 rw [F_slices_swapRangeCmpFunc_row__Of_2__Of_1_L1.eq_2] at H
 show Tr _ _ (LF [(0, (.slice Ap0_0 (l124).length cp0_0)), (1, (iv p1)), (2, (iv p2)), (3, (iv p3)), (10, (iv x125))]) (LE [(0, ow Ap0_0 cp0_0 45 fl_TRow l124)]) _
 refine Tr.seq ?_
 refine Tr.sr ?_
 refine Tr.mv rfl rfl ?_
 refine Tr.mv rfl rfl ?_
 refine Tr.v2 rfl run_lss rfl rfl ?_
 refine Tr.nil (Tr.normThen ?_)
 refine Tr.cond rfl H (fun H => ?_) (fun H => ?_)
 ·refine Tr.skip (Tr.normThen ?_)
  refine Tr.seq ?_
  refine Tr.block ?_
  refine Tr.drawC 22 [(21, (ow Ap0_0 cp0_0 45 fl_TRow l124).S)] [] (by kernel_rfl) (by kernel_rfl) fun sz126 hlosz126 hEsz126 => ?_
  refine Dr.quiet 0 [(16, (.slice Ap0_0 (l124).length cp0_0))] (by kernel_rfl) rfl rfl (by kernel_rfl) ?_ rfl rfl ?_
  ·refine Tq.mv rfl rfl ?_
   exact Tq.fin (.r rfl)
  refine Dr.quiet 1 [(17, (iv p1))] (by kernel_rfl) rfl rfl (by kernel_rfl) ?_ rfl rfl ?_
  ·refine Tq.mv rfl rfl ?_
   exact Tq.fin (.r rfl)
  refine Dr.quiet 2 [(18, (iv x125))] (by kernel_rfl) rfl rfl (by kernel_rfl) ?_ rfl rfl ?_
  ·refine Tq.mv rfl rfl ?_
   exact Tq.fin (.r rfl)
  refine Dr.quiet 3 [(19, (iv (w64 (p1 + x125))))] (by kernel_rfl) rfl rfl (by kernel_rfl) ?_ rfl rfl ?_
  ·refine Tq.v2 rfl run_add rfl rfl ?_
   exact Tq.fin (.r rfl)
  refine Dr.quietP 4 (by kernel_rfl) rfl (wn rfl) rfl (by kernel_rfl) (fun _ _ h1 => run_move (h1.ev rfl)) rfl ?_
  refine Dr.quietP 5 (by kernel_rfl) rfl (wn rfl) rfl (by kernel_rfl) (fun _ _ h1 => run_move (h1.ev rfl)) rfl ?_
  refine Dr.quietP 6 (by kernel_rfl) rfl (wn rfl) rfl (by kernel_rfl) (fun _ _ h1 => run_move (h1.ev rfl)) rfl ?_
  refine Dr.quietP 7 (by kernel_rfl) rfl (wn rfl) rfl (by kernel_rfl) (fun _ _ h1 => run_add (h1.ev rfl) (h1.ev rfl)) rfl ?_
  refine Dr.quiet 8 [(24, (.slice Ap0_0 (l124).length cp0_0))] (by kernel_rfl) rfl rfl (by kernel_rfl) ?_ rfl rfl ?_
  ·refine Tq.mv rfl rfl ?_
   exact Tq.fin (.r rfl)
  refine Dr.quiet 9 [(25, (iv p2))] (by kernel_rfl) rfl rfl (by kernel_rfl) ?_ rfl rfl ?_
  ·refine Tq.mv rfl rfl ?_
   exact Tq.fin (.r rfl)
  refine Dr.quiet 10 [(26, (iv x125))] (by kernel_rfl) rfl rfl (by kernel_rfl) ?_ rfl rfl ?_
  ·refine Tq.mv rfl rfl ?_
   exact Tq.fin (.r rfl)
  refine Dr.quiet 11 [(27, (iv (w64 (p2 + x125))))] (by kernel_rfl) rfl rfl (by kernel_rfl) ?_ rfl rfl ?_
  ·refine Tq.v2 rfl run_add rfl rfl ?_
   exact Tq.fin (.r rfl)
  obtain ⟨x127, hx127, H⟩ := bnd H
  obtain ⟨hx1270, hx1271, hx1272⟩ := idx_some hx127
  refine Dr.quiet 12 [(28, (.pointer (some ⟨adB Ap0_0, adO Ap0_0 + ((w64 (p2 + x125))).toNat * 2, none⟩)))] (by kernel_rfl) rfl rfl (by kernel_rfl) ?_ rfl rfl ?_
  ·refine Tq.va rfl (fun _ _ h1 h2 => run_indexAddr el_42 (h1.ev rfl) hfl124 (h1.ev rfl) hx1270 hx1271) ?_
   exact Tq.fin (.r rfl)
  refine Dr.quietE 13 (U := (fl_TRow).Ad) (fun u => (fl_TRow).ok w.O w.W u x127) (fun u => (.agg #[(.slice u.1 (x127.points).length u.2), (iv x127.area)])) (by kernel_rfl) rfl (wn rfl) rfl (by kernel_rfl) (ldN (κ := 0) (t := fl_TRow) (V := fun u => (.agg #[(.slice u.1 (x127.points).length u.2), (iv x127.area)])) rfl hx1272 (fun _ _ u h1 hc => run_loadN (cs := [(.slice u.1 (x127.points).length u.2), (iv x127.area)]) ag_45 sz_45 (h1.ev rfl) (CellsAt.take hc 2) rfl)) ?_
  intro u128 hoku128
  obtain ⟨Au128_0, cu128_0⟩ := u128
  have hoku128_0 := hoku128
  replace hoku128_0 : Sl w.O w.W fl_TPoint Au128_0 cu128_0 x127.points := hoku128_0
  show Dr _ _ _ _ _ _ _ _ _ (uf _ 29 (.agg #[(.slice Au128_0 (x127.points).length cu128_0), (iv x127.area)])) _
  refine Dr.quietP 14 (by kernel_rfl) rfl (wn rfl) rfl (by kernel_rfl) (fun _ _ h1 => run_move (h1.ev rfl)) rfl ?_
  refine Dr.quietP 15 (by kernel_rfl) rfl (wn rfl) rfl (by kernel_rfl) (fun _ _ h1 => run_move (h1.ev rfl)) rfl ?_
  refine Dr.quietP 16 (by kernel_rfl) rfl (wn rfl) rfl (by kernel_rfl) (fun _ _ h1 => run_move (h1.ev rfl)) rfl ?_
  refine Dr.quietP 17 (by kernel_rfl) rfl (wn rfl) rfl (by kernel_rfl) (fun _ _ h1 => run_add (h1.ev rfl) (h1.ev rfl)) rfl ?_
  obtain ⟨x129, hx129, H⟩ := bnd H
  obtain ⟨hx1290, hx1291, hx1292⟩ := idx_some hx129
  refine Dr.quietP 18 (by kernel_rfl) rfl (wn rfl) rfl (by kernel_rfl) (fun _ _ h1 => run_indexAddr el_42 (h1.ev rfl) hfl124 (h1.ev rfl) hx1290 hx1291) rfl ?_
  refine Dr.quietE 19 (U := (fl_TRow).Ad) (fun u => (fl_TRow).ok w.O w.W u x129) (fun u => (.agg #[(.slice u.1 (x129.points).length u.2), (iv x129.area)])) (by kernel_rfl) rfl (wn rfl) rfl (by kernel_rfl) (ldN (κ := 0) (t := fl_TRow) (V := fun u => (.agg #[(.slice u.1 (x129.points).length u.2), (iv x129.area)])) rfl hx1292 (fun _ _ u h1 hc => run_loadN (cs := [(.slice u.1 (x129.points).length u.2), (iv x129.area)]) ag_45 sz_45 (h1.ev rfl) (CellsAt.take hc 2) rfl)) ?_
  intro u130 hoku130
  obtain ⟨Au130_0, cu130_0⟩ := u130
  have hoku130_0 := hoku130
  replace hoku130_0 : Sl w.O w.W fl_TPoint Au130_0 cu130_0 x129.points := hoku130_0
  show Dr _ _ _ _ _ _ _ _ _ (uf _ 35 (.agg #[(.slice Au130_0 (x129.points).length cu130_0), (iv x129.area)])) _
  obtain ⟨x131, hx131, H⟩ := bnd H
  obtain ⟨hx1310, hx1311, hx1312⟩ := idx_some hx131
  refine Dr.quiet 20 [(36, (.pointer (some ⟨adB Ap0_0, adO Ap0_0 + ((w64 (p1 + x125))).toNat * 2, none⟩)))] (by kernel_rfl) rfl rfl (by kernel_rfl) ?_ rfl rfl ?_
  ·refine Tq.va rfl (fun _ _ h1 h2 => run_indexAddr el_42 (h1.ev rfl) hfl124 (h1.ev rfl) hx1310 hx1311) ?_
   exact Tq.fin (.r rfl)
  obtain ⟨l132, hl132, H⟩ := bnd H
  refine Dr.one 21 (by kernel_rfl) ?_
  have hnl132 := sets_len hl132
  refine St.storeEl 21 0 (t' := fl_TRow) (ll := l124) (ix := (w64 (p1 + x125))) (fo := 0) (cs := [(.slice Au128_0 (x127.points).length cu128_0), (iv x127.area)]) x127 (fun b hb => .inl ⟨_, List.mem_cons_self, rfl, hb⟩) rfl (wn rfl) rfl rfl rfl rfl rfl hx1312 sz_45 rfl (fun u hu => ⟨(Au128_0, cu128_0), hoku128_0, rfl⟩) rfl hl132 ?_
  have hfl132 : SlF Ap0_0 (l132).length cp0_0 := by rw [hnl132]; exact hfl124
  have hsl132 := hnl132.trans hl124
  refine Dr.use (lf := [(0, (.slice Ap0_0 (l132).length cp0_0)), (1, (iv p1)), (2, (iv p2)), (3, (iv p3)), (10, (iv x125)), (11, (iv x125)), (12, (iv p3)), (13, (.bool (decide (x125 < p3)))), (16, (.slice Ap0_0 (l132).length cp0_0)), (17, (iv p1)), (18, (iv x125)), (19, (iv (w64 (p1 + x125)))), (20, (.slice Ap0_0 (l132).length cp0_0)), (21, (iv p2)), (22, (iv x125)), (23, (iv (w64 (p2 + x125)))), (24, (.slice Ap0_0 (l132).length cp0_0)), (25, (iv p2)), (26, (iv x125)), (27, (iv (w64 (p2 + x125)))), (29, (.agg #[(.slice Au128_0 (x127.points).length cu128_0), (iv x127.area)])), (30, (.slice Ap0_0 (l132).length cp0_0)), (31, (iv p1)), (32, (iv x125)), (33, (iv (w64 (p1 + x125)))), (35, (.agg #[(.slice Au130_0 (x129.points).length cu130_0), (iv x129.area)]))]) (le := [(0, ow Ap0_0 cp0_0 45 fl_TRow l132)]) ?_ rfl (.cons (slenV rfl (by rw [hnl132])) (.cons rfl (.cons rfl (.cons rfl (.cons rfl (.cons rfl (.cons rfl (.cons rfl (.cons (slenV rfl (by rw [hnl132])) (.cons rfl (.cons rfl (.cons rfl (.cons (slenV rfl (by rw [hnl132])) (.cons rfl (.cons rfl (.cons rfl (.cons (slenV rfl (by rw [hnl132])) (.cons rfl (.cons rfl (.cons rfl (.cons rfl (.cons (slenV rfl (by rw [hnl132])) (.r rfl))))))))))))))))))))))) (.r rfl)
  refine Dr.tail (by kernel_rfl) ?_
  obtain ⟨x133, hx133, H⟩ := bnd H
  obtain ⟨hx1330, hx1331, hx1332⟩ := idx_some hx133
  refine Tr.va rfl (fun _ _ h1 h2 => run_indexAddr el_42 (h1.ev rfl) hfl132 (h1.ev rfl) hx1330 hx1331) ?_
  obtain ⟨l134, hl134, H⟩ := bnd H
  have hnl134 := sets_len hl134
  refine Tr.storeEl 0 (t := fl_TRow) (l := l132) (i := (w64 (p2 + x125))) (fo := 0) (cs := [(.slice Au130_0 (x129.points).length cu130_0), (iv x129.area)]) x129 (wn rfl) rfl rfl rfl rfl rfl hx1332 sz_45 rfl (fun u hu => ⟨(Au130_0, cu130_0), hoku130_0, rfl⟩) rfl hl134 ?_
  have hfl134 : SlF Ap0_0 (l134).length cp0_0 := by rw [hnl134]; exact hfl132
  have hsl134 := hnl134.trans hsl132
  refine Tr.sel (lf := [(0, (.slice Ap0_0 (l134).length cp0_0)), (1, (iv p1)), (2, (iv p2)), (3, (iv p3)), (10, (iv x125)), (11, (iv x125)), (12, (iv p3)), (13, (.bool (decide (x125 < p3)))), (16, (.slice Ap0_0 (l134).length cp0_0)), (17, (iv p1)), (18, (iv x125)), (19, (iv (w64 (p1 + x125)))), (20, (.slice Ap0_0 (l134).length cp0_0)), (21, (iv p2)), (22, (iv x125)), (23, (iv (w64 (p2 + x125)))), (24, (.slice Ap0_0 (l134).length cp0_0)), (25, (iv p2)), (26, (iv x125)), (27, (iv (w64 (p2 + x125)))), (29, (.agg #[(.slice Au128_0 (x127.points).length cu128_0), (iv x127.area)])), (30, (.slice Ap0_0 (l134).length cp0_0)), (31, (iv p1)), (32, (iv x125)), (33, (iv (w64 (p1 + x125)))), (35, (.agg #[(.slice Au130_0 (x129.points).length cu130_0), (iv x129.area)]))]) (le := [(0, ow Ap0_0 cp0_0 45 fl_TRow l134)]) (.cons (slenV rfl (by rw [hnl134])) (.cons rfl (.cons rfl (.cons rfl (.cons rfl (.cons rfl (.cons rfl (.cons rfl (.cons (slenV rfl (by rw [hnl134])) (.cons rfl (.cons rfl (.cons rfl (.cons (slenV rfl (by rw [hnl134])) (.cons rfl (.cons rfl (.cons rfl (.cons (slenV rfl (by rw [hnl134])) (.cons rfl (.cons rfl (.cons rfl (.cons rfl (.cons (slenV rfl (by rw [hnl134])) (.r rfl))))))))))))))))))))))) (.r rfl) ?_
  refine Tr.nil (Tr.normBlock (Tr.normThen ?_))
  refine Tr.region ?_
  refine Tr.mv rfl rfl ?_
  refine Tr.v2 rfl run_add rfl rfl ?_
  refine Tr.asg rfl rfl ?_
  refine Tr.nil ?_
  exact Tr.backThen leL1 (l134, (w64 (x125 + 1))) ⟨H, hsl134⟩ (.r rfl) (.r rfl)
 ·refine Tr.exit (Tr.exitThen (Tr.exitThen (Tr.exitBlock (Tr.offEnd ?_))))
  obtain rfl := Option.some.inj H
  exact Tr.out (m := []) [] res_nil (fun W hW => ⟨w, (), leB, rfl, hl124, hW.pick (ks := [0]) (by decide) (pk_cons rfl pk_nil)⟩)

theorem F_slices_rotateCmpFunc_row__Of_2__Of_1_ok (N : Nat) {w : Bs} (p0 : (List TRow)) (Ap0_0 : Option Addr) (cp0_0 : Nat) (p1 : Int) (p2 : Int) (p3 : Int) (bq0 : Nat) (hb0 : w.R bq0) (hc0 : CellsAt w.W bq0 0 [(.func (.func 13) #[] #[])]) (r : (List TRow)) (H : F_slices_rotateCmpFunc_row__Of_2__Of_1 N p0 p1 p2 p3 = some r) (hE : HF w w.W (LEn [ow Ap0_0 cp0_0 45 fl_TRow p0])) : Calls Tryz.prog 119 [(.slice Ap0_0 (p0).length cp0_0), (iv p1), (iv p2), (iv p3), (.func (.func 15) #[] #[(.pointer (some ⟨bq0, 0, none⟩))])].toArray w.W fun e W' => ∃ (w' : Bs) (u : Unit), w.Le w' ∧ e = .returned (.tuple #[]) ∧ ((r).length = (p0).length) ∧ HF w' W' (LEn [ow Ap0_0 cp0_0 45 fl_TRow r]) := by
 unfold F_slices_rotateCmpFunc_row__Of_2__Of_1 at H
 have hfhp0_0 := (hE.sl (k := 0) rfl).form
 have leB := Bs.Le.refl w
 refine Tr.enter (n := 58) Tryz.func119 rfl rfl rfl hE ?_
 refine Tr.sr ?_
 refine Tr.mv rfl rfl ?_
 refine Tr.mv rfl rfl ?_
 refine Tr.v2 rfl run_sub rfl rfl ?_
 refine Tr.asg rfl rfl ?_
 refine Tr.nil (Tr.normThen ?_)
 refine Tr.sr ?_
 refine Tr.mv rfl rfl ?_
 refine Tr.mv rfl rfl ?_
 refine Tr.v2 rfl run_sub rfl rfl ?_
 refine Tr.asg rfl rfl ?_
 refine Tr.nil (Tr.normThen ?_)
 refine Tr.seq ?_
 refine Tr.block ?_
 refine Tr.loop (σ := (List TRow) × Int × Int) (fun m w s => F_slices_rotateCmpFunc_row__Of_2__Of_1_L1 N p2 m s.1 s.2.1 s.2.2 = some r ∧ (s.1).length = (p0).length) (fun s => [(0, (.slice Ap0_0 (s.1).length cp0_0)), (2, (iv p2)), (4, (.func (.func 15) #[] #[(.pointer (some ⟨bq0, 0, none⟩))])), (10, (iv s.2.1)), (11, (iv s.2.2))]) (fun s => [(0, ow Ap0_0 cp0_0 45 fl_TRow s.1)]) N (p0, (w64 (p2 - p1)), (w64 (p3 - p2))) ⟨H, rfl⟩ (.r rfl) (.r rfl) (fun _ _ h => noSome (h.1)) ?_
 intro w leL1 mL1 s hs
 obtain ⟨l117, x118, x119⟩ := s
 obtain ⟨H, hl117⟩ := hs
 replace H : F_slices_rotateCmpFunc_row__Of_2__Of_1_L1 N p2 (mL1 + 1) l117 x118 x119 = some r := H
 replace hc0 := leL1.ext.cells hb0 hc0
 replace hb0 := leL1.r _ hb0
 replace leB := leB.trans leL1
 replace hl117 : (l117).length = (p0).length := hl117
 have hfl117 : SlF Ap0_0 (l117).length cp0_0 := (by rw [hl117]; exact hfhp0_0)
 rw [F_slices_rotateCmpFunc_row__Of_2__Of_1_L1.eq_2] at H
 show Tr _ _ (LF [(0, (.slice Ap0_0 (l117).length cp0_0)), (2, (iv p2)), (4, (.func (.func 15) #[] #[(.pointer (some ⟨bq0, 0, none⟩))])), (10, (iv x118)), (11, (iv x119))]) (LE [(0, ow Ap0_0 cp0_0 45 fl_TRow l117)]) _
 refine Tr.seq ?_
 refine Tr.sr ?_
 refine Tr.mv rfl rfl ?_
 refine Tr.mv rfl rfl ?_
 refine Tr.v2 rfl run_neq rfl rfl ?_
 refine Tr.nil (Tr.normThen ?_)
 refine Tr.cond rfl H (fun H => ?_) (fun H => ?_)
 ·refine Tr.skip (Tr.normThen ?_)
  refine Tr.block ?_
  refine Tr.sr ?_
  refine Tr.mv rfl rfl ?_
  refine Tr.mv rfl rfl ?_
  refine Tr.v2 rfl run_gtr rfl rfl ?_
  refine Tr.nil (Tr.normThen ?_)
  refine Tr.cond rfl H (fun H => ?_) (fun H => ?_)
  ·refine Tr.sr ?_
   refine Tr.mv rfl rfl ?_
   refine Tr.mv rfl rfl ?_
   refine Tr.mv rfl rfl ?_
   refine Tr.v2 rfl run_sub rfl rfl ?_
   refine Tr.mv rfl rfl ?_
   refine Tr.mv rfl rfl ?_
   refine Tr.mv rfl rfl ?_
   obtain ⟨y120, hy120, H⟩ := bnd H
   refine Tr.callG [0] [ow Ap0_0 cp0_0 45 fl_TRow l117] (U := Unit) (fun u => (.tuple #[])) (fun O W u => (y120).length = (l117).length) (fun u => [ow Ap0_0 cp0_0 45 fl_TRow y120]) rfl (pk_cons rfl pk_nil) (fun _ => rfl) (wn rfl) rfl Tryz.call170 (evl_cons rfl (evl_cons rfl (evl_cons rfl (evl_cons rfl (evl_cons rfl evl_nil))))) (fun W hW hp hE => F_slices_swapRangeCmpFunc_row__Of_2__Of_1_ok N l117 Ap0_0 cp0_0 (w64 (p2 - x118)) p2 x119 bq0 ((hW.extS hp).r _ hb0) ((hW.extS hp).cells hb0 hc0) y120 hy120 hE) ?_
   intro w u le121 hu
   have gky120_0 := hu
   replace hc0 := le121.ext.cells hb0 hc0
   replace hb0 := le121.r _ hb0
   replace leB := leB.trans le121
   replace leL1 := leL1.trans le121
   have hgky120_0 : (y120).length = (l117).length := gky120_0 --@phi
   have hfky120_0 : SlF Ap0_0 (y120).length cp0_0 := by rw [hgky120_0]; exact hfl117
   have hsky120_0 := hgky120_0.trans hl117
   show Tr _ _ (uf _ 31 (.tuple #[])) (up _ 0 (ow Ap0_0 cp0_0 45 fl_TRow y120)) _
   refine Tr.sel (lf := [(0, (.slice Ap0_0 (y120).length cp0_0)), (2, (iv p2)), (4, (.func (.func 15) #[] #[(.pointer (some ⟨bq0, 0, none⟩))])), (10, (iv x118)), (11, (iv x119)), (18, (iv x118)), (19, (iv x119)), (20, (.bool (x118 != x119))), (21, (iv x118)), (22, (iv x119)), (23, (.bool (decide (x119 < x118)))), (24, (.slice Ap0_0 (y120).length cp0_0)), (25, (iv p2)), (26, (iv x118)), (27, (iv (w64 (p2 - x118)))), (28, (iv p2)), (29, (iv x119)), (30, (.func (.func 15) #[] #[(.pointer (some ⟨bq0, 0, none⟩))])), (31, (.tuple #[]))]) (le := [(0, ow Ap0_0 cp0_0 45 fl_TRow y120)]) (.cons (slenV rfl (by rw [hgky120_0])) (.cons rfl (.cons rfl (.cons rfl (.cons rfl (.cons rfl (.cons rfl (.cons rfl (.cons rfl (.cons rfl (.cons rfl (.cons (slenV rfl (by rw [hgky120_0])) (.r rfl))))))))))))) (.r rfl) ?_
   refine Tr.nil (Tr.normThen ?_)
   refine Tr.region ?_
   refine Tr.mv rfl rfl ?_
   refine Tr.mv rfl rfl ?_
   refine Tr.v2 rfl run_sub rfl rfl ?_
   refine Tr.asg rfl rfl ?_
   refine Tr.nil (Tr.normBlock ?_)
   exact Tr.backThen leL1 (y120, (w64 (x118 - x119)), x119) ⟨H, hsky120_0⟩ (.r rfl) (.r rfl)
  ·refine Tr.sr ?_
   refine Tr.mv rfl rfl ?_
   refine Tr.mv rfl rfl ?_
   refine Tr.mv rfl rfl ?_
   refine Tr.v2 rfl run_sub rfl rfl ?_
   refine Tr.mv rfl rfl ?_
   refine Tr.mv rfl rfl ?_
   refine Tr.v2 rfl run_add rfl rfl ?_
   refine Tr.mv rfl rfl ?_
   refine Tr.v2 rfl run_sub rfl rfl ?_
   refine Tr.mv rfl rfl ?_
   refine Tr.mv rfl rfl ?_
   obtain ⟨y122, hy122, H⟩ := bnd H
   refine Tr.callG [0] [ow Ap0_0 cp0_0 45 fl_TRow l117] (U := Unit) (fun u => (.tuple #[])) (fun O W u => (y122).length = (l117).length) (fun u => [ow Ap0_0 cp0_0 45 fl_TRow y122]) rfl (pk_cons rfl pk_nil) (fun _ => rfl) (wn rfl) rfl Tryz.call170 (evl_cons rfl (evl_cons rfl (evl_cons rfl (evl_cons rfl (evl_cons rfl evl_nil))))) (fun W hW hp hE => F_slices_swapRangeCmpFunc_row__Of_2__Of_1_ok N l117 Ap0_0 cp0_0 (w64 (p2 - x118)) (w64 ((w64 (p2 + x119)) - x118)) x118 bq0 ((hW.extS hp).r _ hb0) ((hW.extS hp).cells hb0 hc0) y122 hy122 hE) ?_
   intro w u le123 hu
   have gky122_0 := hu
   replace hc0 := le123.ext.cells hb0 hc0
   replace hb0 := le123.r _ hb0
   replace leB := leB.trans le123
   replace leL1 := leL1.trans le123
   have hgky122_0 : (y122).length = (l117).length := gky122_0 --@phi
   have hfky122_0 : SlF Ap0_0 (y122).length cp0_0 := by rw [hgky122_0]; exact hfl117
   have hsky122_0 := hgky122_0.trans hl117
   show Tr _ _ (uf _ 46 (.tuple #[])) (up _ 0 (ow Ap0_0 cp0_0 45 fl_TRow y122)) _
   refine Tr.sel (lf := [(0, (.slice Ap0_0 (y122).length cp0_0)), (2, (iv p2)), (4, (.func (.func 15) #[] #[(.pointer (some ⟨bq0, 0, none⟩))])), (10, (iv x118)), (11, (iv x119)), (18, (iv x118)), (19, (iv x119)), (20, (.bool (x118 != x119))), (21, (iv x118)), (22, (iv x119)), (23, (.bool (decide (x119 < x118)))), (35, (.slice Ap0_0 (y122).length cp0_0)), (36, (iv p2)), (37, (iv x118)), (38, (iv (w64 (p2 - x118)))), (39, (iv p2)), (40, (iv x119)), (41, (iv (w64 (p2 + x119)))), (42, (iv x118)), (43, (iv (w64 ((w64 (p2 + x119)) - x118)))), (44, (iv x118)), (45, (.func (.func 15) #[] #[(.pointer (some ⟨bq0, 0, none⟩))])), (46, (.tuple #[]))]) (le := [(0, ow Ap0_0 cp0_0 45 fl_TRow y122)]) (.cons (slenV rfl (by rw [hgky122_0])) (.cons rfl (.cons rfl (.cons rfl (.cons rfl (.cons rfl (.cons rfl (.cons rfl (.cons rfl (.cons rfl (.cons rfl (.cons (slenV rfl (by rw [hgky122_0])) (.r rfl))))))))))))) (.r rfl) ?_
   refine Tr.nil (Tr.normThen ?_)
   refine Tr.region ?_
   refine Tr.mv rfl rfl ?_
   refine Tr.mv rfl rfl ?_
   refine Tr.v2 rfl run_sub rfl rfl ?_
   refine Tr.asg rfl rfl ?_
   refine Tr.nil (Tr.normBlock ?_)
   exact Tr.backThen leL1 (y122, x118, (w64 (x119 - x118))) ⟨H, hsky122_0⟩ (.r rfl) (.r rfl)
 ·refine Tr.exit (Tr.exitThen (Tr.exitThen (Tr.exitBlock (Tr.normThen ?_))))
  refine Tr.region ?_
  refine Tr.mv rfl rfl ?_
  refine Tr.mv rfl rfl ?_
  refine Tr.mv rfl rfl ?_
  refine Tr.v2 rfl run_sub rfl rfl ?_
  refine Tr.mv rfl rfl ?_
  refine Tr.mv rfl rfl ?_
  refine Tr.mv rfl rfl ?_
  obtain ⟨y124, hy124, H⟩ := bnd H
  refine Tr.callG [0] [ow Ap0_0 cp0_0 45 fl_TRow l117] (U := Unit) (fun u => (.tuple #[])) (fun O W u => (y124).length = (l117).length) (fun u => [ow Ap0_0 cp0_0 45 fl_TRow y124]) rfl (pk_cons rfl pk_nil) (fun _ => rfl) (wn rfl) rfl Tryz.call170 (evl_cons rfl (evl_cons rfl (evl_cons rfl (evl_cons rfl (evl_cons rfl evl_nil))))) (fun W hW hp hE => F_slices_swapRangeCmpFunc_row__Of_2__Of_1_ok N l117 Ap0_0 cp0_0 (w64 (p2 - x118)) p2 x118 bq0 ((hW.extS hp).r _ hb0) ((hW.extS hp).cells hb0 hc0) y124 hy124 hE) ?_
  intro w u le125 hu
  have gky124_0 := hu
  replace hc0 := le125.ext.cells hb0 hc0
  replace hb0 := le125.r _ hb0
  replace leB := leB.trans le125
  replace leL1 := leL1.trans le125
  have hgky124_0 : (y124).length = (l117).length := gky124_0 --@phi
  have hfky124_0 : SlF Ap0_0 (y124).length cp0_0 := by rw [hgky124_0]; exact hfl117
  have hsky124_0 := hgky124_0.trans hl117
  show Tr _ _ (uf _ 57 (.tuple #[])) (up _ 0 (ow Ap0_0 cp0_0 45 fl_TRow y124)) _
  refine Tr.sel (lf := [(0, (.slice Ap0_0 (y124).length cp0_0)), (2, (iv p2)), (4, (.func (.func 15) #[] #[(.pointer (some ⟨bq0, 0, none⟩))])), (10, (iv x118)), (11, (iv x119)), (18, (iv x118)), (19, (iv x119)), (20, (.bool (x118 != x119))), (50, (.slice Ap0_0 (y124).length cp0_0)), (51, (iv p2)), (52, (iv x118)), (53, (iv (w64 (p2 - x118)))), (54, (iv p2)), (55, (iv x118)), (56, (.func (.func 15) #[] #[(.pointer (some ⟨bq0, 0, none⟩))])), (57, (.tuple #[]))]) (le := [(0, ow Ap0_0 cp0_0 45 fl_TRow y124)]) (.cons (slenV rfl (by rw [hgky124_0])) (.cons rfl (.cons rfl (.cons rfl (.cons rfl (.cons rfl (.cons rfl (.cons rfl (.cons (slenV rfl (by rw [hgky124_0])) (.r rfl)))))))))) (.r rfl) ?_
  refine Tr.nil (Tr.offEnd ?_)
  obtain rfl := Option.some.inj H
  exact Tr.out (m := []) [] res_nil (fun W hW => ⟨w, (), leB, rfl, hsky124_0, hW.pick (ks := [0]) (by decide) (pk_cons rfl pk_nil)⟩)

theorem F_slices_symMergeCmpFunc_row__Of_2__Of_1_b_ok (N : Nat) (rec : (List TRow) → Int → Int → Int → Option (List TRow)) (hrec : ∀ {w : Bs} (p0 : (List TRow)) (Ap0_0 : Option Addr) (cp0_0 : Nat) (p1 : Int) (p2 : Int) (p3 : Int) (bq0 : Nat) (hb0 : w.R bq0) (hc0 : CellsAt w.W bq0 0 [(.func (.func 13) #[] #[])]) (r : (List TRow)) (H : rec p0 p1 p2 p3 = some r) (hE : HF w w.W (LEn [ow Ap0_0 cp0_0 45 fl_TRow p0])), Calls Tryz.prog 78 [(.slice Ap0_0 (p0).length cp0_0), (iv p1), (iv p2), (iv p3), (.func (.func 15) #[] #[(.pointer (some ⟨bq0, 0, none⟩))])].toArray w.W fun e W' => ∃ (w' : Bs) (u : Unit), w.Le w' ∧ e = .returned (.tuple #[]) ∧ ((r).length = (p0).length) ∧ HF w' W' (LEn [ow Ap0_0 cp0_0 45 fl_TRow r])) {w : Bs} (p0 : (List TRow)) (Ap0_0 : Option Addr) (cp0_0 : Nat) (p1 : Int) (p2 : Int) (p3 : Int) (bq0 : Nat) (hb0 : w.R bq0) (hc0 : CellsAt w.W bq0 0 [(.func (.func 13) #[] #[])]) (r : (List TRow)) (H : F_slices_symMergeCmpFunc_row__Of_2__Of_1_b N rec p0 p1 p2 p3 = some r) (hE : HF w w.W (LEn [ow Ap0_0 cp0_0 45 fl_TRow p0])) : Calls Tryz.prog 78 [(.slice Ap0_0 (p0).length cp0_0), (iv p1), (iv p2), (iv p3), (.func (.func 15) #[] #[(.pointer (some ⟨bq0, 0, none⟩))])].toArray w.W fun e W' => ∃ (w' : Bs) (u : Unit), w.Le w' ∧ e = .returned (.tuple #[]) ∧ ((r).length = (p0).length) ∧ HF w' W' (LEn [ow Ap0_0 cp0_0 45 fl_TRow r]) := by
 unfold F_slices_symMergeCmpFunc_row__Of_2__Of_1_b at H
 have hfhp0_0 := (hE.sl (k := 0) rfl).form
 have leB := Bs.Le.refl w
 refine Tr.enter (n := 220) Tryz.func78 rfl rfl rfl hE ?_
 refine Tr.seq ?_
 refine Tr.sr ?_
 refine Tr.mv rfl rfl ?_
 refine Tr.mv rfl rfl ?_
 refine Tr.v2 rfl run_sub rfl rfl ?_
 refine Tr.v2 rfl run_eql rfl rfl ?_
 refine Tr.nil (Tr.normThen ?_)
 refine Tr.cond rfl H (fun H => ?_) (fun H => ?_)
 ·refine Tr.sr ?_
  refine Tr.mv rfl rfl ?_
  refine Tr.asg rfl rfl ?_
  refine Tr.nil (Tr.normThen ?_)
  refine Tr.sr ?_
  refine Tr.mv rfl rfl ?_
  refine Tr.asg rfl rfl ?_
  refine Tr.nil (Tr.normThen ?_)
  refine Tr.seq ?_
  refine Tr.block ?_
  refine Tr.loop (σ := Int × Int) (fun m w s => F_slices_symMergeCmpFunc_row__Of_2__Of_1_L1 N p0 p1 m s.1 s.2 = some r) (fun s => [(0, (.slice Ap0_0 (p0).length cp0_0)), (1, (iv p1)), (4, (.func (.func 15) #[] #[(.pointer (some ⟨bq0, 0, none⟩))])), (10, (iv s.1)), (11, (iv s.2))]) (fun s => [(0, ow Ap0_0 cp0_0 45 fl_TRow p0)]) N (p2, p3) H (.r rfl) (.r rfl) (fun _ _ h => noSome (h)) ?_
  intro w leL1 mL1 s hs
  obtain ⟨x120, x121⟩ := s
  have H := hs
  replace H : F_slices_symMergeCmpFunc_row__Of_2__Of_1_L1 N p0 p1 (mL1 + 1) x120 x121 = some r := H
  replace hc0 := leL1.ext.cells hb0 hc0
  replace hb0 := leL1.r _ hb0
  replace leB := leB.trans leL1
  rw [F_slices_symMergeCmpFunc_row__Of_2__Of_1_L1.eq_2] at H
  show Tr _ _ (LF [(0, (.slice Ap0_0 (p0).length cp0_0)), (1, (iv p1)), (4, (.func (.func 15) #[] #[(.pointer (some ⟨bq0, 0, none⟩))])), (10, (iv x120)), (11, (iv x121))]) (LE [(0, ow Ap0_0 cp0_0 45 fl_TRow p0)]) _
  refine Tr.seq ?_
  refine Tr.sr ?_
  refine Tr.mv rfl rfl ?_
  refine Tr.mv rfl rfl ?_
  refine Tr.v2 rfl run_lss rfl rfl ?_
  refine Tr.nil (Tr.normThen ?_)
  refine Tr.cond rfl H (fun H => ?_) (fun H => ?_)
  ·refine Tr.skip (Tr.normThen ?_)
   refine Tr.block ?_
   refine Tr.sr ?_
   refine Tr.mv rfl rfl ?_
   refine Tr.mv rfl rfl ?_
   refine Tr.v2 rfl run_add rfl rfl ?_
   obtain ⟨q122, hq122, H⟩ := bnd H
   refine Tr.va rfl (fun _ _ h1 h2 => run_toU un_3 un_158 (h1.ev rfl) hq122) ?_
   refine Tr.v2 rfl run_half rfl rfl ?_
   obtain ⟨q123, hq123, H⟩ := bnd H
   refine Tr.va rfl (fun _ _ h1 h2 => run_ofU un_158 un_3 (h1.ev rfl) hq123) ?_
   refine Tr.asg rfl rfl ?_
   refine Tr.nil (Tr.normThen ?_)
   refine Tr.seq ?_
   refine Tr.draw (by kernel_rfl) (by kernel_rfl) ?_
   refine Tq.mv rfl rfl ?_
   refine Tq.mv rfl rfl ?_
   refine Tq.mv rfl rfl ?_
   obtain ⟨x124, hx124, H⟩ := bnd H
   obtain ⟨hx1240, hx1241, hx1242⟩ := idx_some hx124
   refine Tq.va rfl (fun _ _ h1 h2 => run_indexAddr el_42 (h1.ev rfl) hfhp0_0 (h1.ev rfl) hx1240 hx1241) ?_
   refine Tq.valE (U := (fl_TRow).Ad) (fun u => (fl_TRow).ok w.O w.W u x124) (fun u => (.agg #[(.slice u.1 (x124.points).length u.2), (iv x124.area)])) (wn rfl) rfl (ldN (κ := 0) (t := fl_TRow) (V := fun u => (.agg #[(.slice u.1 (x124.points).length u.2), (iv x124.area)])) rfl hx1242 (fun _ _ u h1 hc => run_loadN (cs := [(.slice u.1 (x124.points).length u.2), (iv x124.area)]) ag_45 sz_45 (h1.ev rfl) (CellsAt.take hc 2) rfl)) ?_
   intro u125 hoku125
   obtain ⟨Au125_0, cu125_0⟩ := u125
   have hoku125_0 := hoku125
   replace hoku125_0 : Sl w.O w.W fl_TPoint Au125_0 cu125_0 x124.points := hoku125_0
   show Tq _ _ _ _ (uf _ 44 (.agg #[(.slice Au125_0 (x124.points).length cu125_0), (iv x124.area)])) _ _ _
   refine Tq.mv rfl rfl ?_
   refine Tq.mv rfl rfl ?_
   obtain ⟨x126, hx126, H⟩ := bnd H
   obtain ⟨hx1260, hx1261, hx1262⟩ := idx_some hx126
   refine Tq.va rfl (fun _ _ h1 h2 => run_indexAddr el_42 (h1.ev rfl) hfhp0_0 (h1.ev rfl) hx1260 hx1261) ?_
   refine Tq.valE (U := (fl_TRow).Ad) (fun u => (fl_TRow).ok w.O w.W u x126) (fun u => (.agg #[(.slice u.1 (x126.points).length u.2), (iv x126.area)])) (wn rfl) rfl (ldN (κ := 0) (t := fl_TRow) (V := fun u => (.agg #[(.slice u.1 (x126.points).length u.2), (iv x126.area)])) rfl hx1262 (fun _ _ u h1 hc => run_loadN (cs := [(.slice u.1 (x126.points).length u.2), (iv x126.area)]) ag_45 sz_45 (h1.ev rfl) (CellsAt.take hc 2) rfl)) ?_
   intro u127 hoku127
   obtain ⟨Au127_0, cu127_0⟩ := u127
   have hoku127_0 := hoku127
   replace hoku127_0 : Sl w.O w.W fl_TPoint Au127_0 cu127_0 x126.points := hoku127_0
   show Tq _ _ _ _ (uf _ 48 (.agg #[(.slice Au127_0 (x126.points).length cu127_0), (iv x126.area)])) _ _ _
   obtain ⟨y128, hy128, H⟩ := bnd H
   refine Tq.callF (r := (iv y128)) (wn rfl) rfl rfl Tryz.call15 (evl_cons rfl (evl_cons rfl evl_nil)) (fun W hW => F_plot_Of_2__Of_1_ok x124 Au125_0 cu125_0 (hoku125_0.rl.ext hW.extAll) x126 Au127_0 cu127_0 (hoku127_0.rl.ext hW.extAll) bq0 (hW.extAll.r _ hb0) (hW.extAll.cells hb0 hc0) y128 hy128 (HF.start _)) ?_
   refine Tq.v2 rfl run_lss rfl rfl ?_
   refine Tq.nil (Tr.normThen ?_)
   refine Tr.cond rfl H (fun H => ?_) (fun H => ?_)
   ·refine Tr.region ?_
    refine Tr.mv rfl rfl ?_
    refine Tr.v2 rfl run_add rfl rfl ?_
    refine Tr.asg rfl rfl ?_
    refine Tr.nil (Tr.normBlock ?_)
    exact Tr.backThen leL1 ((w64 (q123 + 1)), x121) H (.r rfl) (.r rfl)
   ·refine Tr.region ?_
    refine Tr.mv rfl rfl ?_
    refine Tr.asg rfl rfl ?_
    refine Tr.nil (Tr.normBlock ?_)
    exact Tr.backThen leL1 (x120, q123) H (.r rfl) (.r rfl)
  ·refine Tr.exit (Tr.exitThen (Tr.exitThen (Tr.exitBlock (Tr.normThen ?_))))
   refine Tr.seq ?_
   refine Tr.sr ?_
   refine Tr.mv rfl rfl ?_
   refine Tr.asg rfl rfl ?_
   refine Tr.nil (Tr.normThen ?_)
   refine Tr.block ?_
   refine Tr.loop (σ := (List TRow) × Int) (fun m w s => F_slices_symMergeCmpFunc_row__Of_2__Of_1_L2 x120 m s.1 s.2 = some r ∧ (s.1).length = (p0).length) (fun s => [(0, (.slice Ap0_0 (s.1).length cp0_0)), (10, (iv x120)), (13, (iv s.2))]) (fun s => [(0, ow Ap0_0 cp0_0 45 fl_TRow s.1)]) N (p0, p1) ⟨H, rfl⟩ (.r rfl) (.r rfl) (fun _ _ h => noSome (h.1)) ?_
   intro w leL2 mL2 s hs
   obtain ⟨l153, x154⟩ := s
   obtain ⟨H, hl153⟩ := hs
   replace H : F_slices_symMergeCmpFunc_row__Of_2__Of_1_L2 x120 (mL2 + 1) l153 x154 = some r := H
   replace leB := leB.trans leL2
   replace leL1 := leL1.trans leL2
   replace hl153 : (l153).length = (p0).length := hl153
   have hfl153 : SlF Ap0_0 (l153).length cp0_0 := (by rw [hl153]; exact hfhp0_0)
   rw [F_slices_symMergeCmpFunc_row__Of_2__Of_1_L2.eq_2] at H
   show Tr _ _ (LF [(0, (.slice Ap0_0 (l153).length cp0_0)), (10, (iv x120)), (13, (iv x154))]) (LE [(0, ow Ap0_0 cp0_0 45 fl_TRow l153)]) _
   refine Tr.seq ?_
   refine Tr.sr ?_
   refine Tr.mv rfl rfl ?_
   refine Tr.mv rfl rfl ?_
   refine Tr.v2 rfl run_sub rfl rfl ?_
   refine Tr.v2 rfl run_lss rfl rfl ?_
   refine Tr.nil (Tr.normThen ?_)
   refine Tr.cond rfl H (fun H => ?_) (fun H => ?_)
   ·refine Tr.skip (Tr.normThen ?_)
    refine Tr.seq ?_
    refine Tr.block ?_
    refine Tr.drawC 16 [(15, (ow Ap0_0 cp0_0 45 fl_TRow l153).S)] [] (by kernel_rfl) (by kernel_rfl) fun sz155 hlosz155 hEsz155 => ?_
    refine Dr.quiet 0 [(61, (.slice Ap0_0 (l153).length cp0_0))] (by kernel_rfl) rfl rfl (by kernel_rfl) ?_ rfl rfl ?_
    ·refine Tq.mv rfl rfl ?_
     exact Tq.fin (.r rfl)
    refine Dr.quiet 1 [(62, (iv x154))] (by kernel_rfl) rfl rfl (by kernel_rfl) ?_ rfl rfl ?_
    ·refine Tq.mv rfl rfl ?_
     exact Tq.fin (.r rfl)
    refine Dr.quietP 2 (by kernel_rfl) rfl (wn rfl) rfl (by kernel_rfl) (fun _ _ h1 => run_move (h1.ev rfl)) rfl ?_
    refine Dr.quietP 3 (by kernel_rfl) rfl (wn rfl) rfl (by kernel_rfl) (fun _ _ h1 => run_move (h1.ev rfl)) rfl ?_
    refine Dr.quietP 4 (by kernel_rfl) rfl (wn rfl) rfl (by kernel_rfl) (fun _ _ h1 => run_add (h1.ev rfl) (h1.ev rfl)) rfl ?_
    refine Dr.quiet 5 [(66, (.slice Ap0_0 (l153).length cp0_0))] (by kernel_rfl) rfl rfl (by kernel_rfl) ?_ rfl rfl ?_
    ·refine Tq.mv rfl rfl ?_
     exact Tq.fin (.r rfl)
    refine Dr.quiet 6 [(67, (iv x154))] (by kernel_rfl) rfl rfl (by kernel_rfl) ?_ rfl rfl ?_
    ·refine Tq.mv rfl rfl ?_
     exact Tq.fin (.r rfl)
    refine Dr.quiet 7 [(68, (iv (w64 (x154 + 1))))] (by kernel_rfl) rfl rfl (by kernel_rfl) ?_ rfl rfl ?_
    ·refine Tq.v2 rfl run_add rfl rfl ?_
     exact Tq.fin (.r rfl)
    obtain ⟨x156, hx156, H⟩ := bnd H
    obtain ⟨hx1560, hx1561, hx1562⟩ := idx_some hx156
    refine Dr.quiet 8 [(69, (.pointer (some ⟨adB Ap0_0, adO Ap0_0 + ((w64 (x154 + 1))).toNat * 2, none⟩)))] (by kernel_rfl) rfl rfl (by kernel_rfl) ?_ rfl rfl ?_
    ·refine Tq.va rfl (fun _ _ h1 h2 => run_indexAddr el_42 (h1.ev rfl) hfl153 (h1.ev rfl) hx1560 hx1561) ?_
     exact Tq.fin (.r rfl)
    refine Dr.quietE 9 (U := (fl_TRow).Ad) (fun u => (fl_TRow).ok w.O w.W u x156) (fun u => (.agg #[(.slice u.1 (x156.points).length u.2), (iv x156.area)])) (by kernel_rfl) rfl (wn rfl) rfl (by kernel_rfl) (ldN (κ := 0) (t := fl_TRow) (V := fun u => (.agg #[(.slice u.1 (x156.points).length u.2), (iv x156.area)])) rfl hx1562 (fun _ _ u h1 hc => run_loadN (cs := [(.slice u.1 (x156.points).length u.2), (iv x156.area)]) ag_45 sz_45 (h1.ev rfl) (CellsAt.take hc 2) rfl)) ?_
    intro u157 hoku157
    obtain ⟨Au157_0, cu157_0⟩ := u157
    have hoku157_0 := hoku157
    replace hoku157_0 : Sl w.O w.W fl_TPoint Au157_0 cu157_0 x156.points := hoku157_0
    show Dr _ _ _ _ _ _ _ _ _ (uf _ 70 (.agg #[(.slice Au157_0 (x156.points).length cu157_0), (iv x156.area)])) _
    refine Dr.quietP 10 (by kernel_rfl) rfl (wn rfl) rfl (by kernel_rfl) (fun _ _ h1 => run_move (h1.ev rfl)) rfl ?_
    refine Dr.quietP 11 (by kernel_rfl) rfl (wn rfl) rfl (by kernel_rfl) (fun _ _ h1 => run_move (h1.ev rfl)) rfl ?_
    obtain ⟨x158, hx158, H⟩ := bnd H
    obtain ⟨hx1580, hx1581, hx1582⟩ := idx_some hx158
    refine Dr.quietP 12 (by kernel_rfl) rfl (wn rfl) rfl (by kernel_rfl) (fun _ _ h1 => run_indexAddr el_42 (h1.ev rfl) hfl153 (h1.ev rfl) hx1580 hx1581) rfl ?_
    refine Dr.quietE 13 (U := (fl_TRow).Ad) (fun u => (fl_TRow).ok w.O w.W u x158) (fun u => (.agg #[(.slice u.1 (x158.points).length u.2), (iv x158.area)])) (by kernel_rfl) rfl (wn rfl) rfl (by kernel_rfl) (ldN (κ := 0) (t := fl_TRow) (V := fun u => (.agg #[(.slice u.1 (x158.points).length u.2), (iv x158.area)])) rfl hx1582 (fun _ _ u h1 hc => run_loadN (cs := [(.slice u.1 (x158.points).length u.2), (iv x158.area)]) ag_45 sz_45 (h1.ev rfl) (CellsAt.take hc 2) rfl)) ?_
    intro u159 hoku159
    obtain ⟨Au159_0, cu159_0⟩ := u159
    have hoku159_0 := hoku159
    replace hoku159_0 : Sl w.O w.W fl_TPoint Au159_0 cu159_0 x158.points := hoku159_0
    show Dr _ _ _ _ _ _ _ _ _ (uf _ 74 (.agg #[(.slice Au159_0 (x158.points).length cu159_0), (iv x158.area)])) _
    obtain ⟨x160, hx160, H⟩ := bnd H
    obtain ⟨hx1600, hx1601, hx1602⟩ := idx_some hx160
    refine Dr.quiet 14 [(75, (.pointer (some ⟨adB Ap0_0, adO Ap0_0 + (x154).toNat * 2, none⟩)))] (by kernel_rfl) rfl rfl (by kernel_rfl) ?_ rfl rfl ?_
    ·refine Tq.va rfl (fun _ _ h1 h2 => run_indexAddr el_42 (h1.ev rfl) hfl153 (h1.ev rfl) hx1600 hx1601) ?_
     exact Tq.fin (.r rfl)
    obtain ⟨l161, hl161, H⟩ := bnd H
    refine Dr.one 15 (by kernel_rfl) ?_
    have hnl161 := sets_len hl161
    refine St.storeEl 15 0 (t' := fl_TRow) (ll := l153) (ix := x154) (fo := 0) (cs := [(.slice Au157_0 (x156.points).length cu157_0), (iv x156.area)]) x156 (fun b hb => .inl ⟨_, List.mem_cons_self, rfl, hb⟩) rfl (wn rfl) rfl rfl rfl rfl rfl hx1602 sz_45 rfl (fun u hu => ⟨(Au157_0, cu157_0), hoku157_0, rfl⟩) rfl hl161 ?_
    have hfl161 : SlF Ap0_0 (l161).length cp0_0 := by rw [hnl161]; exact hfl153
    have hsl161 := hnl161.trans hl153
    refine Dr.use (lf := [(0, (.slice Ap0_0 (l161).length cp0_0)), (10, (iv x120)), (13, (iv x154)), (55, (iv x154)), (56, (iv x120)), (57, (iv (w64 (x120 - 1)))), (58, (.bool (decide (x154 < (w64 (x120 - 1)))))), (61, (.slice Ap0_0 (l161).length cp0_0)), (62, (iv x154)), (63, (.slice Ap0_0 (l161).length cp0_0)), (64, (iv x154)), (65, (iv (w64 (x154 + 1)))), (66, (.slice Ap0_0 (l161).length cp0_0)), (67, (iv x154)), (68, (iv (w64 (x154 + 1)))), (70, (.agg #[(.slice Au157_0 (x156.points).length cu157_0), (iv x156.area)])), (71, (.slice Ap0_0 (l161).length cp0_0)), (72, (iv x154)), (74, (.agg #[(.slice Au159_0 (x158.points).length cu159_0), (iv x158.area)]))]) (le := [(0, ow Ap0_0 cp0_0 45 fl_TRow l161)]) ?_ rfl (.cons (slenV rfl (by rw [hnl161])) (.cons rfl (.cons rfl (.cons rfl (.cons rfl (.cons rfl (.cons rfl (.cons (slenV rfl (by rw [hnl161])) (.cons rfl (.cons (slenV rfl (by rw [hnl161])) (.cons rfl (.cons rfl (.cons (slenV rfl (by rw [hnl161])) (.cons rfl (.cons rfl (.cons rfl (.cons (slenV rfl (by rw [hnl161])) (.r rfl)))))))))))))))))) (.r rfl)
    refine Dr.tail (by kernel_rfl) ?_
    obtain ⟨x162, hx162, H⟩ := bnd H
    obtain ⟨hx1620, hx1621, hx1622⟩ := idx_some hx162
    refine Tr.va rfl (fun _ _ h1 h2 => run_indexAddr el_42 (h1.ev rfl) hfl161 (h1.ev rfl) hx1620 hx1621) ?_
    obtain ⟨l163, hl163, H⟩ := bnd H
    have hnl163 := sets_len hl163
    refine Tr.storeEl 0 (t := fl_TRow) (l := l161) (i := (w64 (x154 + 1))) (fo := 0) (cs := [(.slice Au159_0 (x158.points).length cu159_0), (iv x158.area)]) x158 (wn rfl) rfl rfl rfl rfl rfl hx1622 sz_45 rfl (fun u hu => ⟨(Au159_0, cu159_0), hoku159_0, rfl⟩) rfl hl163 ?_
    have hfl163 : SlF Ap0_0 (l163).length cp0_0 := by rw [hnl163]; exact hfl161
    have hsl163 := hnl163.trans hsl161
    refine Tr.sel (lf := [(0, (.slice Ap0_0 (l163).length cp0_0)), (10, (iv x120)), (13, (iv x154)), (55, (iv x154)), (56, (iv x120)), (57, (iv (w64 (x120 - 1)))), (58, (.bool (decide (x154 < (w64 (x120 - 1)))))), (61, (.slice Ap0_0 (l163).length cp0_0)), (62, (iv x154)), (63, (.slice Ap0_0 (l163).length cp0_0)), (64, (iv x154)), (65, (iv (w64 (x154 + 1)))), (66, (.slice Ap0_0 (l163).length cp0_0)), (67, (iv x154)), (68, (iv (w64 (x154 + 1)))), (70, (.agg #[(.slice Au157_0 (x156.points).length cu157_0), (iv x156.area)])), (71, (.slice Ap0_0 (l163).length cp0_0)), (72, (iv x154)), (74, (.agg #[(.slice Au159_0 (x158.points).length cu159_0), (iv x158.area)]))]) (le := [(0, ow Ap0_0 cp0_0 45 fl_TRow l163)]) (.cons (slenV rfl (by rw [hnl163])) (.cons rfl (.cons rfl (.cons rfl (.cons rfl (.cons rfl (.cons rfl (.cons (slenV rfl (by rw [hnl163])) (.cons rfl (.cons (slenV rfl (by rw [hnl163])) (.cons rfl (.cons rfl (.cons (slenV rfl (by rw [hnl163])) (.cons rfl (.cons rfl (.cons rfl (.cons (slenV rfl (by rw [hnl163])) (.r rfl)))))))))))))))))) (.r rfl) ?_
    refine Tr.nil (Tr.normBlock (Tr.normThen ?_))
    refine Tr.region ?_
    refine Tr.mv rfl rfl ?_
    refine Tr.v2 rfl run_add rfl rfl ?_
    refine Tr.asg rfl rfl ?_
    refine Tr.nil ?_
    exact Tr.backThen leL2 (l163, (w64 (x154 + 1))) ⟨H, hsl163⟩ (.r rfl) (.r rfl)
   ·refine Tr.exit (Tr.exitThen (Tr.exitThen (Tr.exitBlock (Tr.normThen ?_))))
    refine Tr.ret (Tr.retThen ?_)
    obtain rfl := Option.some.inj H
    exact Tr.out (m := []) [] res_nil (fun W hW => ⟨w, (), leB, rfl, hl153, hW.pick (ks := [0]) (by decide) (pk_cons rfl pk_nil)⟩)
 ·refine Tr.skip (Tr.normThen ?_)
  refine Tr.seq ?_
  refine Tr.sr ?_
  refine Tr.mv rfl rfl ?_
  refine Tr.mv rfl rfl ?_
  refine Tr.v2 rfl run_sub rfl rfl ?_
  refine Tr.v2 rfl run_eql rfl rfl ?_
  refine Tr.nil (Tr.normThen ?_)
  refine Tr.cond rfl H (fun H => ?_) (fun H => ?_)
  ·refine Tr.sr ?_
   refine Tr.mv rfl rfl ?_
   refine Tr.asg rfl rfl ?_
   refine Tr.nil (Tr.normThen ?_)
   refine Tr.sr ?_
   refine Tr.mv rfl rfl ?_
   refine Tr.asg rfl rfl ?_
   refine Tr.nil (Tr.normThen ?_)
   refine Tr.seq ?_
   refine Tr.block ?_
   refine Tr.loop (σ := Int × Int) (fun m w s => F_slices_symMergeCmpFunc_row__Of_2__Of_1_L3 N p0 p2 m s.1 s.2 = some r) (fun s => [(0, (.slice Ap0_0 (p0).length cp0_0)), (2, (iv p2)), (4, (.func (.func 15) #[] #[(.pointer (some ⟨bq0, 0, none⟩))])), (14, (iv s.1)), (15, (iv s.2))]) (fun s => [(0, ow Ap0_0 cp0_0 45 fl_TRow p0)]) N (p1, p2) H (.r rfl) (.r rfl) (fun _ _ h => noSome (h)) ?_
   intro w leL3 mL3 s hs
   obtain ⟨x184, x185⟩ := s
   have H := hs
   replace H : F_slices_symMergeCmpFunc_row__Of_2__Of_1_L3 N p0 p2 (mL3 + 1) x184 x185 = some r := H
   replace hc0 := leL3.ext.cells hb0 hc0
   replace hb0 := leL3.r _ hb0
   replace leB := leB.trans leL3
   rw [F_slices_symMergeCmpFunc_row__Of_2__Of_1_L3.eq_2] at H
   show Tr _ _ (LF [(0, (.slice Ap0_0 (p0).length cp0_0)), (2, (iv p2)), (4, (.func (.func 15) #[] #[(.pointer (some ⟨bq0, 0, none⟩))])), (14, (iv x184)), (15, (iv x185))]) (LE [(0, ow Ap0_0 cp0_0 45 fl_TRow p0)]) _
   refine Tr.seq ?_
   refine Tr.sr ?_
   refine Tr.mv rfl rfl ?_
   refine Tr.mv rfl rfl ?_
   refine Tr.v2 rfl run_lss rfl rfl ?_
   refine Tr.nil (Tr.normThen ?_)
   refine Tr.cond rfl H (fun H => ?_) (fun H => ?_)
   ·refine Tr.skip (Tr.normThen ?_)
    refine Tr.block ?_
    refine Tr.sr ?_
    refine Tr.mv rfl rfl ?_
    refine Tr.mv rfl rfl ?_
    refine Tr.v2 rfl run_add rfl rfl ?_
    obtain ⟨q186, hq186, H⟩ := bnd H
    refine Tr.va rfl (fun _ _ h1 h2 => run_toU un_3 un_158 (h1.ev rfl) hq186) ?_
    refine Tr.v2 rfl run_half rfl rfl ?_
    obtain ⟨q187, hq187, H⟩ := bnd H
    refine Tr.va rfl (fun _ _ h1 h2 => run_ofU un_158 un_3 (h1.ev rfl) hq187) ?_
    refine Tr.asg rfl rfl ?_
    refine Tr.nil (Tr.normThen ?_)
    refine Tr.seq ?_
    refine Tr.draw (by kernel_rfl) (by kernel_rfl) ?_
    refine Tq.mv rfl rfl ?_
    refine Tq.mv rfl rfl ?_
    refine Tq.mv rfl rfl ?_
    obtain ⟨x188, hx188, H⟩ := bnd H
    obtain ⟨hx1880, hx1881, hx1882⟩ := idx_some hx188
    refine Tq.va rfl (fun _ _ h1 h2 => run_indexAddr el_42 (h1.ev rfl) hfhp0_0 (h1.ev rfl) hx1880 hx1881) ?_
    refine Tq.valE (U := (fl_TRow).Ad) (fun u => (fl_TRow).ok w.O w.W u x188) (fun u => (.agg #[(.slice u.1 (x188.points).length u.2), (iv x188.area)])) (wn rfl) rfl (ldN (κ := 0) (t := fl_TRow) (V := fun u => (.agg #[(.slice u.1 (x188.points).length u.2), (iv x188.area)])) rfl hx1882 (fun _ _ u h1 hc => run_loadN (cs := [(.slice u.1 (x188.points).length u.2), (iv x188.area)]) ag_45 sz_45 (h1.ev rfl) (CellsAt.take hc 2) rfl)) ?_
    intro u189 hoku189
    obtain ⟨Au189_0, cu189_0⟩ := u189
    have hoku189_0 := hoku189
    replace hoku189_0 : Sl w.O w.W fl_TPoint Au189_0 cu189_0 x188.points := hoku189_0
    show Tq _ _ _ _ (uf _ 96 (.agg #[(.slice Au189_0 (x188.points).length cu189_0), (iv x188.area)])) _ _ _
    refine Tq.mv rfl rfl ?_
    refine Tq.mv rfl rfl ?_
    obtain ⟨x190, hx190, H⟩ := bnd H
    obtain ⟨hx1900, hx1901, hx1902⟩ := idx_some hx190
    refine Tq.va rfl (fun _ _ h1 h2 => run_indexAddr el_42 (h1.ev rfl) hfhp0_0 (h1.ev rfl) hx1900 hx1901) ?_
    refine Tq.valE (U := (fl_TRow).Ad) (fun u => (fl_TRow).ok w.O w.W u x190) (fun u => (.agg #[(.slice u.1 (x190.points).length u.2), (iv x190.area)])) (wn rfl) rfl (ldN (κ := 0) (t := fl_TRow) (V := fun u => (.agg #[(.slice u.1 (x190.points).length u.2), (iv x190.area)])) rfl hx1902 (fun _ _ u h1 hc => run_loadN (cs := [(.slice u.1 (x190.points).length u.2), (iv x190.area)]) ag_45 sz_45 (h1.ev rfl) (CellsAt.take hc 2) rfl)) ?_
    intro u191 hoku191
    obtain ⟨Au191_0, cu191_0⟩ := u191
    have hoku191_0 := hoku191
    replace hoku191_0 : Sl w.O w.W fl_TPoint Au191_0 cu191_0 x190.points := hoku191_0
    show Tq _ _ _ _ (uf _ 100 (.agg #[(.slice Au191_0 (x190.points).length cu191_0), (iv x190.area)])) _ _ _
    obtain ⟨y192, hy192, H⟩ := bnd H
    refine Tq.callF (r := (iv y192)) (wn rfl) rfl rfl Tryz.call15 (evl_cons rfl (evl_cons rfl evl_nil)) (fun W hW => F_plot_Of_2__Of_1_ok x188 Au189_0 cu189_0 (hoku189_0.rl.ext hW.extAll) x190 Au191_0 cu191_0 (hoku191_0.rl.ext hW.extAll) bq0 (hW.extAll.r _ hb0) (hW.extAll.cells hb0 hc0) y192 hy192 (HF.start _)) ?_
    refine Tq.v2 rfl run_lss rfl rfl ?_
    refine Tq.v1 rfl run_not rfl ?_
    refine Tq.nil (Tr.normThen ?_)
    refine Tr.cond rfl H (fun H => ?_) (fun H => ?_)
    ·refine Tr.region ?_
     refine Tr.mv rfl rfl ?_
     refine Tr.v2 rfl run_add rfl rfl ?_
     refine Tr.asg rfl rfl ?_
     refine Tr.nil (Tr.normBlock ?_)
     exact Tr.backThen leL3 ((w64 (q187 + 1)), x185) H (.r rfl) (.r rfl)
    ·refine Tr.region ?_
     refine Tr.mv rfl rfl ?_
     refine Tr.asg rfl rfl ?_
     refine Tr.nil (Tr.normBlock ?_)
     exact Tr.backThen leL3 (x184, q187) H (.r rfl) (.r rfl)
   ·refine Tr.exit (Tr.exitThen (Tr.exitThen (Tr.exitBlock (Tr.normThen ?_))))
    refine Tr.seq ?_
    refine Tr.sr ?_
    refine Tr.mv rfl rfl ?_
    refine Tr.asg rfl rfl ?_
    refine Tr.nil (Tr.normThen ?_)
    refine Tr.block ?_
    refine Tr.loop (σ := (List TRow) × Int) (fun m w s => F_slices_symMergeCmpFunc_row__Of_2__Of_1_L4 x184 m s.1 s.2 = some r ∧ (s.1).length = (p0).length) (fun s => [(0, (.slice Ap0_0 (s.1).length cp0_0)), (14, (iv x184)), (17, (iv s.2))]) (fun s => [(0, ow Ap0_0 cp0_0 45 fl_TRow s.1)]) N (p0, p2) ⟨H, rfl⟩ (.r rfl) (.r rfl) (fun _ _ h => noSome (h.1)) ?_
    intro w leL4 mL4 s hs
    obtain ⟨l217, x218⟩ := s
    obtain ⟨H, hl217⟩ := hs
    replace H : F_slices_symMergeCmpFunc_row__Of_2__Of_1_L4 x184 (mL4 + 1) l217 x218 = some r := H
    replace leB := leB.trans leL4
    replace leL3 := leL3.trans leL4
    replace hl217 : (l217).length = (p0).length := hl217
    have hfl217 : SlF Ap0_0 (l217).length cp0_0 := (by rw [hl217]; exact hfhp0_0)
    rw [F_slices_symMergeCmpFunc_row__Of_2__Of_1_L4.eq_2] at H
    show Tr _ _ (LF [(0, (.slice Ap0_0 (l217).length cp0_0)), (14, (iv x184)), (17, (iv x218))]) (LE [(0, ow Ap0_0 cp0_0 45 fl_TRow l217)]) _
    refine Tr.seq ?_
    refine Tr.sr ?_
    refine Tr.mv rfl rfl ?_
    refine Tr.mv rfl rfl ?_
    refine Tr.v2 rfl run_gtr rfl rfl ?_
    refine Tr.nil (Tr.normThen ?_)
    refine Tr.cond rfl H (fun H => ?_) (fun H => ?_)
    ·refine Tr.skip (Tr.normThen ?_)
     refine Tr.seq ?_
     refine Tr.block ?_
     refine Tr.drawC 16 [(15, (ow Ap0_0 cp0_0 45 fl_TRow l217).S)] [] (by kernel_rfl) (by kernel_rfl) fun sz219 hlosz219 hEsz219 => ?_
     refine Dr.quiet 0 [(113, (.slice Ap0_0 (l217).length cp0_0))] (by kernel_rfl) rfl rfl (by kernel_rfl) ?_ rfl rfl ?_
     ·refine Tq.mv rfl rfl ?_
      exact Tq.fin (.r rfl)
     refine Dr.quiet 1 [(114, (iv x218))] (by kernel_rfl) rfl rfl (by kernel_rfl) ?_ rfl rfl ?_
     ·refine Tq.mv rfl rfl ?_
      exact Tq.fin (.r rfl)
     refine Dr.quietP 2 (by kernel_rfl) rfl (wn rfl) rfl (by kernel_rfl) (fun _ _ h1 => run_move (h1.ev rfl)) rfl ?_
     refine Dr.quietP 3 (by kernel_rfl) rfl (wn rfl) rfl (by kernel_rfl) (fun _ _ h1 => run_move (h1.ev rfl)) rfl ?_
     refine Dr.quietP 4 (by kernel_rfl) rfl (wn rfl) rfl (by kernel_rfl) (fun _ _ h1 => run_sub (h1.ev rfl) (h1.ev rfl)) rfl ?_
     refine Dr.quiet 5 [(118, (.slice Ap0_0 (l217).length cp0_0))] (by kernel_rfl) rfl rfl (by kernel_rfl) ?_ rfl rfl ?_
     ·refine Tq.mv rfl rfl ?_
      exact Tq.fin (.r rfl)
     refine Dr.quiet 6 [(119, (iv x218))] (by kernel_rfl) rfl rfl (by kernel_rfl) ?_ rfl rfl ?_
     ·refine Tq.mv rfl rfl ?_
      exact Tq.fin (.r rfl)
     refine Dr.quiet 7 [(120, (iv (w64 (x218 - 1))))] (by kernel_rfl) rfl rfl (by kernel_rfl) ?_ rfl rfl ?_
     ·refine Tq.v2 rfl run_sub rfl rfl ?_
      exact Tq.fin (.r rfl)
     obtain ⟨x220, hx220, H⟩ := bnd H
     obtain ⟨hx2200, hx2201, hx2202⟩ := idx_some hx220
     refine Dr.quiet 8 [(121, (.pointer (some ⟨adB Ap0_0, adO Ap0_0 + ((w64 (x218 - 1))).toNat * 2, none⟩)))] (by kernel_rfl) rfl rfl (by kernel_rfl) ?_ rfl rfl ?_
     ·refine Tq.va rfl (fun _ _ h1 h2 => run_indexAddr el_42 (h1.ev rfl) hfl217 (h1.ev rfl) hx2200 hx2201) ?_
      exact Tq.fin (.r rfl)
     refine Dr.quietE 9 (U := (fl_TRow).Ad) (fun u => (fl_TRow).ok w.O w.W u x220) (fun u => (.agg #[(.slice u.1 (x220.points).length u.2), (iv x220.area)])) (by kernel_rfl) rfl (wn rfl) rfl (by kernel_rfl) (ldN (κ := 0) (t := fl_TRow) (V := fun u => (.agg #[(.slice u.1 (x220.points).length u.2), (iv x220.area)])) rfl hx2202 (fun _ _ u h1 hc => run_loadN (cs := [(.slice u.1 (x220.points).length u.2), (iv x220.area)]) ag_45 sz_45 (h1.ev rfl) (CellsAt.take hc 2) rfl)) ?_
     intro u221 hoku221
     obtain ⟨Au221_0, cu221_0⟩ := u221
     have hoku221_0 := hoku221
     replace hoku221_0 : Sl w.O w.W fl_TPoint Au221_0 cu221_0 x220.points := hoku221_0
     show Dr _ _ _ _ _ _ _ _ _ (uf _ 122 (.agg #[(.slice Au221_0 (x220.points).length cu221_0), (iv x220.area)])) _
     refine Dr.quietP 10 (by kernel_rfl) rfl (wn rfl) rfl (by kernel_rfl) (fun _ _ h1 => run_move (h1.ev rfl)) rfl ?_
     refine Dr.quietP 11 (by kernel_rfl) rfl (wn rfl) rfl (by kernel_rfl) (fun _ _ h1 => run_move (h1.ev rfl)) rfl ?_
     obtain ⟨x222, hx222, H⟩ := bnd H
     obtain ⟨hx2220, hx2221, hx2222⟩ := idx_some hx222
     refine Dr.quietP 12 (by kernel_rfl) rfl (wn rfl) rfl (by kernel_rfl) (fun _ _ h1 => run_indexAddr el_42 (h1.ev rfl) hfl217 (h1.ev rfl) hx2220 hx2221) rfl ?_
     refine Dr.quietE 13 (U := (fl_TRow).Ad) (fun u => (fl_TRow).ok w.O w.W u x222) (fun u => (.agg #[(.slice u.1 (x222.points).length u.2), (iv x222.area)])) (by kernel_rfl) rfl (wn rfl) rfl (by kernel_rfl) (ldN (κ := 0) (t := fl_TRow) (V := fun u => (.agg #[(.slice u.1 (x222.points).length u.2), (iv x222.area)])) rfl hx2222 (fun _ _ u h1 hc => run_loadN (cs := [(.slice u.1 (x222.points).length u.2), (iv x222.area)]) ag_45 sz_45 (h1.ev rfl) (CellsAt.take hc 2) rfl)) ?_
     intro u223 hoku223
     obtain ⟨Au223_0, cu223_0⟩ := u223
     have hoku223_0 := hoku223
     replace hoku223_0 : Sl w.O w.W fl_TPoint Au223_0 cu223_0 x222.points := hoku223_0
     show Dr _ _ _ _ _ _ _ _ _ (uf _ 126 (.agg #[(.slice Au223_0 (x222.points).length cu223_0), (iv x222.area)])) _
     obtain ⟨x224, hx224, H⟩ := bnd H
     obtain ⟨hx2240, hx2241, hx2242⟩ := idx_some hx224
     refine Dr.quiet 14 [(127, (.pointer (some ⟨adB Ap0_0, adO Ap0_0 + (x218).toNat * 2, none⟩)))] (by kernel_rfl) rfl rfl (by kernel_rfl) ?_ rfl rfl ?_
     ·refine Tq.va rfl (fun _ _ h1 h2 => run_indexAddr el_42 (h1.ev rfl) hfl217 (h1.ev rfl) hx2240 hx2241) ?_
      exact Tq.fin (.r rfl)
     obtain ⟨l225, hl225, H⟩ := bnd H
     refine Dr.one 15 (by kernel_rfl) ?_
     have hnl225 := sets_len hl225
     refine St.storeEl 15 0 (t' := fl_TRow) (ll := l217) (ix := x218) (fo := 0) (cs := [(.slice Au221_0 (x220.points).length cu221_0), (iv x220.area)]) x220 (fun b hb => .inl ⟨_, List.mem_cons_self, rfl, hb⟩) rfl (wn rfl) rfl rfl rfl rfl rfl hx2242 sz_45 rfl (fun u hu => ⟨(Au221_0, cu221_0), hoku221_0, rfl⟩) rfl hl225 ?_
     have hfl225 : SlF Ap0_0 (l225).length cp0_0 := by rw [hnl225]; exact hfl217
     have hsl225 := hnl225.trans hl217
     refine Dr.use (lf := [(0, (.slice Ap0_0 (l225).length cp0_0)), (14, (iv x184)), (17, (iv x218)), (108, (iv x218)), (109, (iv x184)), (110, (.bool (decide (x184 < x218)))), (113, (.slice Ap0_0 (l225).length cp0_0)), (114, (iv x218)), (115, (.slice Ap0_0 (l225).length cp0_0)), (116, (iv x218)), (117, (iv (w64 (x218 - 1)))), (118, (.slice Ap0_0 (l225).length cp0_0)), (119, (iv x218)), (120, (iv (w64 (x218 - 1)))), (122, (.agg #[(.slice Au221_0 (x220.points).length cu221_0), (iv x220.area)])), (123, (.slice Ap0_0 (l225).length cp0_0)), (124, (iv x218)), (126, (.agg #[(.slice Au223_0 (x222.points).length cu223_0), (iv x222.area)]))]) (le := [(0, ow Ap0_0 cp0_0 45 fl_TRow l225)]) ?_ rfl (.cons (slenV rfl (by rw [hnl225])) (.cons rfl (.cons rfl (.cons rfl (.cons rfl (.cons rfl (.cons (slenV rfl (by rw [hnl225])) (.cons rfl (.cons (slenV rfl (by rw [hnl225])) (.cons rfl (.cons rfl (.cons (slenV rfl (by rw [hnl225])) (.cons rfl (.cons rfl (.cons rfl (.cons (slenV rfl (by rw [hnl225])) (.r rfl))))))))))))))))) (.r rfl)
     refine Dr.tail (by kernel_rfl) ?_
     obtain ⟨x226, hx226, H⟩ := bnd H
     obtain ⟨hx2260, hx2261, hx2262⟩ := idx_some hx226
     refine Tr.va rfl (fun _ _ h1 h2 => run_indexAddr el_42 (h1.ev rfl) hfl225 (h1.ev rfl) hx2260 hx2261) ?_
     obtain ⟨l227, hl227, H⟩ := bnd H
     have hnl227 := sets_len hl227
     refine Tr.storeEl 0 (t := fl_TRow) (l := l225) (i := (w64 (x218 - 1))) (fo := 0) (cs := [(.slice Au223_0 (x222.points).length cu223_0), (iv x222.area)]) x222 (wn rfl) rfl rfl rfl rfl rfl hx2262 sz_45 rfl (fun u hu => ⟨(Au223_0, cu223_0), hoku223_0, rfl⟩) rfl hl227 ?_
     have hfl227 : SlF Ap0_0 (l227).length cp0_0 := by rw [hnl227]; exact hfl225
     have hsl227 := hnl227.trans hsl225
     refine Tr.sel (lf := [(0, (.slice Ap0_0 (l227).length cp0_0)), (14, (iv x184)), (17, (iv x218)), (108, (iv x218)), (109, (iv x184)), (110, (.bool (decide (x184 < x218)))), (113, (.slice Ap0_0 (l227).length cp0_0)), (114, (iv x218)), (115, (.slice Ap0_0 (l227).length cp0_0)), (116, (iv x218)), (117, (iv (w64 (x218 - 1)))), (118, (.slice Ap0_0 (l227).length cp0_0)), (119, (iv x218)), (120, (iv (w64 (x218 - 1)))), (122, (.agg #[(.slice Au221_0 (x220.points).length cu221_0), (iv x220.area)])), (123, (.slice Ap0_0 (l227).length cp0_0)), (124, (iv x218)), (126, (.agg #[(.slice Au223_0 (x222.points).length cu223_0), (iv x222.area)]))]) (le := [(0, ow Ap0_0 cp0_0 45 fl_TRow l227)]) (.cons (slenV rfl (by rw [hnl227])) (.cons rfl (.cons rfl (.cons rfl (.cons rfl (.cons rfl (.cons (slenV rfl (by rw [hnl227])) (.cons rfl (.cons (slenV rfl (by rw [hnl227])) (.cons rfl (.cons rfl (.cons (slenV rfl (by rw [hnl227])) (.cons rfl (.cons rfl (.cons rfl (.cons (slenV rfl (by rw [hnl227])) (.r rfl))))))))))))))))) (.r rfl) ?_
     refine Tr.nil (Tr.normBlock (Tr.normThen ?_))
     refine Tr.region ?_
     refine Tr.mv rfl rfl ?_
     refine Tr.v2 rfl run_sub rfl rfl ?_
     refine Tr.asg rfl rfl ?_
     refine Tr.nil ?_
     exact Tr.backThen leL4 (l227, (w64 (x218 - 1))) ⟨H, hsl227⟩ (.r rfl) (.r rfl)
    ·refine Tr.exit (Tr.exitThen (Tr.exitThen (Tr.exitBlock (Tr.normThen ?_))))
     refine Tr.ret (Tr.retThen ?_)
     obtain rfl := Option.some.inj H
     exact Tr.out (m := []) [] res_nil (fun W hW => ⟨w, (), leB, rfl, hl217, hW.pick (ks := [0]) (by decide) (pk_cons rfl pk_nil)⟩)
  ·refine Tr.skip (Tr.normThen ?_)
   refine Tr.sr ?_
   refine Tr.mv rfl rfl ?_
   refine Tr.mv rfl rfl ?_
   refine Tr.v2 rfl run_add rfl rfl ?_
   obtain ⟨q228, hq228, H⟩ := bnd H
   refine Tr.va rfl (fun _ _ h1 h2 => run_toU un_3 un_158 (h1.ev rfl) hq228) ?_
   refine Tr.v2 rfl run_half rfl rfl ?_
   obtain ⟨q229, hq229, H⟩ := bnd H
   refine Tr.va rfl (fun _ _ h1 h2 => run_ofU un_158 un_3 (h1.ev rfl) hq229) ?_
   refine Tr.asg rfl rfl ?_
   refine Tr.nil (Tr.normThen ?_)
   refine Tr.sr ?_
   refine Tr.mv rfl rfl ?_
   refine Tr.mv rfl rfl ?_
   refine Tr.v2 rfl run_add rfl rfl ?_
   refine Tr.asg rfl rfl ?_
   refine Tr.nil (Tr.normThen ?_)
   refine Tr.sr ?_
   refine Tr.asg rfl rfl ?_
   refine Tr.asg rfl rfl ?_
   refine Tr.nil (Tr.normThen ?_)
   have leJ232 := Bs.Le.refl w
   refine Tr.cutJ (σ := Int × Int) (fun w s => F_slices_symMergeCmpFunc_row__Of_2__Of_1_J8 N p0 p1 p2 p3 rec q229 s.1 s.2 = some r) (fun s => [(0, (.slice Ap0_0 (p0).length cp0_0)), (1, (iv p1)), (2, (iv p2)), (3, (iv p3)), (4, (.func (.func 15) #[] #[(.pointer (some ⟨bq0, 0, none⟩))])), (18, (iv q229)), (19, (iv (w64 (q229 + p2)))), (20, (iv s.1)), (21, (iv s.2))]) (fun s => [(0, ow Ap0_0 cp0_0 45 fl_TRow p0)]) ?_ ?_
   ·refine Tr.sr ?_
    refine Tr.mv rfl rfl ?_
    refine Tr.mv rfl rfl ?_
    refine Tr.v2 rfl run_gtr rfl rfl ?_
    refine Tr.nil (Tr.normThen ?_)
    refine Tr.cond rfl H (fun H => ?_) (fun H => ?_)
    ·refine Tr.sr ?_
     refine Tr.mv rfl rfl ?_
     refine Tr.mv rfl rfl ?_
     refine Tr.v2 rfl run_sub rfl rfl ?_
     refine Tr.asg rfl rfl ?_
     refine Tr.nil (Tr.normThen ?_)
     refine Tr.region ?_
     refine Tr.mv rfl rfl ?_
     refine Tr.asg rfl rfl ?_
     refine Tr.nil ?_
     exact Tr.backThen leJ232 ((w64 ((w64 (q229 + p2)) - p3)), q229) H (.r rfl) (.r rfl)
    ·refine Tr.sr ?_
     refine Tr.mv rfl rfl ?_
     refine Tr.asg rfl rfl ?_
     refine Tr.nil (Tr.normThen ?_)
     refine Tr.region ?_
     refine Tr.mv rfl rfl ?_
     refine Tr.asg rfl rfl ?_
     refine Tr.nil ?_
     exact Tr.backThen leJ232 (p1, p2) H (.r rfl) (.r rfl)
   ·intro w s hlJ233 hs
    obtain ⟨x230, x231⟩ := s
    have H := hs
    replace H : F_slices_symMergeCmpFunc_row__Of_2__Of_1_J8 N p0 p1 p2 p3 rec q229 x230 x231 = some r := H
    replace hc0 := hlJ233.ext.cells hb0 hc0
    replace hb0 := hlJ233.r _ hb0
    replace leB := leB.trans hlJ233
    unfold F_slices_symMergeCmpFunc_row__Of_2__Of_1_J8 at H
    show Tr _ _ (LF [(0, (.slice Ap0_0 (p0).length cp0_0)), (1, (iv p1)), (2, (iv p2)), (3, (iv p3)), (4, (.func (.func 15) #[] #[(.pointer (some ⟨bq0, 0, none⟩))])), (18, (iv q229)), (19, (iv (w64 (q229 + p2)))), (20, (iv x230)), (21, (iv x231))]) (LE [(0, ow Ap0_0 cp0_0 45 fl_TRow p0)]) _
    refine Tr.sr ?_
    refine Tr.mv rfl rfl ?_
    refine Tr.v2 rfl run_sub rfl rfl ?_
    refine Tr.asg rfl rfl ?_
    refine Tr.nil (Tr.normThen ?_)
    refine Tr.seq ?_
    refine Tr.block ?_
    refine Tr.loop (σ := Int × Int) (fun m w s => F_slices_symMergeCmpFunc_row__Of_2__Of_1_L5 N p0 p1 p2 p3 rec q229 m s.1 s.2 = some r) (fun s => [(0, (.slice Ap0_0 (p0).length cp0_0)), (1, (iv p1)), (2, (iv p2)), (3, (iv p3)), (4, (.func (.func 15) #[] #[(.pointer (some ⟨bq0, 0, none⟩))])), (18, (iv q229)), (19, (iv (w64 (q229 + p2)))), (20, (iv s.1)), (21, (iv s.2)), (22, (iv (w64 ((w64 (q229 + p2)) - 1))))]) (fun s => [(0, ow Ap0_0 cp0_0 45 fl_TRow p0)]) N (x230, x231) H (.r rfl) (.r rfl) (fun _ _ h => noSome (h)) ?_
    intro w leL5 mL5 s hs
    obtain ⟨x254, x255⟩ := s
    have H := hs
    replace H : F_slices_symMergeCmpFunc_row__Of_2__Of_1_L5 N p0 p1 p2 p3 rec q229 (mL5 + 1) x254 x255 = some r := H
    replace hc0 := leL5.ext.cells hb0 hc0
    replace hb0 := leL5.r _ hb0
    replace leB := leB.trans leL5
    rw [F_slices_symMergeCmpFunc_row__Of_2__Of_1_L5.eq_2] at H
    show Tr _ _ (LF [(0, (.slice Ap0_0 (p0).length cp0_0)), (1, (iv p1)), (2, (iv p2)), (3, (iv p3)), (4, (.func (.func 15) #[] #[(.pointer (some ⟨bq0, 0, none⟩))])), (18, (iv q229)), (19, (iv (w64 (q229 + p2)))), (20, (iv x254)), (21, (iv x255)), (22, (iv (w64 ((w64 (q229 + p2)) - 1))))]) (LE [(0, ow Ap0_0 cp0_0 45 fl_TRow p0)]) _
    refine Tr.seq ?_
    refine Tr.sr ?_
    refine Tr.mv rfl rfl ?_
    refine Tr.mv rfl rfl ?_
    refine Tr.v2 rfl run_lss rfl rfl ?_
    refine Tr.nil (Tr.normThen ?_)
    refine Tr.cond rfl H (fun H => ?_) (fun H => ?_)
    ·refine Tr.skip (Tr.normThen ?_)
     refine Tr.block ?_
     refine Tr.sr ?_
     refine Tr.mv rfl rfl ?_
     refine Tr.mv rfl rfl ?_
     refine Tr.v2 rfl run_add rfl rfl ?_
     obtain ⟨q256, hq256, H⟩ := bnd H
     refine Tr.va rfl (fun _ _ h1 h2 => run_toU un_3 un_158 (h1.ev rfl) hq256) ?_
     refine Tr.v2 rfl run_half rfl rfl ?_
     obtain ⟨q257, hq257, H⟩ := bnd H
     refine Tr.va rfl (fun _ _ h1 h2 => run_ofU un_158 un_3 (h1.ev rfl) hq257) ?_
     refine Tr.asg rfl rfl ?_
     refine Tr.nil (Tr.normThen ?_)
     refine Tr.seq ?_
     refine Tr.draw (by kernel_rfl) (by kernel_rfl) ?_
     refine Tq.mv rfl rfl ?_
     refine Tq.mv rfl rfl ?_
     refine Tq.mv rfl rfl ?_
     refine Tq.mv rfl rfl ?_
     refine Tq.v2 rfl run_sub rfl rfl ?_
     obtain ⟨x258, hx258, H⟩ := bnd H
     obtain ⟨hx2580, hx2581, hx2582⟩ := idx_some hx258
     refine Tq.va rfl (fun _ _ h1 h2 => run_indexAddr el_42 (h1.ev rfl) hfhp0_0 (h1.ev rfl) hx2580 hx2581) ?_
     refine Tq.valE (U := (fl_TRow).Ad) (fun u => (fl_TRow).ok w.O w.W u x258) (fun u => (.agg #[(.slice u.1 (x258.points).length u.2), (iv x258.area)])) (wn rfl) rfl (ldN (κ := 0) (t := fl_TRow) (V := fun u => (.agg #[(.slice u.1 (x258.points).length u.2), (iv x258.area)])) rfl hx2582 (fun _ _ u h1 hc => run_loadN (cs := [(.slice u.1 (x258.points).length u.2), (iv x258.area)]) ag_45 sz_45 (h1.ev rfl) (CellsAt.take hc 2) rfl)) ?_
     intro u259 hoku259
     obtain ⟨Au259_0, cu259_0⟩ := u259
     have hoku259_0 := hoku259
     replace hoku259_0 : Sl w.O w.W fl_TPoint Au259_0 cu259_0 x258.points := hoku259_0
     show Tq _ _ _ _ (uf _ 164 (.agg #[(.slice Au259_0 (x258.points).length cu259_0), (iv x258.area)])) _ _ _
     refine Tq.mv rfl rfl ?_
     refine Tq.mv rfl rfl ?_
     obtain ⟨x260, hx260, H⟩ := bnd H
     obtain ⟨hx2600, hx2601, hx2602⟩ := idx_some hx260
     refine Tq.va rfl (fun _ _ h1 h2 => run_indexAddr el_42 (h1.ev rfl) hfhp0_0 (h1.ev rfl) hx2600 hx2601) ?_
     refine Tq.valE (U := (fl_TRow).Ad) (fun u => (fl_TRow).ok w.O w.W u x260) (fun u => (.agg #[(.slice u.1 (x260.points).length u.2), (iv x260.area)])) (wn rfl) rfl (ldN (κ := 0) (t := fl_TRow) (V := fun u => (.agg #[(.slice u.1 (x260.points).length u.2), (iv x260.area)])) rfl hx2602 (fun _ _ u h1 hc => run_loadN (cs := [(.slice u.1 (x260.points).length u.2), (iv x260.area)]) ag_45 sz_45 (h1.ev rfl) (CellsAt.take hc 2) rfl)) ?_
     intro u261 hoku261
     obtain ⟨Au261_0, cu261_0⟩ := u261
     have hoku261_0 := hoku261
     replace hoku261_0 : Sl w.O w.W fl_TPoint Au261_0 cu261_0 x260.points := hoku261_0
     show Tq _ _ _ _ (uf _ 168 (.agg #[(.slice Au261_0 (x260.points).length cu261_0), (iv x260.area)])) _ _ _
     obtain ⟨y262, hy262, H⟩ := bnd H
     refine Tq.callF (r := (iv y262)) (wn rfl) rfl rfl Tryz.call15 (evl_cons rfl (evl_cons rfl evl_nil)) (fun W hW => F_plot_Of_2__Of_1_ok x258 Au259_0 cu259_0 (hoku259_0.rl.ext hW.extAll) x260 Au261_0 cu261_0 (hoku261_0.rl.ext hW.extAll) bq0 (hW.extAll.r _ hb0) (hW.extAll.cells hb0 hc0) y262 hy262 (HF.start _)) ?_
     refine Tq.v2 rfl run_lss rfl rfl ?_
     refine Tq.v1 rfl run_not rfl ?_
     refine Tq.nil (Tr.normThen ?_)
     refine Tr.cond rfl H (fun H => ?_) (fun H => ?_)
     ·refine Tr.region ?_
      refine Tr.mv rfl rfl ?_
      refine Tr.v2 rfl run_add rfl rfl ?_
      refine Tr.asg rfl rfl ?_
      refine Tr.nil (Tr.normBlock ?_)
      exact Tr.backThen leL5 ((w64 (q257 + 1)), x255) H (.r rfl) (.r rfl)
     ·refine Tr.region ?_
      refine Tr.mv rfl rfl ?_
      refine Tr.asg rfl rfl ?_
      refine Tr.nil (Tr.normBlock ?_)
      exact Tr.backThen leL5 (x254, q257) H (.r rfl) (.r rfl)
    ·refine Tr.exit (Tr.exitThen (Tr.exitThen (Tr.exitBlock (Tr.normThen ?_))))
     refine Tr.sr ?_
     refine Tr.mv rfl rfl ?_
     refine Tr.mv rfl rfl ?_
     refine Tr.v2 rfl run_sub rfl rfl ?_
     refine Tr.asg rfl rfl ?_
     refine Tr.nil (Tr.normThen ?_)
     have leJ266 := Bs.Le.refl w
     refine Tr.cutJ (σ := (List TRow)) (fun w s => F_slices_symMergeCmpFunc_row__Of_2__Of_1_J7 p1 p2 p3 rec q229 x254 s = some r ∧ (s).length = (p0).length) (fun s => [(0, (.slice Ap0_0 (s).length cp0_0)), (1, (iv p1)), (3, (iv p3)), (4, (.func (.func 15) #[] #[(.pointer (some ⟨bq0, 0, none⟩))])), (18, (iv q229)), (20, (iv x254)), (24, (iv (w64 ((w64 (q229 + p2)) - x254))))]) (fun s => [(0, ow Ap0_0 cp0_0 45 fl_TRow s)]) ?_ ?_
     ·refine Tr.sr ?_
      refine Tr.mv rfl rfl ?_
      refine Tr.mv rfl rfl ?_
      refine Tr.v2 rfl run_lss rfl rfl ?_
      refine Tr.mv rfl rfl ?_
      refine Tr.mid0 4 [(0, (.slice Ap0_0 (p0).length cp0_0)), (1, (iv p1)), (2, (iv p2)), (3, (iv p3)), (4, (.func (.func 15) #[] #[(.pointer (some ⟨bq0, 0, none⟩))])), (18, (iv q229)), (20, (iv x254)), (24, (iv (w64 ((w64 (q229 + p2)) - x254)))), (185, (.bool ((decide (x254 < p2)) && (decide (p2 < (w64 ((w64 (q229 + p2)) - x254)))))))] [(0, ow Ap0_0 cp0_0 45 fl_TRow p0)] ?_ ?_
      ·cases hg278 : (decide (x254 < p2))
       ·refine Tr.ps ?_
        refine Tr.ps ?_
        refine Tr.ps ?_
        refine Tr.v2 rfl run_pickF rfl rfl ?_
        exact Tr.nil (Tr.fin0 (.r rfl) (.r rfl))
       ·refine Tr.w1 (wg rfl rfl rfl) rfl run_move rfl ?_
        refine Tr.w1 (wg rfl rfl rfl) rfl run_move rfl ?_
        refine Tr.w2 (wg rfl rfl rfl) rfl run_lss rfl rfl ?_
        refine Tr.v2 rfl run_pickT rfl rfl ?_
        exact Tr.nil (Tr.fin0 (.r rfl) (.r rfl))
      ·show Tr _ _ (LF [(0, (.slice Ap0_0 (p0).length cp0_0)), (1, (iv p1)), (2, (iv p2)), (3, (iv p3)), (4, (.func (.func 15) #[] #[(.pointer (some ⟨bq0, 0, none⟩))])), (18, (iv q229)), (20, (iv x254)), (24, (iv (w64 ((w64 (q229 + p2)) - x254)))), (185, (.bool ((decide (x254 < p2)) && (decide (p2 < (w64 ((w64 (q229 + p2)) - x254)))))))]) (LE [(0, ow Ap0_0 cp0_0 45 fl_TRow p0)]) _
       refine Tr.nil (Tr.normThen ?_)
       refine Tr.cond rfl H (fun H => ?_) (fun H => ?_)
       ·refine Tr.region ?_
        refine Tr.mv rfl rfl ?_
        refine Tr.mv rfl rfl ?_
        refine Tr.mv rfl rfl ?_
        refine Tr.mv rfl rfl ?_
        refine Tr.mv rfl rfl ?_
        obtain ⟨y277, hy277, H⟩ := bnd H
        refine Tr.callG [0] [ow Ap0_0 cp0_0 45 fl_TRow p0] (U := Unit) (fun u => (.tuple #[])) (fun O W u => (y277).length = (p0).length) (fun u => [ow Ap0_0 cp0_0 45 fl_TRow y277]) rfl (pk_cons rfl pk_nil) (fun _ => rfl) (wn rfl) rfl Tryz.call119 (evl_cons rfl (evl_cons rfl (evl_cons rfl (evl_cons rfl (evl_cons rfl evl_nil))))) (fun W hW hp hE => F_slices_rotateCmpFunc_row__Of_2__Of_1_ok N p0 Ap0_0 cp0_0 x254 p2 (w64 ((w64 (q229 + p2)) - x254)) bq0 ((hW.extS hp).r _ hb0) ((hW.extS hp).cells hb0 hc0) y277 hy277 hE) ?_
        intro w u le278 hu
        have gky277_0 := hu
        replace hc0 := le278.ext.cells hb0 hc0
        replace hb0 := le278.r _ hb0
        replace leB := leB.trans le278
        replace leL5 := leL5.trans le278
        replace leJ266 := leJ266.trans le278
        have hgky277_0 : (y277).length = (p0).length := gky277_0 --@phi
        have hfky277_0 : SlF Ap0_0 (y277).length cp0_0 := by rw [hgky277_0]; exact hfhp0_0
        have hsky277_0 := hgky277_0.trans rfl
        show Tr _ _ (uf _ 191 (.tuple #[])) (up _ 0 (ow Ap0_0 cp0_0 45 fl_TRow y277)) _
        refine Tr.sel (lf := [(0, (.slice Ap0_0 (y277).length cp0_0)), (1, (iv p1)), (2, (iv p2)), (3, (iv p3)), (4, (.func (.func 15) #[] #[(.pointer (some ⟨bq0, 0, none⟩))])), (18, (iv q229)), (20, (iv x254)), (24, (iv (w64 ((w64 (q229 + p2)) - x254)))), (185, (.bool ((decide (x254 < p2)) && (decide (p2 < (w64 ((w64 (q229 + p2)) - x254))))))), (186, (.slice Ap0_0 (y277).length cp0_0)), (187, (iv x254)), (188, (iv p2)), (189, (iv (w64 ((w64 (q229 + p2)) - x254)))), (190, (.func (.func 15) #[] #[(.pointer (some ⟨bq0, 0, none⟩))])), (191, (.tuple #[]))]) (le := [(0, ow Ap0_0 cp0_0 45 fl_TRow y277)]) (.cons (slenV rfl (by rw [hgky277_0])) (.cons rfl (.cons rfl (.cons rfl (.cons rfl (.cons rfl (.cons rfl (.cons rfl (.cons rfl (.cons (slenV rfl (by rw [hgky277_0])) (.r rfl))))))))))) (.r rfl) ?_
        refine Tr.nil ?_
        exact Tr.backThen leJ266 y277 ⟨H, hsky277_0⟩ (.r rfl) (.r rfl)
       ·refine Tr.skip ?_
        exact Tr.backThen leJ266 p0 ⟨H, rfl⟩ (.r rfl) (.r rfl)
     ·intro w l265 hlJ267 hs
      obtain ⟨H, hl265⟩ := hs
      replace H : F_slices_symMergeCmpFunc_row__Of_2__Of_1_J7 p1 p2 p3 rec q229 x254 l265 = some r := H
      replace hc0 := hlJ267.ext.cells hb0 hc0
      replace hb0 := hlJ267.r _ hb0
      replace leB := leB.trans hlJ267
      replace leL5 := leL5.trans hlJ267
      replace hl265 : (l265).length = (p0).length := hl265
      have hfl265 : SlF Ap0_0 (l265).length cp0_0 := (by rw [hl265]; exact hfhp0_0)
      unfold F_slices_symMergeCmpFunc_row__Of_2__Of_1_J7 at H
      show Tr _ _ (LF [(0, (.slice Ap0_0 (l265).length cp0_0)), (1, (iv p1)), (3, (iv p3)), (4, (.func (.func 15) #[] #[(.pointer (some ⟨bq0, 0, none⟩))])), (18, (iv q229)), (20, (iv x254)), (24, (iv (w64 ((w64 (q229 + p2)) - x254))))]) (LE [(0, ow Ap0_0 cp0_0 45 fl_TRow l265)]) _
      have leJ271 := Bs.Le.refl w
      refine Tr.cutJ (σ := (List TRow)) (fun w s => F_slices_symMergeCmpFunc_row__Of_2__Of_1_J6 p2 p3 rec q229 x254 s = some r ∧ (s).length = (p0).length) (fun s => [(0, (.slice Ap0_0 (s).length cp0_0)), (3, (iv p3)), (4, (.func (.func 15) #[] #[(.pointer (some ⟨bq0, 0, none⟩))])), (18, (iv q229)), (24, (iv (w64 ((w64 (q229 + p2)) - x254))))]) (fun s => [(0, ow Ap0_0 cp0_0 45 fl_TRow s)]) ?_ ?_
      ·refine Tr.sr ?_
       refine Tr.mv rfl rfl ?_
       refine Tr.mv rfl rfl ?_
       refine Tr.v2 rfl run_lss rfl rfl ?_
       refine Tr.mv rfl rfl ?_
       refine Tr.mid0 4 [(0, (.slice Ap0_0 (l265).length cp0_0)), (1, (iv p1)), (3, (iv p3)), (4, (.func (.func 15) #[] #[(.pointer (some ⟨bq0, 0, none⟩))])), (18, (iv q229)), (20, (iv x254)), (24, (iv (w64 ((w64 (q229 + p2)) - x254)))), (199, (.bool ((decide (p1 < x254)) && (decide (x254 < q229)))))] [(0, ow Ap0_0 cp0_0 45 fl_TRow l265)] ?_ ?_
       ·cases hg276 : (decide (p1 < x254))
        ·refine Tr.ps ?_
         refine Tr.ps ?_
         refine Tr.ps ?_
         refine Tr.v2 rfl run_pickF rfl rfl ?_
         exact Tr.nil (Tr.fin0 (.r rfl) (.r rfl))
        ·refine Tr.w1 (wg rfl rfl rfl) rfl run_move rfl ?_
         refine Tr.w1 (wg rfl rfl rfl) rfl run_move rfl ?_
         refine Tr.w2 (wg rfl rfl rfl) rfl run_lss rfl rfl ?_
         refine Tr.v2 rfl run_pickT rfl rfl ?_
         exact Tr.nil (Tr.fin0 (.r rfl) (.r rfl))
       ·show Tr _ _ (LF [(0, (.slice Ap0_0 (l265).length cp0_0)), (1, (iv p1)), (3, (iv p3)), (4, (.func (.func 15) #[] #[(.pointer (some ⟨bq0, 0, none⟩))])), (18, (iv q229)), (20, (iv x254)), (24, (iv (w64 ((w64 (q229 + p2)) - x254)))), (199, (.bool ((decide (p1 < x254)) && (decide (x254 < q229)))))]) (LE [(0, ow Ap0_0 cp0_0 45 fl_TRow l265)]) _
        refine Tr.nil (Tr.normThen ?_)
        refine Tr.cond rfl H (fun H => ?_) (fun H => ?_)
        ·refine Tr.region ?_
         refine Tr.mv rfl rfl ?_
         refine Tr.mv rfl rfl ?_
         refine Tr.mv rfl rfl ?_
         refine Tr.mv rfl rfl ?_
         refine Tr.mv rfl rfl ?_
         obtain ⟨y275, hy275, H⟩ := bnd H
         refine Tr.callG [0] [ow Ap0_0 cp0_0 45 fl_TRow l265] (U := Unit) (fun u => (.tuple #[])) (fun O W u => (y275).length = (l265).length) (fun u => [ow Ap0_0 cp0_0 45 fl_TRow y275]) rfl (pk_cons rfl pk_nil) (fun _ => rfl) (wn rfl) rfl Tryz.call78 (evl_cons rfl (evl_cons rfl (evl_cons rfl (evl_cons rfl (evl_cons rfl evl_nil))))) (fun W hW hp hE => hrec l265 Ap0_0 cp0_0 p1 x254 q229 bq0 ((hW.extS hp).r _ hb0) ((hW.extS hp).cells hb0 hc0) y275 hy275 hE) ?_
         intro w u le276 hu
         have gky275_0 := hu
         replace hc0 := le276.ext.cells hb0 hc0
         replace hb0 := le276.r _ hb0
         replace leB := leB.trans le276
         replace leL5 := leL5.trans le276
         replace leJ271 := leJ271.trans le276
         have hgky275_0 : (y275).length = (l265).length := gky275_0 --@phi
         have hfky275_0 : SlF Ap0_0 (y275).length cp0_0 := by rw [hgky275_0]; exact hfl265
         have hsky275_0 := hgky275_0.trans hl265
         show Tr _ _ (uf _ 205 (.tuple #[])) (up _ 0 (ow Ap0_0 cp0_0 45 fl_TRow y275)) _
         refine Tr.sel (lf := [(0, (.slice Ap0_0 (y275).length cp0_0)), (1, (iv p1)), (3, (iv p3)), (4, (.func (.func 15) #[] #[(.pointer (some ⟨bq0, 0, none⟩))])), (18, (iv q229)), (20, (iv x254)), (24, (iv (w64 ((w64 (q229 + p2)) - x254)))), (199, (.bool ((decide (p1 < x254)) && (decide (x254 < q229))))), (200, (.slice Ap0_0 (y275).length cp0_0)), (201, (iv p1)), (202, (iv x254)), (203, (iv q229)), (204, (.func (.func 15) #[] #[(.pointer (some ⟨bq0, 0, none⟩))])), (205, (.tuple #[]))]) (le := [(0, ow Ap0_0 cp0_0 45 fl_TRow y275)]) (.cons (slenV rfl (by rw [hgky275_0])) (.cons rfl (.cons rfl (.cons rfl (.cons rfl (.cons rfl (.cons rfl (.cons rfl (.cons (slenV rfl (by rw [hgky275_0])) (.r rfl)))))))))) (.r rfl) ?_
         refine Tr.nil ?_
         exact Tr.backThen leJ271 y275 ⟨H, hsky275_0⟩ (.r rfl) (.r rfl)
        ·refine Tr.skip ?_
         exact Tr.backThen leJ271 l265 ⟨H, hl265⟩ (.r rfl) (.r rfl)
      ·intro w l270 hlJ272 hs
       obtain ⟨H, hl270⟩ := hs
       replace H : F_slices_symMergeCmpFunc_row__Of_2__Of_1_J6 p2 p3 rec q229 x254 l270 = some r := H
       replace hc0 := hlJ272.ext.cells hb0 hc0
       replace hb0 := hlJ272.r _ hb0
       replace leB := leB.trans hlJ272
       replace leL5 := leL5.trans hlJ272
       replace hl270 : (l270).length = (p0).length := hl270
       have hfl270 : SlF Ap0_0 (l270).length cp0_0 := (by rw [hl270]; exact hfhp0_0)
       unfold F_slices_symMergeCmpFunc_row__Of_2__Of_1_J6 at H
       show Tr _ _ (LF [(0, (.slice Ap0_0 (l270).length cp0_0)), (3, (iv p3)), (4, (.func (.func 15) #[] #[(.pointer (some ⟨bq0, 0, none⟩))])), (18, (iv q229)), (24, (iv (w64 ((w64 (q229 + p2)) - x254))))]) (LE [(0, ow Ap0_0 cp0_0 45 fl_TRow l270)]) _
       refine Tr.sr ?_
       refine Tr.mv rfl rfl ?_
       refine Tr.mv rfl rfl ?_
       refine Tr.v2 rfl run_lss rfl rfl ?_
       refine Tr.mv rfl rfl ?_
       refine Tr.mid0 4 [(0, (.slice Ap0_0 (l270).length cp0_0)), (3, (iv p3)), (4, (.func (.func 15) #[] #[(.pointer (some ⟨bq0, 0, none⟩))])), (18, (iv q229)), (24, (iv (w64 ((w64 (q229 + p2)) - x254)))), (213, (.bool ((decide (q229 < (w64 ((w64 (q229 + p2)) - x254)))) && (decide ((w64 ((w64 (q229 + p2)) - x254)) < p3)))))] [(0, ow Ap0_0 cp0_0 45 fl_TRow l270)] ?_ ?_
       ·cases hg274 : (decide (q229 < (w64 ((w64 (q229 + p2)) - x254))))
        ·refine Tr.ps ?_
         refine Tr.ps ?_
         refine Tr.ps ?_
         refine Tr.v2 rfl run_pickF rfl rfl ?_
         exact Tr.nil (Tr.fin0 (.r rfl) (.r rfl))
        ·refine Tr.w1 (wg rfl rfl rfl) rfl run_move rfl ?_
         refine Tr.w1 (wg rfl rfl rfl) rfl run_move rfl ?_
         refine Tr.w2 (wg rfl rfl rfl) rfl run_lss rfl rfl ?_
         refine Tr.v2 rfl run_pickT rfl rfl ?_
         exact Tr.nil (Tr.fin0 (.r rfl) (.r rfl))
       ·show Tr _ _ (LF [(0, (.slice Ap0_0 (l270).length cp0_0)), (3, (iv p3)), (4, (.func (.func 15) #[] #[(.pointer (some ⟨bq0, 0, none⟩))])), (18, (iv q229)), (24, (iv (w64 ((w64 (q229 + p2)) - x254)))), (213, (.bool ((decide (q229 < (w64 ((w64 (q229 + p2)) - x254)))) && (decide ((w64 ((w64 (q229 + p2)) - x254)) < p3)))))]) (LE [(0, ow Ap0_0 cp0_0 45 fl_TRow l270)]) _
        refine Tr.nil (Tr.normThen ?_)
        refine Tr.cond rfl H (fun H => ?_) (fun H => ?_)
        ·refine Tr.region ?_
         refine Tr.mv rfl rfl ?_
         refine Tr.mv rfl rfl ?_
         refine Tr.mv rfl rfl ?_
         refine Tr.mv rfl rfl ?_
         refine Tr.mv rfl rfl ?_
         obtain ⟨y273, hy273, H⟩ := bnd H
         refine Tr.callG [0] [ow Ap0_0 cp0_0 45 fl_TRow l270] (U := Unit) (fun u => (.tuple #[])) (fun O W u => (y273).length = (l270).length) (fun u => [ow Ap0_0 cp0_0 45 fl_TRow y273]) rfl (pk_cons rfl pk_nil) (fun _ => rfl) (wn rfl) rfl Tryz.call78 (evl_cons rfl (evl_cons rfl (evl_cons rfl (evl_cons rfl (evl_cons rfl evl_nil))))) (fun W hW hp hE => hrec l270 Ap0_0 cp0_0 q229 (w64 ((w64 (q229 + p2)) - x254)) p3 bq0 ((hW.extS hp).r _ hb0) ((hW.extS hp).cells hb0 hc0) y273 hy273 hE) ?_
         intro w u le274 hu
         have gky273_0 := hu
         replace hc0 := le274.ext.cells hb0 hc0
         replace hb0 := le274.r _ hb0
         replace leB := leB.trans le274
         replace leL5 := leL5.trans le274
         have hgky273_0 : (y273).length = (l270).length := gky273_0 --@phi
         have hfky273_0 : SlF Ap0_0 (y273).length cp0_0 := by rw [hgky273_0]; exact hfl270
         have hsky273_0 := hgky273_0.trans hl270
         show Tr _ _ (uf _ 219 (.tuple #[])) (up _ 0 (ow Ap0_0 cp0_0 45 fl_TRow y273)) _
         refine Tr.sel (lf := [(0, (.slice Ap0_0 (y273).length cp0_0)), (3, (iv p3)), (4, (.func (.func 15) #[] #[(.pointer (some ⟨bq0, 0, none⟩))])), (18, (iv q229)), (24, (iv (w64 ((w64 (q229 + p2)) - x254)))), (213, (.bool ((decide (q229 < (w64 ((w64 (q229 + p2)) - x254)))) && (decide ((w64 ((w64 (q229 + p2)) - x254)) < p3))))), (214, (.slice Ap0_0 (y273).length cp0_0)), (215, (iv q229)), (216, (iv (w64 ((w64 (q229 + p2)) - x254)))), (217, (iv p3)), (218, (.func (.func 15) #[] #[(.pointer (some ⟨bq0, 0, none⟩))])), (219, (.tuple #[]))]) (le := [(0, ow Ap0_0 cp0_0 45 fl_TRow y273)]) (.cons (slenV rfl (by rw [hgky273_0])) (.cons rfl (.cons rfl (.cons rfl (.cons rfl (.cons rfl (.cons (slenV rfl (by rw [hgky273_0])) (.r rfl)))))))) (.r rfl) ?_
         refine Tr.nil (Tr.offEnd ?_)
         obtain rfl := Option.some.inj H
         exact Tr.out (m := []) [] res_nil (fun W hW => ⟨w, (), leB, rfl, hsky273_0, hW.pick (ks := [0]) (by decide) (pk_cons rfl pk_nil)⟩)
        ·refine Tr.skip (Tr.offEnd ?_)
         obtain rfl := Option.some.inj H
         exact Tr.out (m := []) [] res_nil (fun W hW => ⟨w, (), leB, rfl, hl270, hW.pick (ks := [0]) (by decide) (pk_cons rfl pk_nil)⟩)
theorem F_slices_symMergeCmpFunc_row__Of_2__Of_1_ok : ∀ (N : Nat) {w : Bs} (p0 : (List TRow)) (Ap0_0 : Option Addr) (cp0_0 : Nat) (p1 : Int) (p2 : Int) (p3 : Int) (bq0 : Nat) (hb0 : w.R bq0) (hc0 : CellsAt w.W bq0 0 [(.func (.func 13) #[] #[])]) (r : (List TRow)) (H : F_slices_symMergeCmpFunc_row__Of_2__Of_1 N p0 p1 p2 p3 = some r) (hE : HF w w.W (LEn [ow Ap0_0 cp0_0 45 fl_TRow p0])), Calls Tryz.prog 78 [(.slice Ap0_0 (p0).length cp0_0), (iv p1), (iv p2), (iv p3), (.func (.func 15) #[] #[(.pointer (some ⟨bq0, 0, none⟩))])].toArray w.W fun e W' => ∃ (w' : Bs) (u : Unit), w.Le w' ∧ e = .returned (.tuple #[]) ∧ ((r).length = (p0).length) ∧ HF w' W' (LEn [ow Ap0_0 cp0_0 45 fl_TRow r])
 | 0 => by intros; rename_i H _; cases H
 | N + 1 => F_slices_symMergeCmpFunc_row__Of_2__Of_1_b_ok N (F_slices_symMergeCmpFunc_row__Of_2__Of_1 N) (F_slices_symMergeCmpFunc_row__Of_2__Of_1_ok N)

theorem F_slices_stableCmpFunc_row__Of_2__Of_1_ok (N : Nat) {w : Bs} (p0 : (List TRow)) (Ap0_0 : Option Addr) (cp0_0 : Nat) (p1 : Int) (bq0 : Nat) (hb0 : w.R bq0) (hc0 : CellsAt w.W bq0 0 [(.func (.func 13) #[] #[])]) (r : (List TRow)) (H : F_slices_stableCmpFunc_row__Of_2__Of_1 N p0 p1 = some r) (hE : HF w w.W (LEn [ow Ap0_0 cp0_0 45 fl_TRow p0])) : Calls Tryz.prog 34 [(.slice Ap0_0 (p0).length cp0_0), (iv p1), (.func (.func 15) #[] #[(.pointer (some ⟨bq0, 0, none⟩))])].toArray w.W fun e W' => ∃ (w' : Bs) (u : Unit), w.Le w' ∧ e = .returned (.tuple #[]) ∧ ((r).length = (p0).length) ∧ HF w' W' (LEn [ow Ap0_0 cp0_0 45 fl_TRow r]) := by
 unfold F_slices_stableCmpFunc_row__Of_2__Of_1 at H
 have hfhp0_0 := (hE.sl (k := 0) rfl).form
 have leB := Bs.Le.refl w
 refine Tr.enter (n := 63) Tryz.func34 rfl rfl rfl hE ?_
 refine Tr.sr ?_
 refine Tr.asg rfl rfl ?_
 refine Tr.nil (Tr.normThen ?_)
 refine Tr.sr ?_
 refine Tr.mv rfl rfl ?_
 refine Tr.asg rfl rfl ?_
 refine Tr.asg rfl rfl ?_
 refine Tr.nil (Tr.normThen ?_)
 refine Tr.seq ?_
 refine Tr.block ?_
 refine Tr.loop (σ := (List TRow) × Int × Int) (fun m w s => F_slices_stableCmpFunc_row__Of_2__Of_1_L1 N p1 m s.1 s.2.1 s.2.2 = some r ∧ (s.1).length = (p0).length) (fun s => [(0, (.slice Ap0_0 (s.1).length cp0_0)), (1, (iv p1)), (2, (.func (.func 15) #[] #[(.pointer (some ⟨bq0, 0, none⟩))])), (6, (iv 20)), (7, (iv s.2.1)), (8, (iv s.2.2))]) (fun s => [(0, ow Ap0_0 cp0_0 45 fl_TRow s.1)]) N (p0, 0, 20) ⟨H, rfl⟩ (.r rfl) (.r rfl) (fun _ _ h => noSome (h.1)) ?_
 intro w leL1 mL1 s hs
 obtain ⟨l113, x114, x115⟩ := s
 obtain ⟨H, hl113⟩ := hs
 replace H : F_slices_stableCmpFunc_row__Of_2__Of_1_L1 N p1 (mL1 + 1) l113 x114 x115 = some r := H
 replace hc0 := leL1.ext.cells hb0 hc0
 replace hb0 := leL1.r _ hb0
 replace leB := leB.trans leL1
 replace hl113 : (l113).length = (p0).length := hl113
 have hfl113 : SlF Ap0_0 (l113).length cp0_0 := (by rw [hl113]; exact hfhp0_0)
 rw [F_slices_stableCmpFunc_row__Of_2__Of_1_L1.eq_2] at H
 show Tr _ _ (LF [(0, (.slice Ap0_0 (l113).length cp0_0)), (1, (iv p1)), (2, (.func (.func 15) #[] #[(.pointer (some ⟨bq0, 0, none⟩))])), (6, (iv 20)), (7, (iv x114)), (8, (iv x115))]) (LE [(0, ow Ap0_0 cp0_0 45 fl_TRow l113)]) _
 refine Tr.seq ?_
 refine Tr.sr ?_
 refine Tr.mv rfl rfl ?_
 refine Tr.mv rfl rfl ?_
 refine Tr.v2 rfl run_leq rfl rfl ?_
 refine Tr.nil (Tr.normThen ?_)
 refine Tr.cond rfl H (fun H => ?_) (fun H => ?_)
 ·refine Tr.skip (Tr.normThen ?_)
  refine Tr.block ?_
  refine Tr.sr ?_
  refine Tr.mv rfl rfl ?_
  refine Tr.mv rfl rfl ?_
  refine Tr.mv rfl rfl ?_
  refine Tr.mv rfl rfl ?_
  obtain ⟨y116, hy116, H⟩ := bnd H
  refine Tr.callG [0] [ow Ap0_0 cp0_0 45 fl_TRow l113] (U := Unit) (fun u => (.tuple #[])) (fun O W u => (y116).length = (l113).length) (fun u => [ow Ap0_0 cp0_0 45 fl_TRow y116]) rfl (pk_cons rfl pk_nil) (fun _ => rfl) (wn rfl) rfl Tryz.call77 (evl_cons rfl (evl_cons rfl (evl_cons rfl (evl_cons rfl evl_nil)))) (fun W hW hp hE => F_slices_insertionSortCmpFunc_row__Of_2__Of_1_ok N l113 Ap0_0 cp0_0 x114 x115 bq0 ((hW.extS hp).r _ hb0) ((hW.extS hp).cells hb0 hc0) y116 hy116 hE) ?_
  intro w u le117 hu
  have gky116_0 := hu
  replace hc0 := le117.ext.cells hb0 hc0
  replace hb0 := le117.r _ hb0
  replace leB := leB.trans le117
  replace leL1 := leL1.trans le117
  have hgky116_0 : (y116).length = (l113).length := gky116_0 --@phi
  have hfky116_0 : SlF Ap0_0 (y116).length cp0_0 := by rw [hgky116_0]; exact hfl113
  have hsky116_0 := hgky116_0.trans hl113
  show Tr _ _ (uf _ 18 (.tuple #[])) (up _ 0 (ow Ap0_0 cp0_0 45 fl_TRow y116)) _
  refine Tr.sel (lf := [(0, (.slice Ap0_0 (y116).length cp0_0)), (1, (iv p1)), (2, (.func (.func 15) #[] #[(.pointer (some ⟨bq0, 0, none⟩))])), (6, (iv 20)), (7, (iv x114)), (8, (iv x115)), (11, (iv x115)), (12, (iv p1)), (13, (.bool (decide (x115 ≤ p1)))), (14, (.slice Ap0_0 (y116).length cp0_0)), (15, (iv x114)), (16, (iv x115)), (17, (.func (.func 15) #[] #[(.pointer (some ⟨bq0, 0, none⟩))])), (18, (.tuple #[]))]) (le := [(0, ow Ap0_0 cp0_0 45 fl_TRow y116)]) (.cons (slenV rfl (by rw [hgky116_0])) (.cons rfl (.cons rfl (.cons rfl (.cons rfl (.cons rfl (.cons rfl (.cons rfl (.cons rfl (.cons (slenV rfl (by rw [hgky116_0])) (.r rfl))))))))))) (.r rfl) ?_
  refine Tr.nil (Tr.normThen ?_)
  refine Tr.sr ?_
  refine Tr.mv rfl rfl ?_
  refine Tr.asg rfl rfl ?_
  refine Tr.nil (Tr.normThen ?_)
  refine Tr.region ?_
  refine Tr.mv rfl rfl ?_
  refine Tr.mv rfl rfl ?_
  refine Tr.v2 rfl run_add rfl rfl ?_
  refine Tr.asg rfl rfl ?_
  refine Tr.nil (Tr.normBlock ?_)
  exact Tr.backThen leL1 (y116, x115, (w64 (x115 + 20))) ⟨H, hsky116_0⟩ (.r rfl) (.r rfl)
 ·refine Tr.exit (Tr.exitThen (Tr.exitThen (Tr.exitBlock (Tr.normThen ?_))))
  refine Tr.sr ?_
  refine Tr.mv rfl rfl ?_
  refine Tr.mv rfl rfl ?_
  refine Tr.mv rfl rfl ?_
  refine Tr.mv rfl rfl ?_
  obtain ⟨y118, hy118, H⟩ := bnd H
  refine Tr.callG [0] [ow Ap0_0 cp0_0 45 fl_TRow l113] (U := Unit) (fun u => (.tuple #[])) (fun O W u => (y118).length = (l113).length) (fun u => [ow Ap0_0 cp0_0 45 fl_TRow y118]) rfl (pk_cons rfl pk_nil) (fun _ => rfl) (wn rfl) rfl Tryz.call77 (evl_cons rfl (evl_cons rfl (evl_cons rfl (evl_cons rfl evl_nil)))) (fun W hW hp hE => F_slices_insertionSortCmpFunc_row__Of_2__Of_1_ok N l113 Ap0_0 cp0_0 x114 p1 bq0 ((hW.extS hp).r _ hb0) ((hW.extS hp).cells hb0 hc0) y118 hy118 hE) ?_
  intro w u le119 hu
  have gky118_0 := hu
  replace hc0 := le119.ext.cells hb0 hc0
  replace hb0 := le119.r _ hb0
  replace leB := leB.trans le119
  replace leL1 := leL1.trans le119
  have hgky118_0 : (y118).length = (l113).length := gky118_0 --@phi
  have hfky118_0 : SlF Ap0_0 (y118).length cp0_0 := by rw [hgky118_0]; exact hfl113
  have hsky118_0 := hgky118_0.trans hl113
  show Tr _ _ (uf _ 27 (.tuple #[])) (up _ 0 (ow Ap0_0 cp0_0 45 fl_TRow y118)) _
  refine Tr.sel (lf := [(0, (.slice Ap0_0 (y118).length cp0_0)), (1, (iv p1)), (2, (.func (.func 15) #[] #[(.pointer (some ⟨bq0, 0, none⟩))])), (6, (iv 20)), (7, (iv x114)), (8, (iv x115)), (11, (iv x115)), (12, (iv p1)), (13, (.bool (decide (x115 ≤ p1)))), (23, (.slice Ap0_0 (y118).length cp0_0)), (24, (iv x114)), (25, (iv p1)), (26, (.func (.func 15) #[] #[(.pointer (some ⟨bq0, 0, none⟩))])), (27, (.tuple #[]))]) (le := [(0, ow Ap0_0 cp0_0 45 fl_TRow y118)]) (.cons (slenV rfl (by rw [hgky118_0])) (.cons rfl (.cons rfl (.cons rfl (.cons rfl (.cons rfl (.cons rfl (.cons rfl (.cons rfl (.cons (slenV rfl (by rw [hgky118_0])) (.r rfl))))))))))) (.r rfl) ?_
  refine Tr.nil (Tr.normThen ?_)
  refine Tr.block ?_
  refine Tr.loop (σ := (List TRow) × Int) (fun m w s => F_slices_stableCmpFunc_row__Of_2__Of_1_L6 N p1 m s.1 s.2 = some r ∧ (s.1).length = (p0).length) (fun s => [(0, (.slice Ap0_0 (s.1).length cp0_0)), (1, (iv p1)), (2, (.func (.func 15) #[] #[(.pointer (some ⟨bq0, 0, none⟩))])), (6, (iv s.2))]) (fun s => [(0, ow Ap0_0 cp0_0 45 fl_TRow s.1)]) N (y118, 20) ⟨H, hsky118_0⟩ (.r rfl) (.r rfl) (fun _ _ h => noSome (h.1)) ?_
  intro w leL6 mL6 s hs
  obtain ⟨l176, x177⟩ := s
  obtain ⟨H, hl176⟩ := hs
  replace H : F_slices_stableCmpFunc_row__Of_2__Of_1_L6 N p1 (mL6 + 1) l176 x177 = some r := H
  replace hc0 := leL6.ext.cells hb0 hc0
  replace hb0 := leL6.r _ hb0
  replace leB := leB.trans leL6
  replace leL1 := leL1.trans leL6
  replace hl176 : (l176).length = (p0).length := hl176
  have hfl176 : SlF Ap0_0 (l176).length cp0_0 := (by rw [hl176]; exact hfhp0_0)
  rw [F_slices_stableCmpFunc_row__Of_2__Of_1_L6.eq_2] at H
  show Tr _ _ (LF [(0, (.slice Ap0_0 (l176).length cp0_0)), (1, (iv p1)), (2, (.func (.func 15) #[] #[(.pointer (some ⟨bq0, 0, none⟩))])), (6, (iv x177))]) (LE [(0, ow Ap0_0 cp0_0 45 fl_TRow l176)]) _
  refine Tr.seq ?_
  refine Tr.sr ?_
  refine Tr.mv rfl rfl ?_
  refine Tr.mv rfl rfl ?_
  refine Tr.v2 rfl run_lss rfl rfl ?_
  refine Tr.nil (Tr.normThen ?_)
  refine Tr.cond rfl H (fun H => ?_) (fun H => ?_)
  ·refine Tr.skip (Tr.normThen ?_)
   refine Tr.block ?_
   refine Tr.sr ?_
   refine Tr.mv rfl rfl ?_
   refine Tr.v2 rfl run_mul rfl rfl ?_
   refine Tr.asg rfl rfl ?_
   refine Tr.asg rfl rfl ?_
   refine Tr.nil (Tr.normThen ?_)
   refine Tr.seq ?_
   refine Tr.block ?_
   refine Tr.loop (σ := (List TRow) × Int × Int) (fun m w s => F_slices_stableCmpFunc_row__Of_2__Of_1_L7 N p1 x177 (F_slices_stableCmpFunc_row__Of_2__Of_1_L6 N p1 mL6) m s.1 s.2.1 s.2.2 = some r ∧ (s.1).length = (p0).length) (fun s => [(0, (.slice Ap0_0 (s.1).length cp0_0)), (1, (iv p1)), (2, (.func (.func 15) #[] #[(.pointer (some ⟨bq0, 0, none⟩))])), (6, (iv x177)), (7, (iv s.2.1)), (8, (iv s.2.2))]) (fun s => [(0, ow Ap0_0 cp0_0 45 fl_TRow s.1)]) N (l176, 0, (w64 (2 * x177))) ⟨H, hl176⟩ (.r rfl) (.r rfl) (fun _ _ h => noSome (h.1)) ?_
   intro w leL7 mL7 s hs
   obtain ⟨l191, x192, x193⟩ := s
   obtain ⟨H, hl191⟩ := hs
   replace H : F_slices_stableCmpFunc_row__Of_2__Of_1_L7 N p1 x177 (F_slices_stableCmpFunc_row__Of_2__Of_1_L6 N p1 mL6) (mL7 + 1) l191 x192 x193 = some r := H
   replace hc0 := leL7.ext.cells hb0 hc0
   replace hb0 := leL7.r _ hb0
   replace leB := leB.trans leL7
   replace leL1 := leL1.trans leL7
   replace leL6 := leL6.trans leL7
   replace hl191 : (l191).length = (p0).length := hl191
   have hfl191 : SlF Ap0_0 (l191).length cp0_0 := (by rw [hl191]; exact hfhp0_0)
   rw [F_slices_stableCmpFunc_row__Of_2__Of_1_L7.eq_2] at H
   show Tr _ _ (LF [(0, (.slice Ap0_0 (l191).length cp0_0)), (1, (iv p1)), (2, (.func (.func 15) #[] #[(.pointer (some ⟨bq0, 0, none⟩))])), (6, (iv x177)), (7, (iv x192)), (8, (iv x193))]) (LE [(0, ow Ap0_0 cp0_0 45 fl_TRow l191)]) _
   refine Tr.seq ?_
   refine Tr.sr ?_
   refine Tr.mv rfl rfl ?_
   refine Tr.mv rfl rfl ?_
   refine Tr.v2 rfl run_leq rfl rfl ?_
   refine Tr.nil (Tr.normThen ?_)
   refine Tr.cond rfl H (fun H => ?_) (fun H => ?_)
   ·refine Tr.skip (Tr.normThen ?_)
    refine Tr.block ?_
    refine Tr.sr ?_
    refine Tr.mv rfl rfl ?_
    refine Tr.mv rfl rfl ?_
    refine Tr.mv rfl rfl ?_
    refine Tr.mv rfl rfl ?_
    refine Tr.v2 rfl run_add rfl rfl ?_
    refine Tr.mv rfl rfl ?_
    refine Tr.mv rfl rfl ?_
    obtain ⟨y194, hy194, H⟩ := bnd H
    refine Tr.callG [0] [ow Ap0_0 cp0_0 45 fl_TRow l191] (U := Unit) (fun u => (.tuple #[])) (fun O W u => (y194).length = (l191).length) (fun u => [ow Ap0_0 cp0_0 45 fl_TRow y194]) rfl (pk_cons rfl pk_nil) (fun _ => rfl) (wn rfl) rfl Tryz.call78 (evl_cons rfl (evl_cons rfl (evl_cons rfl (evl_cons rfl (evl_cons rfl evl_nil))))) (fun W hW hp hE => F_slices_symMergeCmpFunc_row__Of_2__Of_1_ok N l191 Ap0_0 cp0_0 x192 (w64 (x192 + x177)) x193 bq0 ((hW.extS hp).r _ hb0) ((hW.extS hp).cells hb0 hc0) y194 hy194 hE) ?_
    intro w u le195 hu
    have gky194_0 := hu
    replace hc0 := le195.ext.cells hb0 hc0
    replace hb0 := le195.r _ hb0
    replace leB := leB.trans le195
    replace leL1 := leL1.trans le195
    replace leL6 := leL6.trans le195
    replace leL7 := leL7.trans le195
    have hgky194_0 : (y194).length = (l191).length := gky194_0 --@phi
    have hfky194_0 : SlF Ap0_0 (y194).length cp0_0 := by rw [hgky194_0]; exact hfl191
    have hsky194_0 := hgky194_0.trans hl191
    show Tr _ _ (uf _ 43 (.tuple #[])) (up _ 0 (ow Ap0_0 cp0_0 45 fl_TRow y194)) _
    refine Tr.sel (lf := [(0, (.slice Ap0_0 (y194).length cp0_0)), (1, (iv p1)), (2, (.func (.func 15) #[] #[(.pointer (some ⟨bq0, 0, none⟩))])), (6, (iv x177)), (7, (iv x192)), (8, (iv x193)), (33, (iv x193)), (34, (iv p1)), (35, (.bool (decide (x193 ≤ p1)))), (36, (.slice Ap0_0 (y194).length cp0_0)), (37, (iv x192)), (38, (iv x192)), (39, (iv x177)), (40, (iv (w64 (x192 + x177)))), (41, (iv x193)), (42, (.func (.func 15) #[] #[(.pointer (some ⟨bq0, 0, none⟩))])), (43, (.tuple #[]))]) (le := [(0, ow Ap0_0 cp0_0 45 fl_TRow y194)]) (.cons (slenV rfl (by rw [hgky194_0])) (.cons rfl (.cons rfl (.cons rfl (.cons rfl (.cons rfl (.cons rfl (.cons rfl (.cons rfl (.cons (slenV rfl (by rw [hgky194_0])) (.r rfl))))))))))) (.r rfl) ?_
    refine Tr.nil (Tr.normThen ?_)
    refine Tr.sr ?_
    refine Tr.mv rfl rfl ?_
    refine Tr.asg rfl rfl ?_
    refine Tr.nil (Tr.normThen ?_)
    refine Tr.region ?_
    refine Tr.mv rfl rfl ?_
    refine Tr.mv rfl rfl ?_
    refine Tr.v2 rfl run_mul rfl rfl ?_
    refine Tr.v2 rfl run_add rfl rfl ?_
    refine Tr.asg rfl rfl ?_
    refine Tr.nil (Tr.normBlock ?_)
    exact Tr.backThen leL7 (y194, x193, (w64 (x193 + (w64 (2 * x177))))) ⟨H, hsky194_0⟩ (.r rfl) (.r rfl)
   ·refine Tr.exit (Tr.exitThen (Tr.exitThen (Tr.exitBlock (Tr.normThen ?_))))
    have leJ199 := Bs.Le.refl w
    refine Tr.cutJ (σ := (List TRow)) (fun w s => F_slices_stableCmpFunc_row__Of_2__Of_1_J8 x177 (F_slices_stableCmpFunc_row__Of_2__Of_1_L6 N p1 mL6) s = some r ∧ (s).length = (p0).length) (fun s => [(0, (.slice Ap0_0 (s).length cp0_0)), (1, (iv p1)), (2, (.func (.func 15) #[] #[(.pointer (some ⟨bq0, 0, none⟩))])), (6, (iv x177))]) (fun s => [(0, ow Ap0_0 cp0_0 45 fl_TRow s)]) ?_ ?_
    ·refine Tr.sr ?_
     refine Tr.mv rfl rfl ?_
     refine Tr.mv rfl rfl ?_
     refine Tr.v2 rfl run_add rfl rfl ?_
     refine Tr.asg rfl rfl ?_
     refine Tr.nil (Tr.normThen ?_)
     refine Tr.sr ?_
     refine Tr.mv rfl rfl ?_
     refine Tr.mv rfl rfl ?_
     refine Tr.v2 rfl run_lss rfl rfl ?_
     refine Tr.nil (Tr.normThen ?_)
     refine Tr.cond rfl H (fun H => ?_) (fun H => ?_)
     ·refine Tr.region ?_
      refine Tr.mv rfl rfl ?_
      refine Tr.mv rfl rfl ?_
      refine Tr.mv rfl rfl ?_
      refine Tr.mv rfl rfl ?_
      refine Tr.mv rfl rfl ?_
      obtain ⟨y201, hy201, H⟩ := bnd H
      refine Tr.callG [0] [ow Ap0_0 cp0_0 45 fl_TRow l191] (U := Unit) (fun u => (.tuple #[])) (fun O W u => (y201).length = (l191).length) (fun u => [ow Ap0_0 cp0_0 45 fl_TRow y201]) rfl (pk_cons rfl pk_nil) (fun _ => rfl) (wn rfl) rfl Tryz.call78 (evl_cons rfl (evl_cons rfl (evl_cons rfl (evl_cons rfl (evl_cons rfl evl_nil))))) (fun W hW hp hE => F_slices_symMergeCmpFunc_row__Of_2__Of_1_ok N l191 Ap0_0 cp0_0 x192 (w64 (x192 + x177)) p1 bq0 ((hW.extS hp).r _ hb0) ((hW.extS hp).cells hb0 hc0) y201 hy201 hE) ?_
      intro w u le202 hu
      have gky201_0 := hu
      replace hc0 := le202.ext.cells hb0 hc0
      replace hb0 := le202.r _ hb0
      replace leB := leB.trans le202
      replace leL1 := leL1.trans le202
      replace leL6 := leL6.trans le202
      replace leL7 := leL7.trans le202
      replace leJ199 := leJ199.trans le202
      have hgky201_0 : (y201).length = (l191).length := gky201_0 --@phi
      have hfky201_0 : SlF Ap0_0 (y201).length cp0_0 := by rw [hgky201_0]; exact hfl191
      have hsky201_0 := hgky201_0.trans hl191
      show Tr _ _ (uf _ 60 (.tuple #[])) (up _ 0 (ow Ap0_0 cp0_0 45 fl_TRow y201)) _
      refine Tr.sel (lf := [(0, (.slice Ap0_0 (y201).length cp0_0)), (1, (iv p1)), (2, (.func (.func 15) #[] #[(.pointer (some ⟨bq0, 0, none⟩))])), (6, (iv x177)), (7, (iv x192)), (8, (iv x193)), (9, (iv (w64 (x192 + x177)))), (33, (iv x193)), (34, (iv p1)), (35, (.bool (decide (x193 ≤ p1)))), (49, (iv x192)), (50, (iv x177)), (51, (iv (w64 (x192 + x177)))), (52, (iv (w64 (x192 + x177)))), (53, (iv p1)), (54, (.bool (decide ((w64 (x192 + x177)) < p1)))), (55, (.slice Ap0_0 (y201).length cp0_0)), (56, (iv x192)), (57, (iv (w64 (x192 + x177)))), (58, (iv p1)), (59, (.func (.func 15) #[] #[(.pointer (some ⟨bq0, 0, none⟩))])), (60, (.tuple #[]))]) (le := [(0, ow Ap0_0 cp0_0 45 fl_TRow y201)]) (.cons (slenV rfl (by rw [hgky201_0])) (.cons rfl (.cons rfl (.cons rfl (.cons rfl (.cons rfl (.cons rfl (.cons rfl (.cons rfl (.cons rfl (.cons rfl (.cons rfl (.cons rfl (.cons rfl (.cons rfl (.cons rfl (.cons (slenV rfl (by rw [hgky201_0])) (.r rfl)))))))))))))))))) (.r rfl) ?_
      refine Tr.nil ?_
      exact Tr.backThen leJ199 y201 ⟨H, hsky201_0⟩ (.r rfl) (.r rfl)
     ·refine Tr.skip ?_
      exact Tr.backThen leJ199 l191 ⟨H, hl191⟩ (.r rfl) (.r rfl)
    ·intro w l198 hlJ200 hs
     obtain ⟨H, hl198⟩ := hs
     replace H : F_slices_stableCmpFunc_row__Of_2__Of_1_J8 x177 (F_slices_stableCmpFunc_row__Of_2__Of_1_L6 N p1 mL6) l198 = some r := H
     replace hc0 := hlJ200.ext.cells hb0 hc0
     replace hb0 := hlJ200.r _ hb0
     replace leB := leB.trans hlJ200
     replace leL1 := leL1.trans hlJ200
     replace leL6 := leL6.trans hlJ200
     replace leL7 := leL7.trans hlJ200
     replace hl198 : (l198).length = (p0).length := hl198
     have hfl198 : SlF Ap0_0 (l198).length cp0_0 := (by rw [hl198]; exact hfhp0_0)
     unfold F_slices_stableCmpFunc_row__Of_2__Of_1_J8 at H
     show Tr _ _ (LF [(0, (.slice Ap0_0 (l198).length cp0_0)), (1, (iv p1)), (2, (.func (.func 15) #[] #[(.pointer (some ⟨bq0, 0, none⟩))])), (6, (iv x177))]) (LE [(0, ow Ap0_0 cp0_0 45 fl_TRow l198)]) _
     refine Tr.region ?_
     refine Tr.mv rfl rfl ?_
     refine Tr.v2 rfl run_mul rfl rfl ?_
     refine Tr.asg rfl rfl ?_
     refine Tr.nil (Tr.normBlock ?_)
     exact Tr.backThen leL6 (l198, (w64 (x177 * 2))) ⟨H, hl198⟩ (.r rfl) (.r rfl)
  ·refine Tr.exit (Tr.exitThen (Tr.exitThen (Tr.exitBlock (Tr.offEnd ?_))))
   obtain rfl := Option.some.inj H
   exact Tr.out (m := []) [] res_nil (fun W hW => ⟨w, (), leB, rfl, hl176, hW.pick (ks := [0]) (by decide) (pk_cons rfl pk_nil)⟩)

theorem F_slices_SortStableFunc_row__Of_2__Of_1_ok (N : Nat) {w : Bs} (p0 : (List TRow)) (Ap0_0 : Option Addr) (cp0_0 : Nat) (bq0 : Nat) (hb0 : w.R bq0) (hc0 : CellsAt w.W bq0 0 [(.func (.func 13) #[] #[])]) (r : (List TRow)) (H : F_slices_SortStableFunc_row__Of_2__Of_1 N p0 = some r) (hE : HF w w.W (LEn [ow Ap0_0 cp0_0 45 fl_TRow p0])) : Calls Tryz.prog 14 [(.slice Ap0_0 (p0).length cp0_0), (.func (.func 15) #[] #[(.pointer (some ⟨bq0, 0, none⟩))])].toArray w.W fun e W' => ∃ (w' : Bs) (u : Unit), w.Le w' ∧ e = .returned (.tuple #[]) ∧ ((r).length = (p0).length) ∧ HF w' W' (LEn [ow Ap0_0 cp0_0 45 fl_TRow r]) := by
 unfold F_slices_SortStableFunc_row__Of_2__Of_1 at H
 have hfhp0_0 := (hE.sl (k := 0) rfl).form
 have leB := Bs.Le.refl w
 refine Tr.enter (n := 9) Tryz.func14 rfl rfl rfl hE ?_
 refine Tr.region ?_
 refine Tr.mv rfl rfl ?_
 refine Tr.mv rfl rfl ?_
 refine Tr.v1 rfl (run_len un_42) rfl ?_
 refine Tr.mv rfl rfl ?_
 obtain ⟨y100, hy100, H⟩ := bnd H
 refine Tr.callG [0] [ow Ap0_0 cp0_0 45 fl_TRow p0] (U := Unit) (fun u => (.tuple #[])) (fun O W u => (y100).length = (p0).length) (fun u => [ow Ap0_0 cp0_0 45 fl_TRow y100]) rfl (pk_cons rfl pk_nil) (fun _ => rfl) (wn rfl) rfl Tryz.call34 (evl_cons rfl (evl_cons rfl (evl_cons rfl evl_nil))) (fun W hW hp hE => F_slices_stableCmpFunc_row__Of_2__Of_1_ok N p0 Ap0_0 cp0_0 (p0.length : Int) bq0 ((hW.extS hp).r _ hb0) ((hW.extS hp).cells hb0 hc0) y100 hy100 hE) ?_
 intro w u le101 hu
 have gky100_0 := hu
 replace hc0 := le101.ext.cells hb0 hc0
 replace hb0 := le101.r _ hb0
 replace leB := leB.trans le101
 have hgky100_0 : (y100).length = (p0).length := gky100_0 --@phi
 have hfky100_0 : SlF Ap0_0 (y100).length cp0_0 := by rw [hgky100_0]; exact hfhp0_0
 have hsky100_0 := hgky100_0.trans rfl
 show Tr _ _ (uf _ 8 (.tuple #[])) (up _ 0 (ow Ap0_0 cp0_0 45 fl_TRow y100)) _
 refine Tr.sel (lf := [(0, (.slice Ap0_0 (y100).length cp0_0)), (1, (.func (.func 15) #[] #[(.pointer (some ⟨bq0, 0, none⟩))])), (4, (.slice Ap0_0 (y100).length cp0_0)), (5, (.slice Ap0_0 (y100).length cp0_0)), (6, (iv (p0.length : Int))), (7, (.func (.func 15) #[] #[(.pointer (some ⟨bq0, 0, none⟩))])), (8, (.tuple #[]))]) (le := [(0, ow Ap0_0 cp0_0 45 fl_TRow y100)]) (.cons (slenV rfl (by rw [hgky100_0])) (.cons rfl (.cons (slenV rfl (by rw [hgky100_0])) (.cons (slenV rfl (by rw [hgky100_0])) (.r rfl))))) (.r rfl) ?_
 refine Tr.nil (Tr.offEnd ?_)
 obtain rfl := Option.some.inj H
 exact Tr.out (m := []) [] res_nil (fun W hW => ⟨w, (), leB, rfl, hsky100_0, hW.pick (ks := [0]) (by decide) (pk_cons rfl pk_nil)⟩)

end Go.Proofs.YtcjeebkoafonpaaGreatDoor
