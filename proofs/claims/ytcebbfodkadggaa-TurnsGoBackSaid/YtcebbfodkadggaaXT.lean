/- Types of the data, and closed facts of the program's table of types. -/
import Derived.Test.YtcebbfodkadggaaProg
import Derived.Test.YtcebbfodkadggaaH13
import Derived.Test.YtcebbfodkadggaaH14
import Derived.Test.YtcebbfodkadggaaH15
import Derived.Test.YtcebbfodkadggaaH16
import Derived.Test.YtcebbfodkadggaaSH
namespace Go.Proofs.Ytcebbfodkadggaa
open Go.RowKit
set_option maxRecDepth 100000
structure TPoint where
  X : Int
  Y : Int
structure TTurn where
  Flip : Bool
  Quarters : Int
  At : TPoint
structure TRect where
  X0 : Int
  Y0 : Int
  X1 : Int
  Y1 : Int
structure TBand where
  Y0 : Int
  Y1 : Int
  Xs : (List Int)
def fl_TRect : Fl TRect := Fl.flat 4 (fun x => [(.int .i64 x.X0), (.int .i64 x.Y0), (.int .i64 x.X1), (.int .i64 x.Y1)]) (fun _ => rfl) (fun _ u h => by
  simp at h
  rcases h with rfl | rfl | rfl | rfl <;> rfl)
theorem ef_TRect : ∀ u x, fl_TRect.enc u x = [(.int .i64 x.X0), (.int .i64 x.Y0), (.int .i64 x.X1), (.int .i64 x.Y1)] := fun _ _ => rfl
theorem tr_TRect : fl_TRect.Tri := fun _ _ _ _ => trivial
def fl_i64 : Fl Int := Fl.flat 1 (fun x => [(.int .i64 x)]) (fun _ => rfl) (fun _ u h => by
  simp at h
  subst h; rfl)
theorem ef_i64 : ∀ u x, fl_i64.enc u x = [(.int .i64 x)] := fun _ _ => rfl
theorem tr_i64 : fl_i64.Tri := fun _ _ _ _ => trivial
def fl_TBand : Fl TBand where
  Ad := (Option Addr × Nat)
  sz := 3
  enc u x := [(.int .i64 x.Y0), (.int .i64 x.Y1), (.slice u.1 (x.Xs).length u.2)]
  ok S W u x := Sl S W fl_i64 u.1 u.2 x.Xs
  len _ _ := rfl
  one _ _ v h := by
    simp at h
    rcases h with rfl | rfl | rfl <;> rfl
  loc h hs hb := h.go hs hb
theorem ag_29 : aggOf Try.prog 29 = some true := by kernel_rfl
theorem ag_3 : aggOf Try.prog 3 = some false := by kernel_rfl
theorem ag_35 : aggOf Try.prog 35 = some true := by kernel_rfl
theorem ag_4 : aggOf Try.prog 4 = some false := by kernel_rfl
theorem ag_42 : aggOf Try.prog 42 = some true := by kernel_rfl
theorem ag_89 : aggOf Try.prog 89 = some false := by kernel_rfl
theorem ag_96 : aggOf Try.prog 96 = some true := by kernel_rfl
theorem sz_29 : szOf Try.prog 29 = some 4 := by kernel_rfl
theorem sz_3 : szOf Try.prog 3 = some 1 := by kernel_rfl
theorem sz_35 : szOf Try.prog 35 = some 2 := by kernel_rfl
theorem sz_42 : szOf Try.prog 42 = some 4 := by kernel_rfl
theorem sz_89 : szOf Try.prog 89 = some 1 := by kernel_rfl
theorem sz_96 : szOf Try.prog 96 = some 3 := by kernel_rfl
theorem ze_29 : zeroOf Try.prog 29 = some [(.int .i64 0), (.int .i64 0), (.int .i64 0), (.int .i64 0)] := by kernel_rfl
theorem ze_3 : zeroOf Try.prog 3 = some [(.int .i64 0)] := by kernel_rfl
theorem ze_35 : zeroOf Try.prog 35 = some [(.int .i64 0), (.int .i64 0)] := by kernel_rfl
theorem ze_42 : zeroOf Try.prog 42 = some [(.bool false), (.int .i64 0), (.int .i64 0), (.int .i64 0)] := by kernel_rfl
theorem ze_89 : zeroOf Try.prog 89 = some [(.slice none 0 0)] := by kernel_rfl
theorem ze_96 : zeroOf Try.prog 96 = some [(.int .i64 0), (.int .i64 0), (.slice none 0 0)] := by kernel_rfl
theorem zl_29 : (zeroOf Try.prog 29).map List.length = some 4 := by kernel_rfl
theorem zl_3 : (zeroOf Try.prog 3).map List.length = some 1 := by kernel_rfl
theorem zl_96 : (zeroOf Try.prog 96).map List.length = some 3 := by kernel_rfl
theorem by_29 : (Try.prog.info? 29).map (·.bytes) = some 32 := by kernel_rfl
theorem by_3 : (Try.prog.info? 3).map (·.bytes) = some 8 := by kernel_rfl
theorem by_96 : (Try.prog.info? 96).map (·.bytes) = some 40 := by kernel_rfl
theorem fo_29_0 : fieldOf Try.prog 29 0 = some 0 := by kernel_rfl
theorem fo_29_1 : fieldOf Try.prog 29 1 = some 1 := by kernel_rfl
theorem fo_29_2 : fieldOf Try.prog 29 2 = some 2 := by kernel_rfl
theorem fo_29_3 : fieldOf Try.prog 29 3 = some 3 := by kernel_rfl
theorem fo_35_0 : fieldOf Try.prog 35 0 = some 0 := by kernel_rfl
theorem fo_35_1 : fieldOf Try.prog 35 1 = some 1 := by kernel_rfl
theorem fo_42_0 : fieldOf Try.prog 42 0 = some 0 := by kernel_rfl
theorem fo_42_1 : fieldOf Try.prog 42 1 = some 1 := by kernel_rfl
theorem fo_42_2 : fieldOf Try.prog 42 2 = some 2 := by kernel_rfl
theorem fo_96_0 : fieldOf Try.prog 96 0 = some 0 := by kernel_rfl
theorem fo_96_1 : fieldOf Try.prog 96 1 = some 1 := by kernel_rfl
theorem fo_96_2 : fieldOf Try.prog 96 2 = some 2 := by kernel_rfl
theorem el_22 : elemOf? Try.prog 22 = some (29, 4) := by kernel_rfl
theorem el_66 : elemOf? Try.prog 66 = some (96, 3) := by kernel_rfl
theorem el_89 : elemOf? Try.prog 89 = some (3, 1) := by kernel_rfl
theorem un_22 : Try.prog.underlying 22 = some (.slice 29) := by kernel_rfl
theorem un_4 : Try.prog.underlying 4 = some (.bool) := by kernel_rfl
theorem un_66 : Try.prog.underlying 66 = some (.slice 96) := by kernel_rfl
theorem un_89 : Try.prog.underlying 89 = some (.slice 3) := by kernel_rfl
def eqTRect (a b : TRect) : Bool := (a.X0 == b.X0) && ((a.Y0 == b.Y0) && ((a.X1 == b.X1) && ((a.Y1 == b.Y1) && true)))
theorem eqTRect_iff {a b : TRect} : eqTRect a b = true ↔ a = b := by
  cases a; cases b; simp [eqTRect, sEq_iff]
theorem eqr_29 (a b : TRect) (d : Nat) (W : World) : (Op.equalIn (d + 2) 29 (.agg #[(.int .i64 a.X0), (.int .i64 a.Y0), (.int .i64 a.X1), (.int .i64 a.Y1)]) (.agg #[(.int .i64 b.X0), (.int .i64 b.Y0), (.int .i64 b.X1), (.int .i64 b.Y1)])).run Try.prog W = .ok (eqTRect a b) W := by
  rw [show d + 2 = (d + 1) + 1 from rfl, run_equalIn_struct W _ 29 _ _ (by kernel_rfl) (by kernel_rfl)]
  simp only [Program.fieldsOf, Try.underlying29]
  exact eqF_cons rfl (part1 ag_3 rfl) (part1 ag_3 rfl) (eq_int Try.underlying3) (eqF_cons rfl (part1 ag_3 rfl) (part1 ag_3 rfl) (eq_int Try.underlying3) (eqF_cons rfl (part1 ag_3 rfl) (part1 ag_3 rfl) (eq_int Try.underlying3) (eqF_cons rfl (part1 ag_3 rfl) (part1 ag_3 rfl) (eq_int Try.underlying3) (eqF_nil))))
theorem run_eql_29 {ρ : Operand → Value} {W : World} {dd : Option Tmp} {ty T' : TypeId} {pos : String} {af : Array Edge} {g : Option (Nat × Bool)} {p q : Operand} (a b : TRect) (hp : ρ p = .agg #[(.int .i64 a.X0), (.int .i64 a.Y0), (.int .i64 a.X1), (.int .i64 a.Y1)]) (hq : ρ q = .agg #[(.int .i64 b.X0), (.int .i64 b.Y0), (.int .i64 b.X1), (.int .i64 b.Y1)]) : (execOp ρ ⟨dd, .binOp .eql 29 p q T', ty, pos, af, g⟩).run Try.prog W = .ok (.value (.bool (eqTRect a b))) W :=
  run_eqlG (m := 9998 + 2) rfl (by kernel_rfl) (eqr_29 a b 9998 W) hp hq
theorem run_neq_29 {ρ : Operand → Value} {W : World} {dd : Option Tmp} {ty T' : TypeId} {pos : String} {af : Array Edge} {g : Option (Nat × Bool)} {p q : Operand} (a b : TRect) (hp : ρ p = .agg #[(.int .i64 a.X0), (.int .i64 a.Y0), (.int .i64 a.X1), (.int .i64 a.Y1)]) (hq : ρ q = .agg #[(.int .i64 b.X0), (.int .i64 b.Y0), (.int .i64 b.X1), (.int .i64 b.Y1)]) : (execOp ρ ⟨dd, .binOp .neq 29 p q T', ty, pos, af, g⟩).run Try.prog W = .ok (.value (.bool (!eqTRect a b))) W :=
  run_neqG (m := 9998 + 2) rfl (by kernel_rfl) (eqr_29 a b 9998 W) hp hq
def eqTPoint (a b : TPoint) : Bool := (a.X == b.X) && ((a.Y == b.Y) && true)
theorem eqTPoint_iff {a b : TPoint} : eqTPoint a b = true ↔ a = b := by
  cases a; cases b; simp [eqTPoint, sEq_iff]
theorem eqr_35 (a b : TPoint) (d : Nat) (W : World) : (Op.equalIn (d + 2) 35 (.agg #[(.int .i64 a.X), (.int .i64 a.Y)]) (.agg #[(.int .i64 b.X), (.int .i64 b.Y)])).run Try.prog W = .ok (eqTPoint a b) W := by
  rw [show d + 2 = (d + 1) + 1 from rfl, run_equalIn_struct W _ 35 _ _ (by kernel_rfl) (by kernel_rfl)]
  simp only [Program.fieldsOf, Try.underlying35]
  exact eqF_cons rfl (part1 ag_3 rfl) (part1 ag_3 rfl) (eq_int Try.underlying3) (eqF_cons rfl (part1 ag_3 rfl) (part1 ag_3 rfl) (eq_int Try.underlying3) (eqF_nil))
theorem run_eql_35 {ρ : Operand → Value} {W : World} {dd : Option Tmp} {ty T' : TypeId} {pos : String} {af : Array Edge} {g : Option (Nat × Bool)} {p q : Operand} (a b : TPoint) (hp : ρ p = .agg #[(.int .i64 a.X), (.int .i64 a.Y)]) (hq : ρ q = .agg #[(.int .i64 b.X), (.int .i64 b.Y)]) : (execOp ρ ⟨dd, .binOp .eql 35 p q T', ty, pos, af, g⟩).run Try.prog W = .ok (.value (.bool (eqTPoint a b))) W :=
  run_eqlG (m := 9998 + 2) rfl (by kernel_rfl) (eqr_35 a b 9998 W) hp hq
theorem run_neq_35 {ρ : Operand → Value} {W : World} {dd : Option Tmp} {ty T' : TypeId} {pos : String} {af : Array Edge} {g : Option (Nat × Bool)} {p q : Operand} (a b : TPoint) (hp : ρ p = .agg #[(.int .i64 a.X), (.int .i64 a.Y)]) (hq : ρ q = .agg #[(.int .i64 b.X), (.int .i64 b.Y)]) : (execOp ρ ⟨dd, .binOp .neq 35 p q T', ty, pos, af, g⟩).run Try.prog W = .ok (.value (.bool (!eqTPoint a b))) W :=
  run_neqG (m := 9998 + 2) rfl (by kernel_rfl) (eqr_35 a b 9998 W) hp hq
def eqTTurn (a b : TTurn) : Bool := (a.Flip == b.Flip) && ((a.Quarters == b.Quarters) && (eqTPoint a.At b.At && true))
theorem eqTTurn_iff {a b : TTurn} : eqTTurn a b = true ↔ a = b := by
  cases a; cases b; simp [eqTTurn, sEq_iff, eqTPoint_iff]
theorem eqr_42 (a b : TTurn) (d : Nat) (W : World) : (Op.equalIn (d + 3) 42 (.agg #[(.bool a.Flip), (.int .i64 a.Quarters), (.int .i64 a.At.X), (.int .i64 a.At.Y)]) (.agg #[(.bool b.Flip), (.int .i64 b.Quarters), (.int .i64 b.At.X), (.int .i64 b.At.Y)])).run Try.prog W = .ok (eqTTurn a b) W := by
  rw [show d + 3 = (d + 2) + 1 from rfl, run_equalIn_struct W _ 42 _ _ (by kernel_rfl) (by kernel_rfl)]
  simp only [Program.fieldsOf, Try.underlying42]
  exact eqF_cons rfl (part1 ag_4 rfl) (part1 ag_4 rfl) (eq_bool Try.underlying4) (eqF_cons rfl (part1 ag_3 rfl) (part1 ag_3 rfl) (eq_int Try.underlying3) (eqF_cons rfl (partN ag_35 sz_35) (partN ag_35 sz_35) (eqr_35 a.At b.At _ W) (eqF_nil)))
theorem run_eql_42 {ρ : Operand → Value} {W : World} {dd : Option Tmp} {ty T' : TypeId} {pos : String} {af : Array Edge} {g : Option (Nat × Bool)} {p q : Operand} (a b : TTurn) (hp : ρ p = .agg #[(.bool a.Flip), (.int .i64 a.Quarters), (.int .i64 a.At.X), (.int .i64 a.At.Y)]) (hq : ρ q = .agg #[(.bool b.Flip), (.int .i64 b.Quarters), (.int .i64 b.At.X), (.int .i64 b.At.Y)]) : (execOp ρ ⟨dd, .binOp .eql 42 p q T', ty, pos, af, g⟩).run Try.prog W = .ok (.value (.bool (eqTTurn a b))) W :=
  run_eqlG (m := 9997 + 3) rfl (by kernel_rfl) (eqr_42 a b 9997 W) hp hq
theorem run_neq_42 {ρ : Operand → Value} {W : World} {dd : Option Tmp} {ty T' : TypeId} {pos : String} {af : Array Edge} {g : Option (Nat × Bool)} {p q : Operand} (a b : TTurn) (hp : ρ p = .agg #[(.bool a.Flip), (.int .i64 a.Quarters), (.int .i64 a.At.X), (.int .i64 a.At.Y)]) (hq : ρ q = .agg #[(.bool b.Flip), (.int .i64 b.Quarters), (.int .i64 b.At.X), (.int .i64 b.At.Y)]) : (execOp ρ ⟨dd, .binOp .neq 42 p q T', ty, pos, af, g⟩).run Try.prog W = .ok (.value (.bool (!eqTTurn a b))) W :=
  run_neqG (m := 9997 + 3) rfl (by kernel_rfl) (eqr_42 a b 9997 W) hp hq
end Go.Proofs.Ytcebbfodkadggaa
