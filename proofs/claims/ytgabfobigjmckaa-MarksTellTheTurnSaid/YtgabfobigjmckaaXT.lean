/- Types of the data, and closed facts of the program's table of types. -/
import Derived.Test.YtgabfobigjmckaaProg
import Derived.Test.YtgabfobigjmckaaH13
import Derived.Test.YtgabfobigjmckaaH14
import Derived.Test.YtgabfobigjmckaaSH
namespace Go.Proofs.Ytgabfobigjmckaa
open Go.RowKit
set_option maxRecDepth 100000
structure TBoardKind where
  Name : ByteArray
  W : Int
  H : Int
structure TPoint where
  X : Int
  Y : Int
structure TSlot where
  Board : ByteArray
  Quarters : Int
  At : TPoint
structure TPanel where
  W : Int
  H : Int
  Rail : Int
  Gap : Int
  Kinds : (List TBoardKind)
  Slots : (List TSlot)
  Marks : (List TPoint)
structure TRect where
  X0 : Int
  Y0 : Int
  X1 : Int
  Y1 : Int
structure TTurn where
  Flip : Bool
  Quarters : Int
  At : TPoint
structure TShare where
  Num : Int
  Den : Int
def fl_TBoardKind : Fl TBoardKind := Fl.flat 3 (fun x => [(.string x.Name), (.int .i64 x.W), (.int .i64 x.H)]) (fun _ => rfl) (fun _ u h => by
  simp at h
  rcases h with rfl | rfl | rfl <;> rfl)
theorem ef_TBoardKind : ∀ u x, fl_TBoardKind.enc u x = [(.string x.Name), (.int .i64 x.W), (.int .i64 x.H)] := fun _ _ => rfl
theorem tr_TBoardKind : fl_TBoardKind.Tri := fun _ _ _ _ => trivial
def fl_TSlot : Fl TSlot := Fl.flat 4 (fun x => [(.string x.Board), (.int .i64 x.Quarters), (.int .i64 x.At.X), (.int .i64 x.At.Y)]) (fun _ => rfl) (fun _ u h => by
  simp at h
  rcases h with rfl | rfl | rfl | rfl <;> rfl)
theorem ef_TSlot : ∀ u x, fl_TSlot.enc u x = [(.string x.Board), (.int .i64 x.Quarters), (.int .i64 x.At.X), (.int .i64 x.At.Y)] := fun _ _ => rfl
theorem tr_TSlot : fl_TSlot.Tri := fun _ _ _ _ => trivial
def fl_TPoint : Fl TPoint := Fl.flat 2 (fun x => [(.int .i64 x.X), (.int .i64 x.Y)]) (fun _ => rfl) (fun _ u h => by
  simp at h
  rcases h with rfl | rfl <;> rfl)
theorem ef_TPoint : ∀ u x, fl_TPoint.enc u x = [(.int .i64 x.X), (.int .i64 x.Y)] := fun _ _ => rfl
theorem tr_TPoint : fl_TPoint.Tri := fun _ _ _ _ => trivial
def fl_TRect : Fl TRect := Fl.flat 4 (fun x => [(.int .i64 x.X0), (.int .i64 x.Y0), (.int .i64 x.X1), (.int .i64 x.Y1)]) (fun _ => rfl) (fun _ u h => by
  simp at h
  rcases h with rfl | rfl | rfl | rfl <;> rfl)
theorem ef_TRect : ∀ u x, fl_TRect.enc u x = [(.int .i64 x.X0), (.int .i64 x.Y0), (.int .i64 x.X1), (.int .i64 x.Y1)] := fun _ _ => rfl
theorem tr_TRect : fl_TRect.Tri := fun _ _ _ _ => trivial
def fl_TTurn : Fl TTurn := Fl.flat 4 (fun x => [(.bool x.Flip), (.int .i64 x.Quarters), (.int .i64 x.At.X), (.int .i64 x.At.Y)]) (fun _ => rfl) (fun _ u h => by
  simp at h
  rcases h with rfl | rfl | rfl | rfl <;> rfl)
theorem ef_TTurn : ∀ u x, fl_TTurn.enc u x = [(.bool x.Flip), (.int .i64 x.Quarters), (.int .i64 x.At.X), (.int .i64 x.At.Y)] := fun _ _ => rfl
theorem tr_TTurn : fl_TTurn.Tri := fun _ _ _ _ => trivial
theorem ag_106 : aggOf Try.prog 106 = some true := by kernel_rfl
theorem ag_22 : aggOf Try.prog 22 = some false := by kernel_rfl
theorem ag_23 : aggOf Try.prog 23 = some false := by kernel_rfl
theorem ag_24 : aggOf Try.prog 24 = some false := by kernel_rfl
theorem ag_26 : aggOf Try.prog 26 = some true := by kernel_rfl
theorem ag_3 : aggOf Try.prog 3 = some false := by kernel_rfl
theorem ag_31 : aggOf Try.prog 31 = some true := by kernel_rfl
theorem ag_33 : aggOf Try.prog 33 = some true := by kernel_rfl
theorem ag_4 : aggOf Try.prog 4 = some false := by kernel_rfl
theorem ag_51 : aggOf Try.prog 51 = some true := by kernel_rfl
theorem ag_63 : aggOf Try.prog 63 = some true := by kernel_rfl
theorem ag_86 : aggOf Try.prog 86 = some true := by kernel_rfl
theorem ag_9 : aggOf Try.prog 9 = some false := by kernel_rfl
theorem sz_106 : szOf Try.prog 106 = some 4 := by kernel_rfl
theorem sz_26 : szOf Try.prog 26 = some 7 := by kernel_rfl
theorem sz_3 : szOf Try.prog 3 = some 1 := by kernel_rfl
theorem sz_31 : szOf Try.prog 31 = some 2 := by kernel_rfl
theorem sz_33 : szOf Try.prog 33 = some 4 := by kernel_rfl
theorem sz_51 : szOf Try.prog 51 = some 4 := by kernel_rfl
theorem sz_63 : szOf Try.prog 63 = some 2 := by kernel_rfl
theorem sz_86 : szOf Try.prog 86 = some 3 := by kernel_rfl
theorem ze_106 : zeroOf Try.prog 106 = some [(.string ⟨#[]⟩), (.int .i64 0), (.int .i64 0), (.int .i64 0)] := by kernel_rfl
theorem ze_31 : zeroOf Try.prog 31 = some [(.int .i64 0), (.int .i64 0)] := by kernel_rfl
theorem ze_33 : zeroOf Try.prog 33 = some [(.bool false), (.int .i64 0), (.int .i64 0), (.int .i64 0)] := by kernel_rfl
theorem ze_51 : zeroOf Try.prog 51 = some [(.int .i64 0), (.int .i64 0), (.int .i64 0), (.int .i64 0)] := by kernel_rfl
theorem ze_63 : zeroOf Try.prog 63 = some [(.int .i64 0), (.int .i64 0)] := by kernel_rfl
theorem ze_86 : zeroOf Try.prog 86 = some [(.string ⟨#[]⟩), (.int .i64 0), (.int .i64 0)] := by kernel_rfl
theorem zl_31 : (zeroOf Try.prog 31).map List.length = some 2 := by kernel_rfl
theorem zl_33 : (zeroOf Try.prog 33).map List.length = some 4 := by kernel_rfl
theorem zl_51 : (zeroOf Try.prog 51).map List.length = some 4 := by kernel_rfl
theorem by_31 : (Try.prog.info? 31).map (·.bytes) = some 16 := by kernel_rfl
theorem by_33 : (Try.prog.info? 33).map (·.bytes) = some 32 := by kernel_rfl
theorem by_51 : (Try.prog.info? 51).map (·.bytes) = some 32 := by kernel_rfl
theorem fo_106_0 : fieldOf Try.prog 106 0 = some 0 := by kernel_rfl
theorem fo_106_1 : fieldOf Try.prog 106 1 = some 1 := by kernel_rfl
theorem fo_106_2 : fieldOf Try.prog 106 2 = some 2 := by kernel_rfl
theorem fo_26_0 : fieldOf Try.prog 26 0 = some 0 := by kernel_rfl
theorem fo_26_1 : fieldOf Try.prog 26 1 = some 1 := by kernel_rfl
theorem fo_26_2 : fieldOf Try.prog 26 2 = some 2 := by kernel_rfl
theorem fo_26_3 : fieldOf Try.prog 26 3 = some 3 := by kernel_rfl
theorem fo_26_4 : fieldOf Try.prog 26 4 = some 4 := by kernel_rfl
theorem fo_26_5 : fieldOf Try.prog 26 5 = some 5 := by kernel_rfl
theorem fo_26_6 : fieldOf Try.prog 26 6 = some 6 := by kernel_rfl
theorem fo_31_0 : fieldOf Try.prog 31 0 = some 0 := by kernel_rfl
theorem fo_31_1 : fieldOf Try.prog 31 1 = some 1 := by kernel_rfl
theorem fo_33_0 : fieldOf Try.prog 33 0 = some 0 := by kernel_rfl
theorem fo_33_1 : fieldOf Try.prog 33 1 = some 1 := by kernel_rfl
theorem fo_33_2 : fieldOf Try.prog 33 2 = some 2 := by kernel_rfl
theorem fo_51_0 : fieldOf Try.prog 51 0 = some 0 := by kernel_rfl
theorem fo_51_1 : fieldOf Try.prog 51 1 = some 1 := by kernel_rfl
theorem fo_51_2 : fieldOf Try.prog 51 2 = some 2 := by kernel_rfl
theorem fo_51_3 : fieldOf Try.prog 51 3 = some 3 := by kernel_rfl
theorem fo_86_0 : fieldOf Try.prog 86 0 = some 0 := by kernel_rfl
theorem fo_86_1 : fieldOf Try.prog 86 1 = some 1 := by kernel_rfl
theorem fo_86_2 : fieldOf Try.prog 86 2 = some 2 := by kernel_rfl
theorem el_22 : elemOf? Try.prog 22 = some (86, 3) := by kernel_rfl
theorem el_23 : elemOf? Try.prog 23 = some (106, 4) := by kernel_rfl
theorem el_24 : elemOf? Try.prog 24 = some (31, 2) := by kernel_rfl
theorem el_45 : elemOf? Try.prog 45 = some (51, 4) := by kernel_rfl
theorem el_58 : elemOf? Try.prog 58 = some (33, 4) := by kernel_rfl
theorem un_22 : Try.prog.underlying 22 = some (.slice 86) := by kernel_rfl
theorem un_23 : Try.prog.underlying 23 = some (.slice 106) := by kernel_rfl
theorem un_24 : Try.prog.underlying 24 = some (.slice 31) := by kernel_rfl
theorem un_4 : Try.prog.underlying 4 = some (.bool) := by kernel_rfl
theorem un_45 : Try.prog.underlying 45 = some (.slice 51) := by kernel_rfl
theorem un_58 : Try.prog.underlying 58 = some (.slice 33) := by kernel_rfl
theorem un_9 : Try.prog.underlying 9 = some (.string) := by kernel_rfl
def eqTPoint (a b : TPoint) : Bool := (a.X == b.X) && ((a.Y == b.Y) && true)
theorem eqTPoint_iff {a b : TPoint} : eqTPoint a b = true ↔ a = b := by
  cases a; cases b; simp [eqTPoint, sEq_iff]
theorem eqr_31 (a b : TPoint) (d : Nat) (W : World) : (Op.equalIn (d + 2) 31 (.agg #[(.int .i64 a.X), (.int .i64 a.Y)]) (.agg #[(.int .i64 b.X), (.int .i64 b.Y)])).run Try.prog W = .ok (eqTPoint a b) W := by
  rw [show d + 2 = (d + 1) + 1 from rfl, run_equalIn_struct W _ 31 _ _ (by kernel_rfl) (by kernel_rfl)]
  simp only [Program.fieldsOf, Try.underlying31]
  exact eqF_cons rfl (part1 ag_3 rfl) (part1 ag_3 rfl) (eq_int Try.underlying3) (eqF_cons rfl (part1 ag_3 rfl) (part1 ag_3 rfl) (eq_int Try.underlying3) (eqF_nil))
theorem run_eql_31 {ρ : Operand → Value} {W : World} {dd : Option Tmp} {ty T' : TypeId} {pos : String} {af : Array Edge} {g : Option (Nat × Bool)} {p q : Operand} (a b : TPoint) (hp : ρ p = .agg #[(.int .i64 a.X), (.int .i64 a.Y)]) (hq : ρ q = .agg #[(.int .i64 b.X), (.int .i64 b.Y)]) : (execOp ρ ⟨dd, .binOp .eql 31 p q T', ty, pos, af, g⟩).run Try.prog W = .ok (.value (.bool (eqTPoint a b))) W :=
  run_eqlG (m := 9998 + 2) rfl (by kernel_rfl) (eqr_31 a b 9998 W) hp hq
theorem run_neq_31 {ρ : Operand → Value} {W : World} {dd : Option Tmp} {ty T' : TypeId} {pos : String} {af : Array Edge} {g : Option (Nat × Bool)} {p q : Operand} (a b : TPoint) (hp : ρ p = .agg #[(.int .i64 a.X), (.int .i64 a.Y)]) (hq : ρ q = .agg #[(.int .i64 b.X), (.int .i64 b.Y)]) : (execOp ρ ⟨dd, .binOp .neq 31 p q T', ty, pos, af, g⟩).run Try.prog W = .ok (.value (.bool (!eqTPoint a b))) W :=
  run_neqG (m := 9998 + 2) rfl (by kernel_rfl) (eqr_31 a b 9998 W) hp hq
def eqTTurn (a b : TTurn) : Bool := (a.Flip == b.Flip) && ((a.Quarters == b.Quarters) && (eqTPoint a.At b.At && true))
theorem eqTTurn_iff {a b : TTurn} : eqTTurn a b = true ↔ a = b := by
  cases a; cases b; simp [eqTTurn, sEq_iff, eqTPoint_iff]
theorem eqr_33 (a b : TTurn) (d : Nat) (W : World) : (Op.equalIn (d + 3) 33 (.agg #[(.bool a.Flip), (.int .i64 a.Quarters), (.int .i64 a.At.X), (.int .i64 a.At.Y)]) (.agg #[(.bool b.Flip), (.int .i64 b.Quarters), (.int .i64 b.At.X), (.int .i64 b.At.Y)])).run Try.prog W = .ok (eqTTurn a b) W := by
  rw [show d + 3 = (d + 2) + 1 from rfl, run_equalIn_struct W _ 33 _ _ (by kernel_rfl) (by kernel_rfl)]
  simp only [Program.fieldsOf, Try.underlying33]
  exact eqF_cons rfl (part1 ag_4 rfl) (part1 ag_4 rfl) (eq_bool Try.underlying4) (eqF_cons rfl (part1 ag_3 rfl) (part1 ag_3 rfl) (eq_int Try.underlying3) (eqF_cons rfl (partN ag_31 sz_31) (partN ag_31 sz_31) (eqr_31 a.At b.At _ W) (eqF_nil)))
theorem run_eql_33 {ρ : Operand → Value} {W : World} {dd : Option Tmp} {ty T' : TypeId} {pos : String} {af : Array Edge} {g : Option (Nat × Bool)} {p q : Operand} (a b : TTurn) (hp : ρ p = .agg #[(.bool a.Flip), (.int .i64 a.Quarters), (.int .i64 a.At.X), (.int .i64 a.At.Y)]) (hq : ρ q = .agg #[(.bool b.Flip), (.int .i64 b.Quarters), (.int .i64 b.At.X), (.int .i64 b.At.Y)]) : (execOp ρ ⟨dd, .binOp .eql 33 p q T', ty, pos, af, g⟩).run Try.prog W = .ok (.value (.bool (eqTTurn a b))) W :=
  run_eqlG (m := 9997 + 3) rfl (by kernel_rfl) (eqr_33 a b 9997 W) hp hq
theorem run_neq_33 {ρ : Operand → Value} {W : World} {dd : Option Tmp} {ty T' : TypeId} {pos : String} {af : Array Edge} {g : Option (Nat × Bool)} {p q : Operand} (a b : TTurn) (hp : ρ p = .agg #[(.bool a.Flip), (.int .i64 a.Quarters), (.int .i64 a.At.X), (.int .i64 a.At.Y)]) (hq : ρ q = .agg #[(.bool b.Flip), (.int .i64 b.Quarters), (.int .i64 b.At.X), (.int .i64 b.At.Y)]) : (execOp ρ ⟨dd, .binOp .neq 33 p q T', ty, pos, af, g⟩).run Try.prog W = .ok (.value (.bool (!eqTTurn a b))) W :=
  run_neqG (m := 9997 + 3) rfl (by kernel_rfl) (eqr_33 a b 9997 W) hp hq
def eqTShare (a b : TShare) : Bool := (a.Num == b.Num) && ((a.Den == b.Den) && true)
theorem eqTShare_iff {a b : TShare} : eqTShare a b = true ↔ a = b := by
  cases a; cases b; simp [eqTShare, sEq_iff]
theorem eqr_63 (a b : TShare) (d : Nat) (W : World) : (Op.equalIn (d + 2) 63 (.agg #[(.int .i64 a.Num), (.int .i64 a.Den)]) (.agg #[(.int .i64 b.Num), (.int .i64 b.Den)])).run Try.prog W = .ok (eqTShare a b) W := by
  rw [show d + 2 = (d + 1) + 1 from rfl, run_equalIn_struct W _ 63 _ _ (by kernel_rfl) (by kernel_rfl)]
  simp only [Program.fieldsOf, Try.underlying63]
  exact eqF_cons rfl (part1 ag_3 rfl) (part1 ag_3 rfl) (eq_int Try.underlying3) (eqF_cons rfl (part1 ag_3 rfl) (part1 ag_3 rfl) (eq_int Try.underlying3) (eqF_nil))
theorem run_eql_63 {ρ : Operand → Value} {W : World} {dd : Option Tmp} {ty T' : TypeId} {pos : String} {af : Array Edge} {g : Option (Nat × Bool)} {p q : Operand} (a b : TShare) (hp : ρ p = .agg #[(.int .i64 a.Num), (.int .i64 a.Den)]) (hq : ρ q = .agg #[(.int .i64 b.Num), (.int .i64 b.Den)]) : (execOp ρ ⟨dd, .binOp .eql 63 p q T', ty, pos, af, g⟩).run Try.prog W = .ok (.value (.bool (eqTShare a b))) W :=
  run_eqlG (m := 9998 + 2) rfl (by kernel_rfl) (eqr_63 a b 9998 W) hp hq
theorem run_neq_63 {ρ : Operand → Value} {W : World} {dd : Option Tmp} {ty T' : TypeId} {pos : String} {af : Array Edge} {g : Option (Nat × Bool)} {p q : Operand} (a b : TShare) (hp : ρ p = .agg #[(.int .i64 a.Num), (.int .i64 a.Den)]) (hq : ρ q = .agg #[(.int .i64 b.Num), (.int .i64 b.Den)]) : (execOp ρ ⟨dd, .binOp .neq 63 p q T', ty, pos, af, g⟩).run Try.prog W = .ok (.value (.bool (!eqTShare a b))) W :=
  run_neqG (m := 9998 + 2) rfl (by kernel_rfl) (eqr_63 a b 9998 W) hp hq
end Go.Proofs.Ytgabfobigjmckaa
