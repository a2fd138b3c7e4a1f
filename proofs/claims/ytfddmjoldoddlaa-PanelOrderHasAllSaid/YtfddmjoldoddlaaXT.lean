/- Types of the data, and closed facts of the program's table of types. -/
import Derived.Test.YtfddmjoldoddlaaProg
import Derived.Test.YtfddmjoldoddlaaH13
import Derived.Test.YtfddmjoldoddlaaH14
import Derived.Test.YtfddmjoldoddlaaH15
import Derived.Test.YtfddmjoldoddlaaH17
import Derived.Test.YtfddmjoldoddlaaH20
import Derived.Test.YtfddmjoldoddlaaH23
import Derived.Test.YtfddmjoldoddlaaH25
import Derived.Test.YtfddmjoldoddlaaSH
namespace Go.Proofs.Ytfddmjoldoddlaa
open Go.RowKit
set_option maxRecDepth 100000
structure TBoardKind where
  Name : ByteArray
  W : Int
  H : Int
structure TPoint where
  X : Int
  Y : Int
structure TSlot where
  Board : ByteArray
  Quarters : Int
  At : TPoint
structure TPanel where
  W : Int
  H : Int
  Rail : Int
  Gap : Int
  Kinds : (List TBoardKind)
  Slots : (List TSlot)
  Marks : (List TPoint)
structure TRect where
  X0 : Int
  Y0 : Int
  X1 : Int
  Y1 : Int
structure TShare where
  Num : Int
  Den : Int
def fl_TBoardKind : Fl TBoardKind := Fl.flat 3 (fun x => [(.string x.Name), (.int .i64 x.W), (.int .i64 x.H)]) (fun _ => rfl) (fun _ u h => by
  simp at h
  rcases h with rfl | rfl | rfl <;> rfl)
theorem ef_TBoardKind : ∀ u x, fl_TBoardKind.enc u x = [(.string x.Name), (.int .i64 x.W), (.int .i64 x.H)] := fun _ _ => rfl
theorem tr_TBoardKind : fl_TBoardKind.Tri := fun _ _ _ _ => trivial
def fl_TSlot : Fl TSlot := Fl.flat 4 (fun x => [(.string x.Board), (.int .i64 x.Quarters), (.int .i64 x.At.X), (.int .i64 x.At.Y)]) (fun _ => rfl) (fun _ u h => by
  simp at h
  rcases h with rfl | rfl | rfl | rfl <;> rfl)
theorem ef_TSlot : ∀ u x, fl_TSlot.enc u x = [(.string x.Board), (.int .i64 x.Quarters), (.int .i64 x.At.X), (.int .i64 x.At.Y)] := fun _ _ => rfl
theorem tr_TSlot : fl_TSlot.Tri := fun _ _ _ _ => trivial
def fl_TPoint : Fl TPoint := Fl.flat 2 (fun x => [(.int .i64 x.X), (.int .i64 x.Y)]) (fun _ => rfl) (fun _ u h => by
  simp at h
  rcases h with rfl | rfl <;> rfl)
theorem ef_TPoint : ∀ u x, fl_TPoint.enc u x = [(.int .i64 x.X), (.int .i64 x.Y)] := fun _ _ => rfl
theorem tr_TPoint : fl_TPoint.Tri := fun _ _ _ _ => trivial
def fl_TRect : Fl TRect := Fl.flat 4 (fun x => [(.int .i64 x.X0), (.int .i64 x.Y0), (.int .i64 x.X1), (.int .i64 x.Y1)]) (fun _ => rfl) (fun _ u h => by
  simp at h
  rcases h with rfl | rfl | rfl | rfl <;> rfl)
theorem ef_TRect : ∀ u x, fl_TRect.enc u x = [(.int .i64 x.X0), (.int .i64 x.Y0), (.int .i64 x.X1), (.int .i64 x.Y1)] := fun _ _ => rfl
theorem tr_TRect : fl_TRect.Tri := fun _ _ _ _ => trivial
def fl_i64 : Fl Int := Fl.flat 1 (fun x => [(.int .i64 x)]) (fun _ => rfl) (fun _ u h => by
  simp at h
  subst h; rfl)
theorem ef_i64 : ∀ u x, fl_i64.enc u x = [(.int .i64 x)] := fun _ _ => rfl
theorem tr_i64 : fl_i64.Tri := fun _ _ _ _ => trivial
theorem ag_22 : aggOf Try.prog 22 = some false := by kernel_rfl
theorem ag_23 : aggOf Try.prog 23 = some false := by kernel_rfl
theorem ag_24 : aggOf Try.prog 24 = some false := by kernel_rfl
theorem ag_26 : aggOf Try.prog 26 = some true := by kernel_rfl
theorem ag_3 : aggOf Try.prog 3 = some false := by kernel_rfl
theorem ag_32 : aggOf Try.prog 32 = some false := by kernel_rfl
theorem ag_38 : aggOf Try.prog 38 = some true := by kernel_rfl
theorem ag_51 : aggOf Try.prog 51 = some true := by kernel_rfl
theorem ag_74 : aggOf Try.prog 74 = some true := by kernel_rfl
theorem ag_82 : aggOf Try.prog 82 = some true := by kernel_rfl
theorem ag_9 : aggOf Try.prog 9 = some false := by kernel_rfl
theorem ag_96 : aggOf Try.prog 96 = some true := by kernel_rfl
theorem sz_26 : szOf Try.prog 26 = some 7 := by kernel_rfl
theorem sz_3 : szOf Try.prog 3 = some 1 := by kernel_rfl
theorem sz_32 : szOf Try.prog 32 = some 1 := by kernel_rfl
theorem sz_38 : szOf Try.prog 38 = some 4 := by kernel_rfl
theorem sz_51 : szOf Try.prog 51 = some 2 := by kernel_rfl
theorem sz_74 : szOf Try.prog 74 = some 3 := by kernel_rfl
theorem sz_82 : szOf Try.prog 82 = some 2 := by kernel_rfl
theorem sz_96 : szOf Try.prog 96 = some 4 := by kernel_rfl
theorem ze_32 : zeroOf Try.prog 32 = some [(.slice none 0 0)] := by kernel_rfl
theorem ze_38 : zeroOf Try.prog 38 = some [(.int .i64 0), (.int .i64 0), (.int .i64 0), (.int .i64 0)] := by kernel_rfl
theorem ze_51 : zeroOf Try.prog 51 = some [(.int .i64 0), (.int .i64 0)] := by kernel_rfl
theorem ze_74 : zeroOf Try.prog 74 = some [(.string ⟨#[]⟩), (.int .i64 0), (.int .i64 0)] := by kernel_rfl
theorem ze_82 : zeroOf Try.prog 82 = some [(.int .i64 0), (.int .i64 0)] := by kernel_rfl
theorem ze_96 : zeroOf Try.prog 96 = some [(.string ⟨#[]⟩), (.int .i64 0), (.int .i64 0), (.int .i64 0)] := by kernel_rfl
theorem zl_3 : (zeroOf Try.prog 3).map List.length = some 1 := by kernel_rfl
theorem zl_38 : (zeroOf Try.prog 38).map List.length = some 4 := by kernel_rfl
theorem by_3 : (Try.prog.info? 3).map (·.bytes) = some 8 := by kernel_rfl
theorem by_38 : (Try.prog.info? 38).map (·.bytes) = some 32 := by kernel_rfl
theorem fo_26_0 : fieldOf Try.prog 26 0 = some 0 := by kernel_rfl
theorem fo_26_1 : fieldOf Try.prog 26 1 = some 1 := by kernel_rfl
theorem fo_26_2 : fieldOf Try.prog 26 2 = some 2 := by kernel_rfl
theorem fo_26_3 : fieldOf Try.prog 26 3 = some 3 := by kernel_rfl
theorem fo_26_4 : fieldOf Try.prog 26 4 = some 4 := by kernel_rfl
theorem fo_26_5 : fieldOf Try.prog 26 5 = some 5 := by kernel_rfl
theorem fo_26_6 : fieldOf Try.prog 26 6 = some 6 := by kernel_rfl
theorem fo_38_0 : fieldOf Try.prog 38 0 = some 0 := by kernel_rfl
theorem fo_38_1 : fieldOf Try.prog 38 1 = some 1 := by kernel_rfl
theorem fo_38_2 : fieldOf Try.prog 38 2 = some 2 := by kernel_rfl
theorem fo_38_3 : fieldOf Try.prog 38 3 = some 3 := by kernel_rfl
theorem fo_74_0 : fieldOf Try.prog 74 0 = some 0 := by kernel_rfl
theorem fo_74_1 : fieldOf Try.prog 74 1 = some 1 := by kernel_rfl
theorem fo_74_2 : fieldOf Try.prog 74 2 = some 2 := by kernel_rfl
theorem fo_82_0 : fieldOf Try.prog 82 0 = some 0 := by kernel_rfl
theorem fo_82_1 : fieldOf Try.prog 82 1 = some 1 := by kernel_rfl
theorem fo_96_0 : fieldOf Try.prog 96 0 = some 0 := by kernel_rfl
theorem fo_96_1 : fieldOf Try.prog 96 1 = some 1 := by kernel_rfl
theorem fo_96_2 : fieldOf Try.prog 96 2 = some 2 := by kernel_rfl
theorem el_22 : elemOf? Try.prog 22 = some (74, 3) := by kernel_rfl
theorem el_23 : elemOf? Try.prog 23 = some (96, 4) := by kernel_rfl
theorem el_24 : elemOf? Try.prog 24 = some (82, 2) := by kernel_rfl
theorem el_32 : elemOf? Try.prog 32 = some (38, 4) := by kernel_rfl
theorem el_44 : elemOf? Try.prog 44 = some (3, 1) := by kernel_rfl
theorem zs_44 : (Try.prog.info? 44).bind (·.zero) = some (.slice none 0 0) := by kernel_rfl
theorem un_22 : Try.prog.underlying 22 = some (.slice 74) := by kernel_rfl
theorem un_23 : Try.prog.underlying 23 = some (.slice 96) := by kernel_rfl
theorem un_24 : Try.prog.underlying 24 = some (.slice 82) := by kernel_rfl
theorem un_3 : Try.prog.underlying 3 = some (.int .i64) := by kernel_rfl
theorem un_32 : Try.prog.underlying 32 = some (.slice 38) := by kernel_rfl
theorem un_4 : Try.prog.underlying 4 = some (.bool) := by kernel_rfl
theorem un_44 : Try.prog.underlying 44 = some (.slice 3) := by kernel_rfl
theorem un_68 : Try.prog.underlying 68 = some (.map 3 44) := by kernel_rfl
theorem un_9 : Try.prog.underlying 9 = some (.string) := by kernel_rfl
def eqTRect (a b : TRect) : Bool := (a.X0 == b.X0) && ((a.Y0 == b.Y0) && ((a.X1 == b.X1) && ((a.Y1 == b.Y1) && true)))
theorem eqTRect_iff {a b : TRect} : eqTRect a b = true ↔ a = b := by
  cases a; cases b; simp [eqTRect, sEq_iff]
theorem eqr_38 (a b : TRect) (d : Nat) (W : World) : (Op.equalIn (d + 2) 38 (.agg #[(.int .i64 a.X0), (.int .i64 a.Y0), (.int .i64 a.X1), (.int .i64 a.Y1)]) (.agg #[(.int .i64 b.X0), (.int .i64 b.Y0), (.int .i64 b.X1), (.int .i64 b.Y1)])).run Try.prog W = .ok (eqTRect a b) W := by
  rw [show d + 2 = (d + 1) + 1 from rfl, run_equalIn_struct W _ 38 _ _ (by kernel_rfl) (by kernel_rfl)]
  simp only [Program.fieldsOf, Try.underlying38]
  exact eqF_cons rfl (part1 ag_3 rfl) (part1 ag_3 rfl) (eq_int Try.underlying3) (eqF_cons rfl (part1 ag_3 rfl) (part1 ag_3 rfl) (eq_int Try.underlying3) (eqF_cons rfl (part1 ag_3 rfl) (part1 ag_3 rfl) (eq_int Try.underlying3) (eqF_cons rfl (part1 ag_3 rfl) (part1 ag_3 rfl) (eq_int Try.underlying3) (eqF_nil))))
theorem run_eql_38 {ρ : Operand → Value} {W : World} {dd : Option Tmp} {ty T' : TypeId} {pos : String} {af : Array Edge} {g : Option (Nat × Bool)} {p q : Operand} (a b : TRect) (hp : ρ p = .agg #[(.int .i64 a.X0), (.int .i64 a.Y0), (.int .i64 a.X1), (.int .i64 a.Y1)]) (hq : ρ q = .agg #[(.int .i64 b.X0), (.int .i64 b.Y0), (.int .i64 b.X1), (.int .i64 b.Y1)]) : (execOp ρ ⟨dd, .binOp .eql 38 p q T', ty, pos, af, g⟩).run Try.prog W = .ok (.value (.bool (eqTRect a b))) W :=
  run_eqlG (m := 9998 + 2) rfl (by kernel_rfl) (eqr_38 a b 9998 W) hp hq
theorem run_neq_38 {ρ : Operand → Value} {W : World} {dd : Option Tmp} {ty T' : TypeId} {pos : String} {af : Array Edge} {g : Option (Nat × Bool)} {p q : Operand} (a b : TRect) (hp : ρ p = .agg #[(.int .i64 a.X0), (.int .i64 a.Y0), (.int .i64 a.X1), (.int .i64 a.Y1)]) (hq : ρ q = .agg #[(.int .i64 b.X0), (.int .i64 b.Y0), (.int .i64 b.X1), (.int .i64 b.Y1)]) : (execOp ρ ⟨dd, .binOp .neq 38 p q T', ty, pos, af, g⟩).run Try.prog W = .ok (.value (.bool (!eqTRect a b))) W :=
  run_neqG (m := 9998 + 2) rfl (by kernel_rfl) (eqr_38 a b 9998 W) hp hq
def eqTShare (a b : TShare) : Bool := (a.Num == b.Num) && ((a.Den == b.Den) && true)
theorem eqTShare_iff {a b : TShare} : eqTShare a b = true ↔ a = b := by
  cases a; cases b; simp [eqTShare, sEq_iff]
theorem eqr_51 (a b : TShare) (d : Nat) (W : World) : (Op.equalIn (d + 2) 51 (.agg #[(.int .i64 a.Num), (.int .i64 a.Den)]) (.agg #[(.int .i64 b.Num), (.int .i64 b.Den)])).run Try.prog W = .ok (eqTShare a b) W := by
  rw [show d + 2 = (d + 1) + 1 from rfl, run_equalIn_struct W _ 51 _ _ (by kernel_rfl) (by kernel_rfl)]
  simp only [Program.fieldsOf, Try.underlying51]
  exact eqF_cons rfl (part1 ag_3 rfl) (part1 ag_3 rfl) (eq_int Try.underlying3) (eqF_cons rfl (part1 ag_3 rfl) (part1 ag_3 rfl) (eq_int Try.underlying3) (eqF_nil))
theorem run_eql_51 {ρ : Operand → Value} {W : World} {dd : Option Tmp} {ty T' : TypeId} {pos : String} {af : Array Edge} {g : Option (Nat × Bool)} {p q : Operand} (a b : TShare) (hp : ρ p = .agg #[(.int .i64 a.Num), (.int .i64 a.Den)]) (hq : ρ q = .agg #[(.int .i64 b.Num), (.int .i64 b.Den)]) : (execOp ρ ⟨dd, .binOp .eql 51 p q T', ty, pos, af, g⟩).run Try.prog W = .ok (.value (.bool (eqTShare a b))) W :=
  run_eqlG (m := 9998 + 2) rfl (by kernel_rfl) (eqr_51 a b 9998 W) hp hq
theorem run_neq_51 {ρ : Operand → Value} {W : World} {dd : Option Tmp} {ty T' : TypeId} {pos : String} {af : Array Edge} {g : Option (Nat × Bool)} {p q : Operand} (a b : TShare) (hp : ρ p = .agg #[(.int .i64 a.Num), (.int .i64 a.Den)]) (hq : ρ q = .agg #[(.int .i64 b.Num), (.int .i64 b.Den)]) : (execOp ρ ⟨dd, .binOp .neq 51 p q T', ty, pos, af, g⟩).run Try.prog W = .ok (.value (.bool (!eqTShare a b))) W :=
  run_neqG (m := 9998 + 2) rfl (by kernel_rfl) (eqr_51 a b 9998 W) hp hq
def eqTPoint (a b : TPoint) : Bool := (a.X == b.X) && ((a.Y == b.Y) && true)
theorem eqTPoint_iff {a b : TPoint} : eqTPoint a b = true ↔ a = b := by
  cases a; cases b; simp [eqTPoint, sEq_iff]
theorem eqr_82 (a b : TPoint) (d : Nat) (W : World) : (Op.equalIn (d + 2) 82 (.agg #[(.int .i64 a.X), (.int .i64 a.Y)]) (.agg #[(.int .i64 b.X), (.int .i64 b.Y)])).run Try.prog W = .ok (eqTPoint a b) W := by
  rw [show d + 2 = (d + 1) + 1 from rfl, run_equalIn_struct W _ 82 _ _ (by kernel_rfl) (by kernel_rfl)]
  simp only [Program.fieldsOf, Try.underlying82]
  exact eqF_cons rfl (part1 ag_3 rfl) (part1 ag_3 rfl) (eq_int Try.underlying3) (eqF_cons rfl (part1 ag_3 rfl) (part1 ag_3 rfl) (eq_int Try.underlying3) (eqF_nil))
theorem run_eql_82 {ρ : Operand → Value} {W : World} {dd : Option Tmp} {ty T' : TypeId} {pos : String} {af : Array Edge} {g : Option (Nat × Bool)} {p q : Operand} (a b : TPoint) (hp : ρ p = .agg #[(.int .i64 a.X), (.int .i64 a.Y)]) (hq : ρ q = .agg #[(.int .i64 b.X), (.int .i64 b.Y)]) : (execOp ρ ⟨dd, .binOp .eql 82 p q T', ty, pos, af, g⟩).run Try.prog W = .ok (.value (.bool (eqTPoint a b))) W :=
  run_eqlG (m := 9998 + 2) rfl (by kernel_rfl) (eqr_82 a b 9998 W) hp hq
theorem run_neq_82 {ρ : Operand → Value} {W : World} {dd : Option Tmp} {ty T' : TypeId} {pos : String} {af : Array Edge} {g : Option (Nat × Bool)} {p q : Operand} (a b : TPoint) (hp : ρ p = .agg #[(.int .i64 a.X), (.int .i64 a.Y)]) (hq : ρ q = .agg #[(.int .i64 b.X), (.int .i64 b.Y)]) : (execOp ρ ⟨dd, .binOp .neq 82 p q T', ty, pos, af, g⟩).run Try.prog W = .ok (.value (.bool (!eqTPoint a b))) W :=
  run_neqG (m := 9998 + 2) rfl (by kernel_rfl) (eqr_82 a b 9998 W) hp hq
end Go.Proofs.Ytfddmjoldoddlaa
