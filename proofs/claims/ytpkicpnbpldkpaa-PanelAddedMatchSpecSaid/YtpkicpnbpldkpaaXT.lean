/- Types of the data, and closed facts of the program's table of types. -/
import Derived.Test.YtpkicpnbpldkpaaProg
import Derived.Test.YtpkicpnbpldkpaaH13
import Derived.Test.YtpkicpnbpldkpaaH15
import Derived.Test.YtpkicpnbpldkpaaSH
namespace Go.Proofs.Ytpkicpnbpldkpaa
open Go.RowKit
set_option maxRecDepth 100000
structure TBoardKind where
  Name : ByteArray
  W : Int
  H : Int
structure TPoint where
  X : Int
  Y : Int
structure TSlot where
  Board : ByteArray
  Quarters : Int
  At : TPoint
structure TPanel where
  W : Int
  H : Int
  Rail : Int
  Gap : Int
  Kinds : (List TBoardKind)
  Slots : (List TSlot)
  Marks : (List TPoint)
structure TRect where
  X0 : Int
  Y0 : Int
  X1 : Int
  Y1 : Int
structure TShare where
  Num : Int
  Den : Int
def fl_TBoardKind : Fl TBoardKind := Fl.flat 3 (fun x => [(.string x.Name), (.int .i64 x.W), (.int .i64 x.H)]) (fun _ => rfl) (fun _ u h => by
  simp at h
  rcases h with rfl | rfl | rfl <;> rfl)
theorem ef_TBoardKind : ∀ u x, fl_TBoardKind.enc u x = [(.string x.Name), (.int .i64 x.W), (.int .i64 x.H)] := fun _ _ => rfl
theorem tr_TBoardKind : fl_TBoardKind.Tri := fun _ _ _ _ => trivial
def fl_TSlot : Fl TSlot := Fl.flat 4 (fun x => [(.string x.Board), (.int .i64 x.Quarters), (.int .i64 x.At.X), (.int .i64 x.At.Y)]) (fun _ => rfl) (fun _ u h => by
  simp at h
  rcases h with rfl | rfl | rfl | rfl <;> rfl)
theorem ef_TSlot : ∀ u x, fl_TSlot.enc u x = [(.string x.Board), (.int .i64 x.Quarters), (.int .i64 x.At.X), (.int .i64 x.At.Y)] := fun _ _ => rfl
theorem tr_TSlot : fl_TSlot.Tri := fun _ _ _ _ => trivial
def fl_TPoint : Fl TPoint := Fl.flat 2 (fun x => [(.int .i64 x.X), (.int .i64 x.Y)]) (fun _ => rfl) (fun _ u h => by
  simp at h
  rcases h with rfl | rfl <;> rfl)
theorem ef_TPoint : ∀ u x, fl_TPoint.enc u x = [(.int .i64 x.X), (.int .i64 x.Y)] := fun _ _ => rfl
theorem tr_TPoint : fl_TPoint.Tri := fun _ _ _ _ => trivial
def fl_TRect : Fl TRect := Fl.flat 4 (fun x => [(.int .i64 x.X0), (.int .i64 x.Y0), (.int .i64 x.X1), (.int .i64 x.Y1)]) (fun _ => rfl) (fun _ u h => by
  simp at h
  rcases h with rfl | rfl | rfl | rfl <;> rfl)
theorem ef_TRect : ∀ u x, fl_TRect.enc u x = [(.int .i64 x.X0), (.int .i64 x.Y0), (.int .i64 x.X1), (.int .i64 x.Y1)] := fun _ _ => rfl
theorem tr_TRect : fl_TRect.Tri := fun _ _ _ _ => trivial
def fl_i64 : Fl Int := Fl.flat 1 (fun x => [(.int .i64 x)]) (fun _ => rfl) (fun _ u h => by
  simp at h
  subst h; rfl)
theorem ef_i64 : ∀ u x, fl_i64.enc u x = [(.int .i64 x)] := fun _ _ => rfl
theorem tr_i64 : fl_i64.Tri := fun _ _ _ _ => trivial
theorem ag_22 : aggOf Try.prog 22 = some false := by kernel_rfl
theorem ag_23 : aggOf Try.prog 23 = some false := by kernel_rfl
theorem ag_24 : aggOf Try.prog 24 = some false := by kernel_rfl
theorem ag_26 : aggOf Try.prog 26 = some true := by kernel_rfl
theorem ag_3 : aggOf Try.prog 3 = some false := by kernel_rfl
theorem ag_32 : aggOf Try.prog 32 = some true := by kernel_rfl
theorem ag_34 : aggOf Try.prog 34 = some true := by kernel_rfl
theorem ag_42 : aggOf Try.prog 42 = some true := by kernel_rfl
theorem ag_70 : aggOf Try.prog 70 = some true := by kernel_rfl
theorem ag_82 : aggOf Try.prog 82 = some true := by kernel_rfl
theorem ag_9 : aggOf Try.prog 9 = some false := by kernel_rfl
theorem sz_22 : szOf Try.prog 22 = some 1 := by kernel_rfl
theorem sz_23 : szOf Try.prog 23 = some 1 := by kernel_rfl
theorem sz_24 : szOf Try.prog 24 = some 1 := by kernel_rfl
theorem sz_26 : szOf Try.prog 26 = some 7 := by kernel_rfl
theorem sz_3 : szOf Try.prog 3 = some 1 := by kernel_rfl
theorem sz_32 : szOf Try.prog 32 = some 2 := by kernel_rfl
theorem sz_34 : szOf Try.prog 34 = some 4 := by kernel_rfl
theorem sz_42 : szOf Try.prog 42 = some 4 := by kernel_rfl
theorem sz_70 : szOf Try.prog 70 = some 2 := by kernel_rfl
theorem sz_82 : szOf Try.prog 82 = some 3 := by kernel_rfl
theorem ze_26 : zeroOf Try.prog 26 = some [(.int .i64 0), (.int .i64 0), (.int .i64 0), (.int .i64 0), (.slice none 0 0), (.slice none 0 0), (.slice none 0 0)] := by kernel_rfl
theorem ze_32 : zeroOf Try.prog 32 = some [(.int .i64 0), (.int .i64 0)] := by kernel_rfl
theorem ze_34 : zeroOf Try.prog 34 = some [(.string ⟨#[]⟩), (.int .i64 0), (.int .i64 0), (.int .i64 0)] := by kernel_rfl
theorem ze_42 : zeroOf Try.prog 42 = some [(.int .i64 0), (.int .i64 0), (.int .i64 0), (.int .i64 0)] := by kernel_rfl
theorem ze_70 : zeroOf Try.prog 70 = some [(.int .i64 0), (.int .i64 0)] := by kernel_rfl
theorem ze_82 : zeroOf Try.prog 82 = some [(.string ⟨#[]⟩), (.int .i64 0), (.int .i64 0)] := by kernel_rfl
theorem zl_3 : (zeroOf Try.prog 3).map List.length = some 1 := by kernel_rfl
theorem zl_32 : (zeroOf Try.prog 32).map List.length = some 2 := by kernel_rfl
theorem zl_34 : (zeroOf Try.prog 34).map List.length = some 4 := by kernel_rfl
theorem zl_42 : (zeroOf Try.prog 42).map List.length = some 4 := by kernel_rfl
theorem zl_82 : (zeroOf Try.prog 82).map List.length = some 3 := by kernel_rfl
theorem by_3 : (Try.prog.info? 3).map (·.bytes) = some 8 := by kernel_rfl
theorem by_32 : (Try.prog.info? 32).map (·.bytes) = some 16 := by kernel_rfl
theorem by_34 : (Try.prog.info? 34).map (·.bytes) = some 40 := by kernel_rfl
theorem by_42 : (Try.prog.info? 42).map (·.bytes) = some 32 := by kernel_rfl
theorem by_82 : (Try.prog.info? 82).map (·.bytes) = some 32 := by kernel_rfl
theorem fo_26_0 : fieldOf Try.prog 26 0 = some 0 := by kernel_rfl
theorem fo_26_1 : fieldOf Try.prog 26 1 = some 1 := by kernel_rfl
theorem fo_26_2 : fieldOf Try.prog 26 2 = some 2 := by kernel_rfl
theorem fo_26_3 : fieldOf Try.prog 26 3 = some 3 := by kernel_rfl
theorem fo_26_4 : fieldOf Try.prog 26 4 = some 4 := by kernel_rfl
theorem fo_26_5 : fieldOf Try.prog 26 5 = some 5 := by kernel_rfl
theorem fo_26_6 : fieldOf Try.prog 26 6 = some 6 := by kernel_rfl
theorem fo_32_0 : fieldOf Try.prog 32 0 = some 0 := by kernel_rfl
theorem fo_32_1 : fieldOf Try.prog 32 1 = some 1 := by kernel_rfl
theorem fo_34_0 : fieldOf Try.prog 34 0 = some 0 := by kernel_rfl
theorem fo_34_1 : fieldOf Try.prog 34 1 = some 1 := by kernel_rfl
theorem fo_34_2 : fieldOf Try.prog 34 2 = some 2 := by kernel_rfl
theorem fo_42_0 : fieldOf Try.prog 42 0 = some 0 := by kernel_rfl
theorem fo_42_1 : fieldOf Try.prog 42 1 = some 1 := by kernel_rfl
theorem fo_42_2 : fieldOf Try.prog 42 2 = some 2 := by kernel_rfl
theorem fo_42_3 : fieldOf Try.prog 42 3 = some 3 := by kernel_rfl
theorem fo_82_0 : fieldOf Try.prog 82 0 = some 0 := by kernel_rfl
theorem fo_82_1 : fieldOf Try.prog 82 1 = some 1 := by kernel_rfl
theorem fo_82_2 : fieldOf Try.prog 82 2 = some 2 := by kernel_rfl
theorem el_22 : elemOf? Try.prog 22 = some (82, 3) := by kernel_rfl
theorem el_23 : elemOf? Try.prog 23 = some (34, 4) := by kernel_rfl
theorem el_24 : elemOf? Try.prog 24 = some (32, 2) := by kernel_rfl
theorem el_38 : elemOf? Try.prog 38 = some (42, 4) := by kernel_rfl
theorem el_63 : elemOf? Try.prog 63 = some (3, 1) := by kernel_rfl
theorem un_22 : Try.prog.underlying 22 = some (.slice 82) := by kernel_rfl
theorem un_23 : Try.prog.underlying 23 = some (.slice 34) := by kernel_rfl
theorem un_24 : Try.prog.underlying 24 = some (.slice 32) := by kernel_rfl
theorem un_38 : Try.prog.underlying 38 = some (.slice 42) := by kernel_rfl
theorem un_4 : Try.prog.underlying 4 = some (.bool) := by kernel_rfl
theorem un_63 : Try.prog.underlying 63 = some (.slice 3) := by kernel_rfl
theorem un_9 : Try.prog.underlying 9 = some (.string) := by kernel_rfl
def eqTPoint (a b : TPoint) : Bool := (a.X == b.X) && ((a.Y == b.Y) && true)
theorem eqTPoint_iff {a b : TPoint} : eqTPoint a b = true ↔ a = b := by
  cases a; cases b; simp [eqTPoint, sEq_iff]
theorem eqr_32 (a b : TPoint) (d : Nat) (W : World) : (Op.equalIn (d + 2) 32 (.agg #[(.int .i64 a.X), (.int .i64 a.Y)]) (.agg #[(.int .i64 b.X), (.int .i64 b.Y)])).run Try.prog W = .ok (eqTPoint a b) W := by
  rw [show d + 2 = (d + 1) + 1 from rfl, run_equalIn_struct W _ 32 _ _ (by kernel_rfl) (by kernel_rfl)]
  simp only [Program.fieldsOf, Try.underlying32]
  exact eqF_cons rfl (part1 ag_3 rfl) (part1 ag_3 rfl) (eq_int Try.underlying3) (eqF_cons rfl (part1 ag_3 rfl) (part1 ag_3 rfl) (eq_int Try.underlying3) (eqF_nil))
theorem run_eql_32 {ρ : Operand → Value} {W : World} {dd : Option Tmp} {ty T' : TypeId} {pos : String} {af : Array Edge} {g : Option (Nat × Bool)} {p q : Operand} (a b : TPoint) (hp : ρ p = .agg #[(.int .i64 a.X), (.int .i64 a.Y)]) (hq : ρ q = .agg #[(.int .i64 b.X), (.int .i64 b.Y)]) : (execOp ρ ⟨dd, .binOp .eql 32 p q T', ty, pos, af, g⟩).run Try.prog W = .ok (.value (.bool (eqTPoint a b))) W :=
  run_eqlG (m := 9998 + 2) rfl (by kernel_rfl) (eqr_32 a b 9998 W) hp hq
theorem run_neq_32 {ρ : Operand → Value} {W : World} {dd : Option Tmp} {ty T' : TypeId} {pos : String} {af : Array Edge} {g : Option (Nat × Bool)} {p q : Operand} (a b : TPoint) (hp : ρ p = .agg #[(.int .i64 a.X), (.int .i64 a.Y)]) (hq : ρ q = .agg #[(.int .i64 b.X), (.int .i64 b.Y)]) : (execOp ρ ⟨dd, .binOp .neq 32 p q T', ty, pos, af, g⟩).run Try.prog W = .ok (.value (.bool (!eqTPoint a b))) W :=
  run_neqG (m := 9998 + 2) rfl (by kernel_rfl) (eqr_32 a b 9998 W) hp hq
def eqTSlot (a b : TSlot) : Bool := sEq a.Board b.Board && ((a.Quarters == b.Quarters) && (eqTPoint a.At b.At && true))
theorem eqTSlot_iff {a b : TSlot} : eqTSlot a b = true ↔ a = b := by
  cases a; cases b; simp [eqTSlot, sEq_iff, eqTPoint_iff]
theorem eqr_34 (a b : TSlot) (d : Nat) (W : World) : (Op.equalIn (d + 3) 34 (.agg #[(.string a.Board), (.int .i64 a.Quarters), (.int .i64 a.At.X), (.int .i64 a.At.Y)]) (.agg #[(.string b.Board), (.int .i64 b.Quarters), (.int .i64 b.At.X), (.int .i64 b.At.Y)])).run Try.prog W = .ok (eqTSlot a b) W := by
  rw [show d + 3 = (d + 2) + 1 from rfl, run_equalIn_struct W _ 34 _ _ (by kernel_rfl) (by kernel_rfl)]
  simp only [Program.fieldsOf, Try.underlying34]
  exact eqF_cons rfl (part1 ag_9 rfl) (part1 ag_9 rfl) (eq_str Try.underlying9) (eqF_cons rfl (part1 ag_3 rfl) (part1 ag_3 rfl) (eq_int Try.underlying3) (eqF_cons rfl (partN ag_32 sz_32) (partN ag_32 sz_32) (eqr_32 a.At b.At _ W) (eqF_nil)))
theorem run_eql_34 {ρ : Operand → Value} {W : World} {dd : Option Tmp} {ty T' : TypeId} {pos : String} {af : Array Edge} {g : Option (Nat × Bool)} {p q : Operand} (a b : TSlot) (hp : ρ p = .agg #[(.string a.Board), (.int .i64 a.Quarters), (.int .i64 a.At.X), (.int .i64 a.At.Y)]) (hq : ρ q = .agg #[(.string b.Board), (.int .i64 b.Quarters), (.int .i64 b.At.X), (.int .i64 b.At.Y)]) : (execOp ρ ⟨dd, .binOp .eql 34 p q T', ty, pos, af, g⟩).run Try.prog W = .ok (.value (.bool (eqTSlot a b))) W :=
  run_eqlG (m := 9997 + 3) rfl (by kernel_rfl) (eqr_34 a b 9997 W) hp hq
theorem run_neq_34 {ρ : Operand → Value} {W : World} {dd : Option Tmp} {ty T' : TypeId} {pos : String} {af : Array Edge} {g : Option (Nat × Bool)} {p q : Operand} (a b : TSlot) (hp : ρ p = .agg #[(.string a.Board), (.int .i64 a.Quarters), (.int .i64 a.At.X), (.int .i64 a.At.Y)]) (hq : ρ q = .agg #[(.string b.Board), (.int .i64 b.Quarters), (.int .i64 b.At.X), (.int .i64 b.At.Y)]) : (execOp ρ ⟨dd, .binOp .neq 34 p q T', ty, pos, af, g⟩).run Try.prog W = .ok (.value (.bool (!eqTSlot a b))) W :=
  run_neqG (m := 9997 + 3) rfl (by kernel_rfl) (eqr_34 a b 9997 W) hp hq
def eqTShare (a b : TShare) : Bool := (a.Num == b.Num) && ((a.Den == b.Den) && true)
theorem eqTShare_iff {a b : TShare} : eqTShare a b = true ↔ a = b := by
  cases a; cases b; simp [eqTShare, sEq_iff]
theorem eqr_70 (a b : TShare) (d : Nat) (W : World) : (Op.equalIn (d + 2) 70 (.agg #[(.int .i64 a.Num), (.int .i64 a.Den)]) (.agg #[(.int .i64 b.Num), (.int .i64 b.Den)])).run Try.prog W = .ok (eqTShare a b) W := by
  rw [show d + 2 = (d + 1) + 1 from rfl, run_equalIn_struct W _ 70 _ _ (by kernel_rfl) (by kernel_rfl)]
  simp only [Program.fieldsOf, Try.underlying70]
  exact eqF_cons rfl (part1 ag_3 rfl) (part1 ag_3 rfl) (eq_int Try.underlying3) (eqF_cons rfl (part1 ag_3 rfl) (part1 ag_3 rfl) (eq_int Try.underlying3) (eqF_nil))
theorem run_eql_70 {ρ : Operand → Value} {W : World} {dd : Option Tmp} {ty T' : TypeId} {pos : String} {af : Array Edge} {g : Option (Nat × Bool)} {p q : Operand} (a b : TShare) (hp : ρ p = .agg #[(.int .i64 a.Num), (.int .i64 a.Den)]) (hq : ρ q = .agg #[(.int .i64 b.Num), (.int .i64 b.Den)]) : (execOp ρ ⟨dd, .binOp .eql 70 p q T', ty, pos, af, g⟩).run Try.prog W = .ok (.value (.bool (eqTShare a b))) W :=
  run_eqlG (m := 9998 + 2) rfl (by kernel_rfl) (eqr_70 a b 9998 W) hp hq
theorem run_neq_70 {ρ : Operand → Value} {W : World} {dd : Option Tmp} {ty T' : TypeId} {pos : String} {af : Array Edge} {g : Option (Nat × Bool)} {p q : Operand} (a b : TShare) (hp : ρ p = .agg #[(.int .i64 a.Num), (.int .i64 a.Den)]) (hq : ρ q = .agg #[(.int .i64 b.Num), (.int .i64 b.Den)]) : (execOp ρ ⟨dd, .binOp .neq 70 p q T', ty, pos, af, g⟩).run Try.prog W = .ok (.value (.bool (!eqTShare a b))) W :=
  run_neqG (m := 9998 + 2) rfl (by kernel_rfl) (eqr_70 a b 9998 W) hp hq
def eqTBoardKind (a b : TBoardKind) : Bool := sEq a.Name b.Name && ((a.W == b.W) && ((a.H == b.H) && true))
theorem eqTBoardKind_iff {a b : TBoardKind} : eqTBoardKind a b = true ↔ a = b := by
  cases a; cases b; simp [eqTBoardKind, sEq_iff]
theorem eqr_82 (a b : TBoardKind) (d : Nat) (W : World) : (Op.equalIn (d + 2) 82 (.agg #[(.string a.Name), (.int .i64 a.W), (.int .i64 a.H)]) (.agg #[(.string b.Name), (.int .i64 b.W), (.int .i64 b.H)])).run Try.prog W = .ok (eqTBoardKind a b) W := by
  rw [show d + 2 = (d + 1) + 1 from rfl, run_equalIn_struct W _ 82 _ _ (by kernel_rfl) (by kernel_rfl)]
  simp only [Program.fieldsOf, Try.underlying82]
  exact eqF_cons rfl (part1 ag_9 rfl) (part1 ag_9 rfl) (eq_str Try.underlying9) (eqF_cons rfl (part1 ag_3 rfl) (part1 ag_3 rfl) (eq_int Try.underlying3) (eqF_cons rfl (part1 ag_3 rfl) (part1 ag_3 rfl) (eq_int Try.underlying3) (eqF_nil)))
theorem run_eql_82 {ρ : Operand → Value} {W : World} {dd : Option Tmp} {ty T' : TypeId} {pos : String} {af : Array Edge} {g : Option (Nat × Bool)} {p q : Operand} (a b : TBoardKind) (hp : ρ p = .agg #[(.string a.Name), (.int .i64 a.W), (.int .i64 a.H)]) (hq : ρ q = .agg #[(.string b.Name), (.int .i64 b.W), (.int .i64 b.H)]) : (execOp ρ ⟨dd, .binOp .eql 82 p q T', ty, pos, af, g⟩).run Try.prog W = .ok (.value (.bool (eqTBoardKind a b))) W :=
  run_eqlG (m := 9998 + 2) rfl (by kernel_rfl) (eqr_82 a b 9998 W) hp hq
theorem run_neq_82 {ρ : Operand → Value} {W : World} {dd : Option Tmp} {ty T' : TypeId} {pos : String} {af : Array Edge} {g : Option (Nat × Bool)} {p q : Operand} (a b : TBoardKind) (hp : ρ p = .agg #[(.string a.Name), (.int .i64 a.W), (.int .i64 a.H)]) (hq : ρ q = .agg #[(.string b.Name), (.int .i64 b.W), (.int .i64 b.H)]) : (execOp ρ ⟨dd, .binOp .neq 82 p q T', ty, pos, af, g⟩).run Try.prog W = .ok (.value (.bool (!eqTBoardKind a b))) W :=
  run_neqG (m := 9998 + 2) rfl (by kernel_rfl) (eqr_82 a b 9998 W) hp hq
end Go.Proofs.Ytpkicpnbpldkpaa
