/- Types of the data, and closed facts of the program's table of types. -/
import Derived.Test.YtmbjoffligicnaaGreatDoorProg
import Derived.Test.YtmbjoffligicnaaGreatDoorJ2
import Derived.Test.YtmbjoffligicnaaGreatDoorSH
namespace Go.Proofs.YtmbjoffligicnaaGreatDoor
open Go.RowKit
set_option maxRecDepth 100000
structure TBoardKind where
  Name : ByteArray
  W : Int
  H : Int
structure TPoint where
  X : Int
  Y : Int
structure TSlot where
  Board : ByteArray
  Quarters : Int
  At : TPoint
structure TPanel where
  W : Int
  H : Int
  Rail : Int
  Gap : Int
  Kinds : (List TBoardKind)
  Slots : (List TSlot)
  Marks : (List TPoint)
structure TRect where
  X0 : Int
  Y0 : Int
  X1 : Int
  Y1 : Int
structure TShare where
  Num : Int
  Den : Int
def fl_TBoardKind : Fl TBoardKind := Fl.flat 3 (fun x => [(.string x.Name), (.int .i64 x.W), (.int .i64 x.H)]) (fun _ => rfl) (fun _ u h => by
  simp at h
  rcases h with rfl | rfl | rfl <;> rfl)
theorem ef_TBoardKind : ∀ u x, fl_TBoardKind.enc u x = [(.string x.Name), (.int .i64 x.W), (.int .i64 x.H)] := fun _ _ => rfl
theorem tr_TBoardKind : fl_TBoardKind.Tri := fun _ _ _ _ => trivial
def fl_TSlot : Fl TSlot := Fl.flat 4 (fun x => [(.string x.Board), (.int .i64 x.Quarters), (.int .i64 x.At.X), (.int .i64 x.At.Y)]) (fun _ => rfl) (fun _ u h => by
  simp at h
  rcases h with rfl | rfl | rfl | rfl <;> rfl)
theorem ef_TSlot : ∀ u x, fl_TSlot.enc u x = [(.string x.Board), (.int .i64 x.Quarters), (.int .i64 x.At.X), (.int .i64 x.At.Y)] := fun _ _ => rfl
theorem tr_TSlot : fl_TSlot.Tri := fun _ _ _ _ => trivial
def fl_TPoint : Fl TPoint := Fl.flat 2 (fun x => [(.int .i64 x.X), (.int .i64 x.Y)]) (fun _ => rfl) (fun _ u h => by
  simp at h
  rcases h with rfl | rfl <;> rfl)
theorem ef_TPoint : ∀ u x, fl_TPoint.enc u x = [(.int .i64 x.X), (.int .i64 x.Y)] := fun _ _ => rfl
theorem tr_TPoint : fl_TPoint.Tri := fun _ _ _ _ => trivial
def fl_TRect : Fl TRect := Fl.flat 4 (fun x => [(.int .i64 x.X0), (.int .i64 x.Y0), (.int .i64 x.X1), (.int .i64 x.Y1)]) (fun _ => rfl) (fun _ u h => by
  simp at h
  rcases h with rfl | rfl | rfl | rfl <;> rfl)
theorem ef_TRect : ∀ u x, fl_TRect.enc u x = [(.int .i64 x.X0), (.int .i64 x.Y0), (.int .i64 x.X1), (.int .i64 x.Y1)] := fun _ _ => rfl
theorem tr_TRect : fl_TRect.Tri := fun _ _ _ _ => trivial
def fl_str : Fl ByteArray := Fl.flat 1 (fun x => [(.string x)]) (fun _ => rfl) (fun _ u h => by
  simp at h
  subst h; rfl)
theorem ef_str : ∀ u x, fl_str.enc u x = [(.string x)] := fun _ _ => rfl
theorem tr_str : fl_str.Tri := fun _ _ _ _ => trivial
def fl_i64 : Fl Int := Fl.flat 1 (fun x => [(.int .i64 x)]) (fun _ => rfl) (fun _ u h => by
  simp at h
  subst h; rfl)
theorem ef_i64 : ∀ u x, fl_i64.enc u x = [(.int .i64 x)] := fun _ _ => rfl
theorem tr_i64 : fl_i64.Tri := fun _ _ _ _ => trivial
theorem ag_22 : aggOf Tryz.prog 22 = some false := by kernel_rfl
theorem ag_23 : aggOf Tryz.prog 23 = some false := by kernel_rfl
theorem ag_24 : aggOf Tryz.prog 24 = some false := by kernel_rfl
theorem ag_26 : aggOf Tryz.prog 26 = some true := by kernel_rfl
theorem ag_3 : aggOf Tryz.prog 3 = some false := by kernel_rfl
theorem ag_49 : aggOf Tryz.prog 49 = some true := by kernel_rfl
theorem ag_51 : aggOf Tryz.prog 51 = some true := by kernel_rfl
theorem ag_53 : aggOf Tryz.prog 53 = some true := by kernel_rfl
theorem ag_60 : aggOf Tryz.prog 60 = some true := by kernel_rfl
theorem ag_86 : aggOf Tryz.prog 86 = some true := by kernel_rfl
theorem ag_9 : aggOf Tryz.prog 9 = some false := by kernel_rfl
theorem sz_22 : szOf Tryz.prog 22 = some 1 := by kernel_rfl
theorem sz_23 : szOf Tryz.prog 23 = some 1 := by kernel_rfl
theorem sz_24 : szOf Tryz.prog 24 = some 1 := by kernel_rfl
theorem sz_26 : szOf Tryz.prog 26 = some 7 := by kernel_rfl
theorem sz_3 : szOf Tryz.prog 3 = some 1 := by kernel_rfl
theorem sz_49 : szOf Tryz.prog 49 = some 3 := by kernel_rfl
theorem sz_51 : szOf Tryz.prog 51 = some 2 := by kernel_rfl
theorem sz_53 : szOf Tryz.prog 53 = some 4 := by kernel_rfl
theorem sz_60 : szOf Tryz.prog 60 = some 2 := by kernel_rfl
theorem sz_86 : szOf Tryz.prog 86 = some 4 := by kernel_rfl
theorem ze_26 : zeroOf Tryz.prog 26 = some [(.int .i64 0), (.int .i64 0), (.int .i64 0), (.int .i64 0), (.slice none 0 0), (.slice none 0 0), (.slice none 0 0)] := by kernel_rfl
theorem ze_49 : zeroOf Tryz.prog 49 = some [(.string ⟨#[]⟩), (.int .i64 0), (.int .i64 0)] := by kernel_rfl
theorem ze_51 : zeroOf Tryz.prog 51 = some [(.int .i64 0), (.int .i64 0)] := by kernel_rfl
theorem ze_53 : zeroOf Tryz.prog 53 = some [(.string ⟨#[]⟩), (.int .i64 0), (.int .i64 0), (.int .i64 0)] := by kernel_rfl
theorem ze_60 : zeroOf Tryz.prog 60 = some [(.int .i64 0), (.int .i64 0)] := by kernel_rfl
theorem ze_86 : zeroOf Tryz.prog 86 = some [(.int .i64 0), (.int .i64 0), (.int .i64 0), (.int .i64 0)] := by kernel_rfl
theorem zb_39 : zeroOf Tryz.prog 39 = some [.pointer none, .slice none 0 0] := by kernel_rfl
theorem zl_3 : (zeroOf Tryz.prog 3).map List.length = some 1 := by kernel_rfl
theorem zl_49 : (zeroOf Tryz.prog 49).map List.length = some 3 := by kernel_rfl
theorem zl_51 : (zeroOf Tryz.prog 51).map List.length = some 2 := by kernel_rfl
theorem zl_53 : (zeroOf Tryz.prog 53).map List.length = some 4 := by kernel_rfl
theorem zl_86 : (zeroOf Tryz.prog 86).map List.length = some 4 := by kernel_rfl
theorem by_3 : (Tryz.prog.info? 3).map (·.bytes) = some 8 := by kernel_rfl
theorem by_49 : (Tryz.prog.info? 49).map (·.bytes) = some 32 := by kernel_rfl
theorem by_51 : (Tryz.prog.info? 51).map (·.bytes) = some 16 := by kernel_rfl
theorem by_53 : (Tryz.prog.info? 53).map (·.bytes) = some 40 := by kernel_rfl
theorem by_86 : (Tryz.prog.info? 86).map (·.bytes) = some 32 := by kernel_rfl
theorem fo_26_0 : fieldOf Tryz.prog 26 0 = some 0 := by kernel_rfl
theorem fo_26_1 : fieldOf Tryz.prog 26 1 = some 1 := by kernel_rfl
theorem fo_26_2 : fieldOf Tryz.prog 26 2 = some 2 := by kernel_rfl
theorem fo_26_3 : fieldOf Tryz.prog 26 3 = some 3 := by kernel_rfl
theorem fo_26_4 : fieldOf Tryz.prog 26 4 = some 4 := by kernel_rfl
theorem fo_26_5 : fieldOf Tryz.prog 26 5 = some 5 := by kernel_rfl
theorem fo_26_6 : fieldOf Tryz.prog 26 6 = some 6 := by kernel_rfl
theorem fo_49_0 : fieldOf Tryz.prog 49 0 = some 0 := by kernel_rfl
theorem fo_49_1 : fieldOf Tryz.prog 49 1 = some 1 := by kernel_rfl
theorem fo_49_2 : fieldOf Tryz.prog 49 2 = some 2 := by kernel_rfl
theorem fo_51_0 : fieldOf Tryz.prog 51 0 = some 0 := by kernel_rfl
theorem fo_51_1 : fieldOf Tryz.prog 51 1 = some 1 := by kernel_rfl
theorem fo_53_0 : fieldOf Tryz.prog 53 0 = some 0 := by kernel_rfl
theorem fo_53_1 : fieldOf Tryz.prog 53 1 = some 1 := by kernel_rfl
theorem fo_53_2 : fieldOf Tryz.prog 53 2 = some 2 := by kernel_rfl
theorem fo_86_0 : fieldOf Tryz.prog 86 0 = some 0 := by kernel_rfl
theorem fo_86_1 : fieldOf Tryz.prog 86 1 = some 1 := by kernel_rfl
theorem fo_86_2 : fieldOf Tryz.prog 86 2 = some 2 := by kernel_rfl
theorem fo_86_3 : fieldOf Tryz.prog 86 3 = some 3 := by kernel_rfl
theorem el_22 : elemOf? Tryz.prog 22 = some (49, 3) := by kernel_rfl
theorem el_23 : elemOf? Tryz.prog 23 = some (53, 4) := by kernel_rfl
theorem el_24 : elemOf? Tryz.prog 24 = some (51, 2) := by kernel_rfl
theorem el_40 : elemOf? Tryz.prog 40 = some (9, 1) := by kernel_rfl
theorem el_64 : elemOf? Tryz.prog 64 = some (3, 1) := by kernel_rfl
theorem el_66 : elemOf? Tryz.prog 66 = some (86, 4) := by kernel_rfl
theorem un_22 : Tryz.prog.underlying 22 = some (.slice 49) := by kernel_rfl
theorem un_23 : Tryz.prog.underlying 23 = some (.slice 53) := by kernel_rfl
theorem un_24 : Tryz.prog.underlying 24 = some (.slice 51) := by kernel_rfl
theorem un_4 : Tryz.prog.underlying 4 = some (.bool) := by kernel_rfl
theorem un_40 : Tryz.prog.underlying 40 = some (.slice 9) := by kernel_rfl
theorem un_64 : Tryz.prog.underlying 64 = some (.slice 3) := by kernel_rfl
theorem un_66 : Tryz.prog.underlying 66 = some (.slice 86) := by kernel_rfl
theorem un_9 : Tryz.prog.underlying 9 = some (.string) := by kernel_rfl
def eqTBoardKind (a b : TBoardKind) : Bool := sEq a.Name b.Name && ((a.W == b.W) && ((a.H == b.H) && true))
theorem eqTBoardKind_iff {a b : TBoardKind} : eqTBoardKind a b = true ↔ a = b := by
  cases a; cases b; simp [eqTBoardKind, sEq_iff]
theorem eqr_49 (a b : TBoardKind) (d : Nat) (W : World) : (Op.equalIn (d + 2) 49 (.agg #[(.string a.Name), (.int .i64 a.W), (.int .i64 a.H)]) (.agg #[(.string b.Name), (.int .i64 b.W), (.int .i64 b.H)])).run Tryz.prog W = .ok (eqTBoardKind a b) W := by
  rw [show d + 2 = (d + 1) + 1 from rfl, run_equalIn_struct W _ 49 _ _ (by kernel_rfl) (by kernel_rfl)]
  simp only [Program.fieldsOf, Tryz.underlying49]
  exact eqF_cons rfl (part1 ag_9 rfl) (part1 ag_9 rfl) (eq_str Tryz.underlying9) (eqF_cons rfl (part1 ag_3 rfl) (part1 ag_3 rfl) (eq_int Tryz.underlying3) (eqF_cons rfl (part1 ag_3 rfl) (part1 ag_3 rfl) (eq_int Tryz.underlying3) (eqF_nil)))
theorem run_eql_49 {ρ : Operand → Value} {W : World} {dd : Option Tmp} {ty T' : TypeId} {pos : String} {af : Array Edge} {g : Option (Nat × Bool)} {p q : Operand} (a b : TBoardKind) (hp : ρ p = .agg #[(.string a.Name), (.int .i64 a.W), (.int .i64 a.H)]) (hq : ρ q = .agg #[(.string b.Name), (.int .i64 b.W), (.int .i64 b.H)]) : (execOp ρ ⟨dd, .binOp .eql 49 p q T', ty, pos, af, g⟩).run Tryz.prog W = .ok (.value (.bool (eqTBoardKind a b))) W :=
  run_eqlG (m := 9998 + 2) rfl (by kernel_rfl) (eqr_49 a b 9998 W) hp hq
theorem run_neq_49 {ρ : Operand → Value} {W : World} {dd : Option Tmp} {ty T' : TypeId} {pos : String} {af : Array Edge} {g : Option (Nat × Bool)} {p q : Operand} (a b : TBoardKind) (hp : ρ p = .agg #[(.string a.Name), (.int .i64 a.W), (.int .i64 a.H)]) (hq : ρ q = .agg #[(.string b.Name), (.int .i64 b.W), (.int .i64 b.H)]) : (execOp ρ ⟨dd, .binOp .neq 49 p q T', ty, pos, af, g⟩).run Tryz.prog W = .ok (.value (.bool (!eqTBoardKind a b))) W :=
  run_neqG (m := 9998 + 2) rfl (by kernel_rfl) (eqr_49 a b 9998 W) hp hq
def eqTPoint (a b : TPoint) : Bool := (a.X == b.X) && ((a.Y == b.Y) && true)
theorem eqTPoint_iff {a b : TPoint} : eqTPoint a b = true ↔ a = b := by
  cases a; cases b; simp [eqTPoint, sEq_iff]
theorem eqr_51 (a b : TPoint) (d : Nat) (W : World) : (Op.equalIn (d + 2) 51 (.agg #[(.int .i64 a.X), (.int .i64 a.Y)]) (.agg #[(.int .i64 b.X), (.int .i64 b.Y)])).run Tryz.prog W = .ok (eqTPoint a b) W := by
  rw [show d + 2 = (d + 1) + 1 from rfl, run_equalIn_struct W _ 51 _ _ (by kernel_rfl) (by kernel_rfl)]
  simp only [Program.fieldsOf, Tryz.underlying51]
  exact eqF_cons rfl (part1 ag_3 rfl) (part1 ag_3 rfl) (eq_int Tryz.underlying3) (eqF_cons rfl (part1 ag_3 rfl) (part1 ag_3 rfl) (eq_int Tryz.underlying3) (eqF_nil))
theorem run_eql_51 {ρ : Operand → Value} {W : World} {dd : Option Tmp} {ty T' : TypeId} {pos : String} {af : Array Edge} {g : Option (Nat × Bool)} {p q : Operand} (a b : TPoint) (hp : ρ p = .agg #[(.int .i64 a.X), (.int .i64 a.Y)]) (hq : ρ q = .agg #[(.int .i64 b.X), (.int .i64 b.Y)]) : (execOp ρ ⟨dd, .binOp .eql 51 p q T', ty, pos, af, g⟩).run Tryz.prog W = .ok (.value (.bool (eqTPoint a b))) W :=
  run_eqlG (m := 9998 + 2) rfl (by kernel_rfl) (eqr_51 a b 9998 W) hp hq
theorem run_neq_51 {ρ : Operand → Value} {W : World} {dd : Option Tmp} {ty T' : TypeId} {pos : String} {af : Array Edge} {g : Option (Nat × Bool)} {p q : Operand} (a b : TPoint) (hp : ρ p = .agg #[(.int .i64 a.X), (.int .i64 a.Y)]) (hq : ρ q = .agg #[(.int .i64 b.X), (.int .i64 b.Y)]) : (execOp ρ ⟨dd, .binOp .neq 51 p q T', ty, pos, af, g⟩).run Tryz.prog W = .ok (.value (.bool (!eqTPoint a b))) W :=
  run_neqG (m := 9998 + 2) rfl (by kernel_rfl) (eqr_51 a b 9998 W) hp hq
def eqTSlot (a b : TSlot) : Bool := sEq a.Board b.Board && ((a.Quarters == b.Quarters) && (eqTPoint a.At b.At && true))
theorem eqTSlot_iff {a b : TSlot} : eqTSlot a b = true ↔ a = b := by
  cases a; cases b; simp [eqTSlot, sEq_iff, eqTPoint_iff]
theorem eqr_53 (a b : TSlot) (d : Nat) (W : World) : (Op.equalIn (d + 3) 53 (.agg #[(.string a.Board), (.int .i64 a.Quarters), (.int .i64 a.At.X), (.int .i64 a.At.Y)]) (.agg #[(.string b.Board), (.int .i64 b.Quarters), (.int .i64 b.At.X), (.int .i64 b.At.Y)])).run Tryz.prog W = .ok (eqTSlot a b) W := by
  rw [show d + 3 = (d + 2) + 1 from rfl, run_equalIn_struct W _ 53 _ _ (by kernel_rfl) (by kernel_rfl)]
  simp only [Program.fieldsOf, Tryz.underlying53]
  exact eqF_cons rfl (part1 ag_9 rfl) (part1 ag_9 rfl) (eq_str Tryz.underlying9) (eqF_cons rfl (part1 ag_3 rfl) (part1 ag_3 rfl) (eq_int Tryz.underlying3) (eqF_cons rfl (partN ag_51 sz_51) (partN ag_51 sz_51) (eqr_51 a.At b.At _ W) (eqF_nil)))
theorem run_eql_53 {ρ : Operand → Value} {W : World} {dd : Option Tmp} {ty T' : TypeId} {pos : String} {af : Array Edge} {g : Option (Nat × Bool)} {p q : Operand} (a b : TSlot) (hp : ρ p = .agg #[(.string a.Board), (.int .i64 a.Quarters), (.int .i64 a.At.X), (.int .i64 a.At.Y)]) (hq : ρ q = .agg #[(.string b.Board), (.int .i64 b.Quarters), (.int .i64 b.At.X), (.int .i64 b.At.Y)]) : (execOp ρ ⟨dd, .binOp .eql 53 p q T', ty, pos, af, g⟩).run Tryz.prog W = .ok (.value (.bool (eqTSlot a b))) W :=
  run_eqlG (m := 9997 + 3) rfl (by kernel_rfl) (eqr_53 a b 9997 W) hp hq
theorem run_neq_53 {ρ : Operand → Value} {W : World} {dd : Option Tmp} {ty T' : TypeId} {pos : String} {af : Array Edge} {g : Option (Nat × Bool)} {p q : Operand} (a b : TSlot) (hp : ρ p = .agg #[(.string a.Board), (.int .i64 a.Quarters), (.int .i64 a.At.X), (.int .i64 a.At.Y)]) (hq : ρ q = .agg #[(.string b.Board), (.int .i64 b.Quarters), (.int .i64 b.At.X), (.int .i64 b.At.Y)]) : (execOp ρ ⟨dd, .binOp .neq 53 p q T', ty, pos, af, g⟩).run Tryz.prog W = .ok (.value (.bool (!eqTSlot a b))) W :=
  run_neqG (m := 9997 + 3) rfl (by kernel_rfl) (eqr_53 a b 9997 W) hp hq
def eqTShare (a b : TShare) : Bool := (a.Num == b.Num) && ((a.Den == b.Den) && true)
theorem eqTShare_iff {a b : TShare} : eqTShare a b = true ↔ a = b := by
  cases a; cases b; simp [eqTShare, sEq_iff]
theorem eqr_60 (a b : TShare) (d : Nat) (W : World) : (Op.equalIn (d + 2) 60 (.agg #[(.int .i64 a.Num), (.int .i64 a.Den)]) (.agg #[(.int .i64 b.Num), (.int .i64 b.Den)])).run Tryz.prog W = .ok (eqTShare a b) W := by
  rw [show d + 2 = (d + 1) + 1 from rfl, run_equalIn_struct W _ 60 _ _ (by kernel_rfl) (by kernel_rfl)]
  simp only [Program.fieldsOf, Tryz.underlying60]
  exact eqF_cons rfl (part1 ag_3 rfl) (part1 ag_3 rfl) (eq_int Tryz.underlying3) (eqF_cons rfl (part1 ag_3 rfl) (part1 ag_3 rfl) (eq_int Tryz.underlying3) (eqF_nil))
theorem run_eql_60 {ρ : Operand → Value} {W : World} {dd : Option Tmp} {ty T' : TypeId} {pos : String} {af : Array Edge} {g : Option (Nat × Bool)} {p q : Operand} (a b : TShare) (hp : ρ p = .agg #[(.int .i64 a.Num), (.int .i64 a.Den)]) (hq : ρ q = .agg #[(.int .i64 b.Num), (.int .i64 b.Den)]) : (execOp ρ ⟨dd, .binOp .eql 60 p q T', ty, pos, af, g⟩).run Tryz.prog W = .ok (.value (.bool (eqTShare a b))) W :=
  run_eqlG (m := 9998 + 2) rfl (by kernel_rfl) (eqr_60 a b 9998 W) hp hq
theorem run_neq_60 {ρ : Operand → Value} {W : World} {dd : Option Tmp} {ty T' : TypeId} {pos : String} {af : Array Edge} {g : Option (Nat × Bool)} {p q : Operand} (a b : TShare) (hp : ρ p = .agg #[(.int .i64 a.Num), (.int .i64 a.Den)]) (hq : ρ q = .agg #[(.int .i64 b.Num), (.int .i64 b.Den)]) : (execOp ρ ⟨dd, .binOp .neq 60 p q T', ty, pos, af, g⟩).run Tryz.prog W = .ok (.value (.bool (!eqTShare a b))) W :=
  run_neqG (m := 9998 + 2) rfl (by kernel_rfl) (eqr_60 a b 9998 W) hp hq
end Go.Proofs.YtmbjoffligicnaaGreatDoor
