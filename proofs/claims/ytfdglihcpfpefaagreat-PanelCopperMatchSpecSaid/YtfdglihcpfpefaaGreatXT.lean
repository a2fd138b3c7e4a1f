/- Types of the data, and closed facts of the program's table of types. -/
import Derived.Test.YtfdglihcpfpefaaGreatProg
import Derived.Test.YtfdglihcpfpefaaGreatH13
import Derived.Test.YtfdglihcpfpefaaGreatH14
import Derived.Test.YtfdglihcpfpefaaGreatH15
import Derived.Test.YtfdglihcpfpefaaGreatH16
import Derived.Test.YtfdglihcpfpefaaGreatH19
import Derived.Test.YtfdglihcpfpefaaGreatH20
import Derived.Test.YtfdglihcpfpefaaGreatSH
namespace Go.Proofs.YtfdglihcpfpefaaGreat
open Go.RowKit
set_option maxRecDepth 100000
structure TBoardKind where
  Name : ByteArray
  W : Int
  H : Int
structure TPoint where
  X : Int
  Y : Int
structure TSlot where
  Board : ByteArray
  Quarters : Int
  At : TPoint
structure TPanel where
  W : Int
  H : Int
  Rail : Int
  Gap : Int
  Kinds : (List TBoardKind)
  Slots : (List TSlot)
  Marks : (List TPoint)
structure TRect where
  X0 : Int
  Y0 : Int
  X1 : Int
  Y1 : Int
structure TBand where
  Y0 : Int
  Y1 : Int
  Xs : (List Int)
structure TTurn where
  Flip : Bool
  Quarters : Int
  At : TPoint
structure TSpan where
  from_ : Int
  to_ : Int
structure Tetchhouseref1Band where
  from_ : Int
  to_ : Int
  spans : (List TSpan)
structure TShare where
  Num : Int
  Den : Int
def fl_TBoardKind : Fl TBoardKind := Fl.flat 3 (fun x => [(.string x.Name), (.int .i64 x.W), (.int .i64 x.H)]) (fun _ => rfl) (fun _ u h => by
  simp at h
  rcases h with rfl | rfl | rfl <;> rfl)
theorem ef_TBoardKind : ∀ u x, fl_TBoardKind.enc u x = [(.string x.Name), (.int .i64 x.W), (.int .i64 x.H)] := fun _ _ => rfl
theorem tr_TBoardKind : fl_TBoardKind.Tri := fun _ _ _ _ => trivial
def fl_TSlot : Fl TSlot := Fl.flat 4 (fun x => [(.string x.Board), (.int .i64 x.Quarters), (.int .i64 x.At.X), (.int .i64 x.At.Y)]) (fun _ => rfl) (fun _ u h => by
  simp at h
  rcases h with rfl | rfl | rfl | rfl <;> rfl)
theorem ef_TSlot : ∀ u x, fl_TSlot.enc u x = [(.string x.Board), (.int .i64 x.Quarters), (.int .i64 x.At.X), (.int .i64 x.At.Y)] := fun _ _ => rfl
theorem tr_TSlot : fl_TSlot.Tri := fun _ _ _ _ => trivial
def fl_TPoint : Fl TPoint := Fl.flat 2 (fun x => [(.int .i64 x.X), (.int .i64 x.Y)]) (fun _ => rfl) (fun _ u h => by
  simp at h
  rcases h with rfl | rfl <;> rfl)
theorem ef_TPoint : ∀ u x, fl_TPoint.enc u x = [(.int .i64 x.X), (.int .i64 x.Y)] := fun _ _ => rfl
theorem tr_TPoint : fl_TPoint.Tri := fun _ _ _ _ => trivial
def fl_TRect : Fl TRect := Fl.flat 4 (fun x => [(.int .i64 x.X0), (.int .i64 x.Y0), (.int .i64 x.X1), (.int .i64 x.Y1)]) (fun _ => rfl) (fun _ u h => by
  simp at h
  rcases h with rfl | rfl | rfl | rfl <;> rfl)
theorem ef_TRect : ∀ u x, fl_TRect.enc u x = [(.int .i64 x.X0), (.int .i64 x.Y0), (.int .i64 x.X1), (.int .i64 x.Y1)] := fun _ _ => rfl
theorem tr_TRect : fl_TRect.Tri := fun _ _ _ _ => trivial
def fl_i64 : Fl Int := Fl.flat 1 (fun x => [(.int .i64 x)]) (fun _ => rfl) (fun _ u h => by
  simp at h
  subst h; rfl)
theorem ef_i64 : ∀ u x, fl_i64.enc u x = [(.int .i64 x)] := fun _ _ => rfl
theorem tr_i64 : fl_i64.Tri := fun _ _ _ _ => trivial
def fl_TBand : Fl TBand where
  Ad := (Option Addr × Nat)
  sz := 3
  enc u x := [(.int .i64 x.Y0), (.int .i64 x.Y1), (.slice u.1 (x.Xs).length u.2)]
  ok S W u x := Sl S W fl_i64 u.1 u.2 x.Xs
  len _ _ := rfl
  one _ _ v h := by
    simp at h
    rcases h with rfl | rfl | rfl <;> rfl
  loc h hs hb := h.go hs hb
def fl_LTBand : Fl (List TBand) where
  Ad := (Option Addr × Nat)
  sz := 1
  enc u x := [(.slice u.1 (x).length u.2)]
  ok S W u x := Sl S W fl_TBand u.1 u.2 x
  len _ _ := rfl
  one _ _ v h := by
    simp at h
    subst h; rfl
  loc h hs hb := h.go hs hb
def fl_TSpan : Fl TSpan := Fl.flat 2 (fun x => [(.int .i64 x.from_), (.int .i64 x.to_)]) (fun _ => rfl) (fun _ u h => by
  simp at h
  rcases h with rfl | rfl <;> rfl)
theorem ef_TSpan : ∀ u x, fl_TSpan.enc u x = [(.int .i64 x.from_), (.int .i64 x.to_)] := fun _ _ => rfl
theorem tr_TSpan : fl_TSpan.Tri := fun _ _ _ _ => trivial
def fl_Tetchhouseref1Band : Fl Tetchhouseref1Band where
  Ad := (Option Addr × Nat)
  sz := 3
  enc u x := [(.int .i64 x.from_), (.int .i64 x.to_), (.slice u.1 (x.spans).length u.2)]
  ok S W u x := Sl S W fl_TSpan u.1 u.2 x.spans
  len _ _ := rfl
  one _ _ v h := by
    simp at h
    rcases h with rfl | rfl | rfl <;> rfl
  loc h hs hb := h.go hs hb
theorem ag_113 : aggOf Tryz.prog 113 = some true := by kernel_rfl
theorem ag_22 : aggOf Tryz.prog 22 = some false := by kernel_rfl
theorem ag_23 : aggOf Tryz.prog 23 = some false := by kernel_rfl
theorem ag_24 : aggOf Tryz.prog 24 = some false := by kernel_rfl
theorem ag_26 : aggOf Tryz.prog 26 = some true := by kernel_rfl
theorem ag_3 : aggOf Tryz.prog 3 = some false := by kernel_rfl
theorem ag_33 : aggOf Tryz.prog 33 = some true := by kernel_rfl
theorem ag_4 : aggOf Tryz.prog 4 = some false := by kernel_rfl
theorem ag_40 : aggOf Tryz.prog 40 = some false := by kernel_rfl
theorem ag_44 : aggOf Tryz.prog 44 = some true := by kernel_rfl
theorem ag_46 : aggOf Tryz.prog 46 = some true := by kernel_rfl
theorem ag_48 : aggOf Tryz.prog 48 = some true := by kernel_rfl
theorem ag_50 : aggOf Tryz.prog 50 = some true := by kernel_rfl
theorem ag_56 : aggOf Tryz.prog 56 = some true := by kernel_rfl
theorem ag_65 : aggOf Tryz.prog 65 = some false := by kernel_rfl
theorem ag_73 : aggOf Tryz.prog 73 = some true := by kernel_rfl
theorem ag_83 : aggOf Tryz.prog 83 = some false := by kernel_rfl
theorem ag_86 : aggOf Tryz.prog 86 = some true := by kernel_rfl
theorem ag_9 : aggOf Tryz.prog 9 = some false := by kernel_rfl
theorem sz_113 : szOf Tryz.prog 113 = some 2 := by kernel_rfl
theorem sz_26 : szOf Tryz.prog 26 = some 7 := by kernel_rfl
theorem sz_3 : szOf Tryz.prog 3 = some 1 := by kernel_rfl
theorem sz_33 : szOf Tryz.prog 33 = some 4 := by kernel_rfl
theorem sz_44 : szOf Tryz.prog 44 = some 3 := by kernel_rfl
theorem sz_46 : szOf Tryz.prog 46 = some 2 := by kernel_rfl
theorem sz_48 : szOf Tryz.prog 48 = some 4 := by kernel_rfl
theorem sz_50 : szOf Tryz.prog 50 = some 4 := by kernel_rfl
theorem sz_56 : szOf Tryz.prog 56 = some 2 := by kernel_rfl
theorem sz_65 : szOf Tryz.prog 65 = some 1 := by kernel_rfl
theorem sz_73 : szOf Tryz.prog 73 = some 3 := by kernel_rfl
theorem sz_86 : szOf Tryz.prog 86 = some 3 := by kernel_rfl
theorem ze_3 : zeroOf Tryz.prog 3 = some [(.int .i64 0)] := by kernel_rfl
theorem ze_33 : zeroOf Tryz.prog 33 = some [(.int .i64 0), (.int .i64 0), (.int .i64 0), (.int .i64 0)] := by kernel_rfl
theorem ze_44 : zeroOf Tryz.prog 44 = some [(.string ⟨#[]⟩), (.int .i64 0), (.int .i64 0)] := by kernel_rfl
theorem ze_46 : zeroOf Tryz.prog 46 = some [(.int .i64 0), (.int .i64 0)] := by kernel_rfl
theorem ze_48 : zeroOf Tryz.prog 48 = some [(.string ⟨#[]⟩), (.int .i64 0), (.int .i64 0), (.int .i64 0)] := by kernel_rfl
theorem ze_50 : zeroOf Tryz.prog 50 = some [(.bool false), (.int .i64 0), (.int .i64 0), (.int .i64 0)] := by kernel_rfl
theorem ze_56 : zeroOf Tryz.prog 56 = some [(.int .i64 0), (.int .i64 0)] := by kernel_rfl
theorem ze_65 : zeroOf Tryz.prog 65 = some [(.slice none 0 0)] := by kernel_rfl
theorem ze_73 : zeroOf Tryz.prog 73 = some [(.int .i64 0), (.int .i64 0), (.slice none 0 0)] := by kernel_rfl
theorem zl_113 : (zeroOf Tryz.prog 113).map List.length = some 2 := by kernel_rfl
theorem zl_3 : (zeroOf Tryz.prog 3).map List.length = some 1 := by kernel_rfl
theorem zl_33 : (zeroOf Tryz.prog 33).map List.length = some 4 := by kernel_rfl
theorem zl_73 : (zeroOf Tryz.prog 73).map List.length = some 3 := by kernel_rfl
theorem zl_86 : (zeroOf Tryz.prog 86).map List.length = some 3 := by kernel_rfl
theorem by_113 : (Tryz.prog.info? 113).map (·.bytes) = some 16 := by kernel_rfl
theorem by_3 : (Tryz.prog.info? 3).map (·.bytes) = some 8 := by kernel_rfl
theorem by_33 : (Tryz.prog.info? 33).map (·.bytes) = some 32 := by kernel_rfl
theorem by_73 : (Tryz.prog.info? 73).map (·.bytes) = some 40 := by kernel_rfl
theorem by_86 : (Tryz.prog.info? 86).map (·.bytes) = some 40 := by kernel_rfl
theorem fo_113_0 : fieldOf Tryz.prog 113 0 = some 0 := by kernel_rfl
theorem fo_113_1 : fieldOf Tryz.prog 113 1 = some 1 := by kernel_rfl
theorem fo_26_0 : fieldOf Tryz.prog 26 0 = some 0 := by kernel_rfl
theorem fo_26_1 : fieldOf Tryz.prog 26 1 = some 1 := by kernel_rfl
theorem fo_26_2 : fieldOf Tryz.prog 26 2 = some 2 := by kernel_rfl
theorem fo_26_3 : fieldOf Tryz.prog 26 3 = some 3 := by kernel_rfl
theorem fo_26_4 : fieldOf Tryz.prog 26 4 = some 4 := by kernel_rfl
theorem fo_26_5 : fieldOf Tryz.prog 26 5 = some 5 := by kernel_rfl
theorem fo_26_6 : fieldOf Tryz.prog 26 6 = some 6 := by kernel_rfl
theorem fo_33_0 : fieldOf Tryz.prog 33 0 = some 0 := by kernel_rfl
theorem fo_33_1 : fieldOf Tryz.prog 33 1 = some 1 := by kernel_rfl
theorem fo_33_2 : fieldOf Tryz.prog 33 2 = some 2 := by kernel_rfl
theorem fo_33_3 : fieldOf Tryz.prog 33 3 = some 3 := by kernel_rfl
theorem fo_44_0 : fieldOf Tryz.prog 44 0 = some 0 := by kernel_rfl
theorem fo_44_1 : fieldOf Tryz.prog 44 1 = some 1 := by kernel_rfl
theorem fo_44_2 : fieldOf Tryz.prog 44 2 = some 2 := by kernel_rfl
theorem fo_46_0 : fieldOf Tryz.prog 46 0 = some 0 := by kernel_rfl
theorem fo_46_1 : fieldOf Tryz.prog 46 1 = some 1 := by kernel_rfl
theorem fo_48_0 : fieldOf Tryz.prog 48 0 = some 0 := by kernel_rfl
theorem fo_48_1 : fieldOf Tryz.prog 48 1 = some 1 := by kernel_rfl
theorem fo_48_2 : fieldOf Tryz.prog 48 2 = some 2 := by kernel_rfl
theorem fo_50_0 : fieldOf Tryz.prog 50 0 = some 0 := by kernel_rfl
theorem fo_50_1 : fieldOf Tryz.prog 50 1 = some 1 := by kernel_rfl
theorem fo_50_2 : fieldOf Tryz.prog 50 2 = some 2 := by kernel_rfl
theorem fo_73_0 : fieldOf Tryz.prog 73 0 = some 0 := by kernel_rfl
theorem fo_73_1 : fieldOf Tryz.prog 73 1 = some 1 := by kernel_rfl
theorem fo_73_2 : fieldOf Tryz.prog 73 2 = some 2 := by kernel_rfl
theorem fo_86_0 : fieldOf Tryz.prog 86 0 = some 0 := by kernel_rfl
theorem fo_86_1 : fieldOf Tryz.prog 86 1 = some 1 := by kernel_rfl
theorem fo_86_2 : fieldOf Tryz.prog 86 2 = some 2 := by kernel_rfl
theorem el_134 : elemOf? Tryz.prog 134 = some (40, 1) := by kernel_rfl
theorem el_22 : elemOf? Tryz.prog 22 = some (44, 3) := by kernel_rfl
theorem el_23 : elemOf? Tryz.prog 23 = some (48, 4) := by kernel_rfl
theorem el_24 : elemOf? Tryz.prog 24 = some (46, 2) := by kernel_rfl
theorem el_27 : elemOf? Tryz.prog 27 = some (33, 4) := by kernel_rfl
theorem el_40 : elemOf? Tryz.prog 40 = some (73, 3) := by kernel_rfl
theorem el_65 : elemOf? Tryz.prog 65 = some (3, 1) := by kernel_rfl
theorem el_81 : elemOf? Tryz.prog 81 = some (86, 3) := by kernel_rfl
theorem el_83 : elemOf? Tryz.prog 83 = some (113, 2) := by kernel_rfl
theorem un_134 : Tryz.prog.underlying 134 = some (.slice 40) := by kernel_rfl
theorem un_22 : Tryz.prog.underlying 22 = some (.slice 44) := by kernel_rfl
theorem un_23 : Tryz.prog.underlying 23 = some (.slice 48) := by kernel_rfl
theorem un_24 : Tryz.prog.underlying 24 = some (.slice 46) := by kernel_rfl
theorem un_27 : Tryz.prog.underlying 27 = some (.slice 33) := by kernel_rfl
theorem un_4 : Tryz.prog.underlying 4 = some (.bool) := by kernel_rfl
theorem un_40 : Tryz.prog.underlying 40 = some (.slice 73) := by kernel_rfl
theorem un_65 : Tryz.prog.underlying 65 = some (.slice 3) := by kernel_rfl
theorem un_81 : Tryz.prog.underlying 81 = some (.slice 86) := by kernel_rfl
theorem un_83 : Tryz.prog.underlying 83 = some (.slice 113) := by kernel_rfl
theorem un_9 : Tryz.prog.underlying 9 = some (.string) := by kernel_rfl
def eqTRect (a b : TRect) : Bool := (a.X0 == b.X0) && ((a.Y0 == b.Y0) && ((a.X1 == b.X1) && ((a.Y1 == b.Y1) && true)))
theorem eqTRect_iff {a b : TRect} : eqTRect a b = true ↔ a = b := by
  cases a; cases b; simp [eqTRect, sEq_iff]
theorem eqr_33 (a b : TRect) (d : Nat) (W : World) : (Op.equalIn (d + 2) 33 (.agg #[(.int .i64 a.X0), (.int .i64 a.Y0), (.int .i64 a.X1), (.int .i64 a.Y1)]) (.agg #[(.int .i64 b.X0), (.int .i64 b.Y0), (.int .i64 b.X1), (.int .i64 b.Y1)])).run Tryz.prog W = .ok (eqTRect a b) W := by
  rw [show d + 2 = (d + 1) + 1 from rfl, run_equalIn_struct W _ 33 _ _ (by kernel_rfl) (by kernel_rfl)]
  simp only [Program.fieldsOf, Tryz.underlying33]
  exact eqF_cons rfl (part1 ag_3 rfl) (part1 ag_3 rfl) (eq_int Tryz.underlying3) (eqF_cons rfl (part1 ag_3 rfl) (part1 ag_3 rfl) (eq_int Tryz.underlying3) (eqF_cons rfl (part1 ag_3 rfl) (part1 ag_3 rfl) (eq_int Tryz.underlying3) (eqF_cons rfl (part1 ag_3 rfl) (part1 ag_3 rfl) (eq_int Tryz.underlying3) (eqF_nil))))
theorem run_eql_33 {ρ : Operand → Value} {W : World} {dd : Option Tmp} {ty T' : TypeId} {pos : String} {af : Array Edge} {g : Option (Nat × Bool)} {p q : Operand} (a b : TRect) (hp : ρ p = .agg #[(.int .i64 a.X0), (.int .i64 a.Y0), (.int .i64 a.X1), (.int .i64 a.Y1)]) (hq : ρ q = .agg #[(.int .i64 b.X0), (.int .i64 b.Y0), (.int .i64 b.X1), (.int .i64 b.Y1)]) : (execOp ρ ⟨dd, .binOp .eql 33 p q T', ty, pos, af, g⟩).run Tryz.prog W = .ok (.value (.bool (eqTRect a b))) W :=
  run_eqlG (m := 9998 + 2) rfl (by kernel_rfl) (eqr_33 a b 9998 W) hp hq
theorem run_neq_33 {ρ : Operand → Value} {W : World} {dd : Option Tmp} {ty T' : TypeId} {pos : String} {af : Array Edge} {g : Option (Nat × Bool)} {p q : Operand} (a b : TRect) (hp : ρ p = .agg #[(.int .i64 a.X0), (.int .i64 a.Y0), (.int .i64 a.X1), (.int .i64 a.Y1)]) (hq : ρ q = .agg #[(.int .i64 b.X0), (.int .i64 b.Y0), (.int .i64 b.X1), (.int .i64 b.Y1)]) : (execOp ρ ⟨dd, .binOp .neq 33 p q T', ty, pos, af, g⟩).run Tryz.prog W = .ok (.value (.bool (!eqTRect a b))) W :=
  run_neqG (m := 9998 + 2) rfl (by kernel_rfl) (eqr_33 a b 9998 W) hp hq
def eqTPoint (a b : TPoint) : Bool := (a.X == b.X) && ((a.Y == b.Y) && true)
theorem eqTPoint_iff {a b : TPoint} : eqTPoint a b = true ↔ a = b := by
  cases a; cases b; simp [eqTPoint, sEq_iff]
theorem eqr_46 (a b : TPoint) (d : Nat) (W : World) : (Op.equalIn (d + 2) 46 (.agg #[(.int .i64 a.X), (.int .i64 a.Y)]) (.agg #[(.int .i64 b.X), (.int .i64 b.Y)])).run Tryz.prog W = .ok (eqTPoint a b) W := by
  rw [show d + 2 = (d + 1) + 1 from rfl, run_equalIn_struct W _ 46 _ _ (by kernel_rfl) (by kernel_rfl)]
  simp only [Program.fieldsOf, Tryz.underlying46]
  exact eqF_cons rfl (part1 ag_3 rfl) (part1 ag_3 rfl) (eq_int Tryz.underlying3) (eqF_cons rfl (part1 ag_3 rfl) (part1 ag_3 rfl) (eq_int Tryz.underlying3) (eqF_nil))
theorem run_eql_46 {ρ : Operand → Value} {W : World} {dd : Option Tmp} {ty T' : TypeId} {pos : String} {af : Array Edge} {g : Option (Nat × Bool)} {p q : Operand} (a b : TPoint) (hp : ρ p = .agg #[(.int .i64 a.X), (.int .i64 a.Y)]) (hq : ρ q = .agg #[(.int .i64 b.X), (.int .i64 b.Y)]) : (execOp ρ ⟨dd, .binOp .eql 46 p q T', ty, pos, af, g⟩).run Tryz.prog W = .ok (.value (.bool (eqTPoint a b))) W :=
  run_eqlG (m := 9998 + 2) rfl (by kernel_rfl) (eqr_46 a b 9998 W) hp hq
theorem run_neq_46 {ρ : Operand → Value} {W : World} {dd : Option Tmp} {ty T' : TypeId} {pos : String} {af : Array Edge} {g : Option (Nat × Bool)} {p q : Operand} (a b : TPoint) (hp : ρ p = .agg #[(.int .i64 a.X), (.int .i64 a.Y)]) (hq : ρ q = .agg #[(.int .i64 b.X), (.int .i64 b.Y)]) : (execOp ρ ⟨dd, .binOp .neq 46 p q T', ty, pos, af, g⟩).run Tryz.prog W = .ok (.value (.bool (!eqTPoint a b))) W :=
  run_neqG (m := 9998 + 2) rfl (by kernel_rfl) (eqr_46 a b 9998 W) hp hq
def eqTShare (a b : TShare) : Bool := (a.Num == b.Num) && ((a.Den == b.Den) && true)
theorem eqTShare_iff {a b : TShare} : eqTShare a b = true ↔ a = b := by
  cases a; cases b; simp [eqTShare, sEq_iff]
theorem eqr_56 (a b : TShare) (d : Nat) (W : World) : (Op.equalIn (d + 2) 56 (.agg #[(.int .i64 a.Num), (.int .i64 a.Den)]) (.agg #[(.int .i64 b.Num), (.int .i64 b.Den)])).run Tryz.prog W = .ok (eqTShare a b) W := by
  rw [show d + 2 = (d + 1) + 1 from rfl, run_equalIn_struct W _ 56 _ _ (by kernel_rfl) (by kernel_rfl)]
  simp only [Program.fieldsOf, Tryz.underlying56]
  exact eqF_cons rfl (part1 ag_3 rfl) (part1 ag_3 rfl) (eq_int Tryz.underlying3) (eqF_cons rfl (part1 ag_3 rfl) (part1 ag_3 rfl) (eq_int Tryz.underlying3) (eqF_nil))
theorem run_eql_56 {ρ : Operand → Value} {W : World} {dd : Option Tmp} {ty T' : TypeId} {pos : String} {af : Array Edge} {g : Option (Nat × Bool)} {p q : Operand} (a b : TShare) (hp : ρ p = .agg #[(.int .i64 a.Num), (.int .i64 a.Den)]) (hq : ρ q = .agg #[(.int .i64 b.Num), (.int .i64 b.Den)]) : (execOp ρ ⟨dd, .binOp .eql 56 p q T', ty, pos, af, g⟩).run Tryz.prog W = .ok (.value (.bool (eqTShare a b))) W :=
  run_eqlG (m := 9998 + 2) rfl (by kernel_rfl) (eqr_56 a b 9998 W) hp hq
theorem run_neq_56 {ρ : Operand → Value} {W : World} {dd : Option Tmp} {ty T' : TypeId} {pos : String} {af : Array Edge} {g : Option (Nat × Bool)} {p q : Operand} (a b : TShare) (hp : ρ p = .agg #[(.int .i64 a.Num), (.int .i64 a.Den)]) (hq : ρ q = .agg #[(.int .i64 b.Num), (.int .i64 b.Den)]) : (execOp ρ ⟨dd, .binOp .neq 56 p q T', ty, pos, af, g⟩).run Tryz.prog W = .ok (.value (.bool (!eqTShare a b))) W :=
  run_neqG (m := 9998 + 2) rfl (by kernel_rfl) (eqr_56 a b 9998 W) hp hq
def eqTSpan (a b : TSpan) : Bool := (a.from_ == b.from_) && ((a.to_ == b.to_) && true)
theorem eqTSpan_iff {a b : TSpan} : eqTSpan a b = true ↔ a = b := by
  cases a; cases b; simp [eqTSpan, sEq_iff]
theorem eqr_113 (a b : TSpan) (d : Nat) (W : World) : (Op.equalIn (d + 2) 113 (.agg #[(.int .i64 a.from_), (.int .i64 a.to_)]) (.agg #[(.int .i64 b.from_), (.int .i64 b.to_)])).run Tryz.prog W = .ok (eqTSpan a b) W := by
  rw [show d + 2 = (d + 1) + 1 from rfl, run_equalIn_struct W _ 113 _ _ (by kernel_rfl) (by kernel_rfl)]
  simp only [Program.fieldsOf, Tryz.underlying113]
  exact eqF_cons rfl (part1 ag_3 rfl) (part1 ag_3 rfl) (eq_int Tryz.underlying3) (eqF_cons rfl (part1 ag_3 rfl) (part1 ag_3 rfl) (eq_int Tryz.underlying3) (eqF_nil))
theorem run_eql_113 {ρ : Operand → Value} {W : World} {dd : Option Tmp} {ty T' : TypeId} {pos : String} {af : Array Edge} {g : Option (Nat × Bool)} {p q : Operand} (a b : TSpan) (hp : ρ p = .agg #[(.int .i64 a.from_), (.int .i64 a.to_)]) (hq : ρ q = .agg #[(.int .i64 b.from_), (.int .i64 b.to_)]) : (execOp ρ ⟨dd, .binOp .eql 113 p q T', ty, pos, af, g⟩).run Tryz.prog W = .ok (.value (.bool (eqTSpan a b))) W :=
  run_eqlG (m := 9998 + 2) rfl (by kernel_rfl) (eqr_113 a b 9998 W) hp hq
theorem run_neq_113 {ρ : Operand → Value} {W : World} {dd : Option Tmp} {ty T' : TypeId} {pos : String} {af : Array Edge} {g : Option (Nat × Bool)} {p q : Operand} (a b : TSpan) (hp : ρ p = .agg #[(.int .i64 a.from_), (.int .i64 a.to_)]) (hq : ρ q = .agg #[(.int .i64 b.from_), (.int .i64 b.to_)]) : (execOp ρ ⟨dd, .binOp .neq 113 p q T', ty, pos, af, g⟩).run Tryz.prog W = .ok (.value (.bool (!eqTSpan a b))) W :=
  run_neqG (m := 9998 + 2) rfl (by kernel_rfl) (eqr_113 a b 9998 W) hp hq
end Go.Proofs.YtfdglihcpfpefaaGreat
