/- Types of the data, and closed facts of the program's table of types. -/
import Derived.Test.YtfdglihcpfpefaaProg
import Derived.Test.YtfdglihcpfpefaaH13
import Derived.Test.YtfdglihcpfpefaaH14
import Derived.Test.YtfdglihcpfpefaaH15
import Derived.Test.YtfdglihcpfpefaaH16
import Derived.Test.YtfdglihcpfpefaaH19
import Derived.Test.YtfdglihcpfpefaaSH
namespace Go.Proofs.Ytfdglihcpfpefaa
open Go.RowKit
set_option maxRecDepth 100000
structure TBoardKind where
  Name : ByteArray
  W : Int
  H : Int
structure TPoint where
  X : Int
  Y : Int
structure TSlot where
  Board : ByteArray
  Quarters : Int
  At : TPoint
structure TPanel where
  W : Int
  H : Int
  Rail : Int
  Gap : Int
  Kinds : (List TBoardKind)
  Slots : (List TSlot)
  Marks : (List TPoint)
structure TRect where
  X0 : Int
  Y0 : Int
  X1 : Int
  Y1 : Int
structure TBand where
  Y0 : Int
  Y1 : Int
  Xs : (List Int)
structure TTurn where
  Flip : Bool
  Quarters : Int
  At : TPoint
structure TShare where
  Num : Int
  Den : Int
def fl_TBoardKind : Fl TBoardKind := Fl.flat 3 (fun x => [(.string x.Name), (.int .i64 x.W), (.int .i64 x.H)]) (fun _ => rfl) (fun _ u h => by
  simp at h
  rcases h with rfl | rfl | rfl <;> rfl)
theorem ef_TBoardKind : ∀ u x, fl_TBoardKind.enc u x = [(.string x.Name), (.int .i64 x.W), (.int .i64 x.H)] := fun _ _ => rfl
theorem tr_TBoardKind : fl_TBoardKind.Tri := fun _ _ _ _ => trivial
def fl_TSlot : Fl TSlot := Fl.flat 4 (fun x => [(.string x.Board), (.int .i64 x.Quarters), (.int .i64 x.At.X), (.int .i64 x.At.Y)]) (fun _ => rfl) (fun _ u h => by
  simp at h
  rcases h with rfl | rfl | rfl | rfl <;> rfl)
theorem ef_TSlot : ∀ u x, fl_TSlot.enc u x = [(.string x.Board), (.int .i64 x.Quarters), (.int .i64 x.At.X), (.int .i64 x.At.Y)] := fun _ _ => rfl
theorem tr_TSlot : fl_TSlot.Tri := fun _ _ _ _ => trivial
def fl_TPoint : Fl TPoint := Fl.flat 2 (fun x => [(.int .i64 x.X), (.int .i64 x.Y)]) (fun _ => rfl) (fun _ u h => by
  simp at h
  rcases h with rfl | rfl <;> rfl)
theorem ef_TPoint : ∀ u x, fl_TPoint.enc u x = [(.int .i64 x.X), (.int .i64 x.Y)] := fun _ _ => rfl
theorem tr_TPoint : fl_TPoint.Tri := fun _ _ _ _ => trivial
def fl_TRect : Fl TRect := Fl.flat 4 (fun x => [(.int .i64 x.X0), (.int .i64 x.Y0), (.int .i64 x.X1), (.int .i64 x.Y1)]) (fun _ => rfl) (fun _ u h => by
  simp at h
  rcases h with rfl | rfl | rfl | rfl <;> rfl)
theorem ef_TRect : ∀ u x, fl_TRect.enc u x = [(.int .i64 x.X0), (.int .i64 x.Y0), (.int .i64 x.X1), (.int .i64 x.Y1)] := fun _ _ => rfl
theorem tr_TRect : fl_TRect.Tri := fun _ _ _ _ => trivial
def fl_i64 : Fl Int := Fl.flat 1 (fun x => [(.int .i64 x)]) (fun _ => rfl) (fun _ u h => by
  simp at h
  subst h; rfl)
theorem ef_i64 : ∀ u x, fl_i64.enc u x = [(.int .i64 x)] := fun _ _ => rfl
theorem tr_i64 : fl_i64.Tri := fun _ _ _ _ => trivial
def fl_TBand : Fl TBand where
  Ad := (Option Addr × Nat)
  sz := 3
  enc u x := [(.int .i64 x.Y0), (.int .i64 x.Y1), (.slice u.1 (x.Xs).length u.2)]
  ok S W u x := Sl S W fl_i64 u.1 u.2 x.Xs
  len _ _ := rfl
  one _ _ v h := by
    simp at h
    rcases h with rfl | rfl | rfl <;> rfl
  loc h hs hb := h.go hs hb
def fl_LTBand : Fl (List TBand) where
  Ad := (Option Addr × Nat)
  sz := 1
  enc u x := [(.slice u.1 (x).length u.2)]
  ok S W u x := Sl S W fl_TBand u.1 u.2 x
  len _ _ := rfl
  one _ _ v h := by
    simp at h
    subst h; rfl
  loc h hs hb := h.go hs hb
theorem ag_22 : aggOf Try.prog 22 = some false := by kernel_rfl
theorem ag_23 : aggOf Try.prog 23 = some false := by kernel_rfl
theorem ag_24 : aggOf Try.prog 24 = some false := by kernel_rfl
theorem ag_26 : aggOf Try.prog 26 = some true := by kernel_rfl
theorem ag_3 : aggOf Try.prog 3 = some false := by kernel_rfl
theorem ag_33 : aggOf Try.prog 33 = some true := by kernel_rfl
theorem ag_35 : aggOf Try.prog 35 = some true := by kernel_rfl
theorem ag_4 : aggOf Try.prog 4 = some false := by kernel_rfl
theorem ag_43 : aggOf Try.prog 43 = some false := by kernel_rfl
theorem ag_47 : aggOf Try.prog 47 = some true := by kernel_rfl
theorem ag_49 : aggOf Try.prog 49 = some true := by kernel_rfl
theorem ag_51 : aggOf Try.prog 51 = some true := by kernel_rfl
theorem ag_56 : aggOf Try.prog 56 = some true := by kernel_rfl
theorem ag_68 : aggOf Try.prog 68 = some false := by kernel_rfl
theorem ag_76 : aggOf Try.prog 76 = some true := by kernel_rfl
theorem ag_9 : aggOf Try.prog 9 = some false := by kernel_rfl
theorem sz_26 : szOf Try.prog 26 = some 7 := by kernel_rfl
theorem sz_3 : szOf Try.prog 3 = some 1 := by kernel_rfl
theorem sz_33 : szOf Try.prog 33 = some 2 := by kernel_rfl
theorem sz_35 : szOf Try.prog 35 = some 4 := by kernel_rfl
theorem sz_47 : szOf Try.prog 47 = some 3 := by kernel_rfl
theorem sz_49 : szOf Try.prog 49 = some 4 := by kernel_rfl
theorem sz_51 : szOf Try.prog 51 = some 4 := by kernel_rfl
theorem sz_56 : szOf Try.prog 56 = some 2 := by kernel_rfl
theorem sz_68 : szOf Try.prog 68 = some 1 := by kernel_rfl
theorem sz_76 : szOf Try.prog 76 = some 3 := by kernel_rfl
theorem ze_3 : zeroOf Try.prog 3 = some [(.int .i64 0)] := by kernel_rfl
theorem ze_33 : zeroOf Try.prog 33 = some [(.int .i64 0), (.int .i64 0)] := by kernel_rfl
theorem ze_35 : zeroOf Try.prog 35 = some [(.string ⟨#[]⟩), (.int .i64 0), (.int .i64 0), (.int .i64 0)] := by kernel_rfl
theorem ze_47 : zeroOf Try.prog 47 = some [(.string ⟨#[]⟩), (.int .i64 0), (.int .i64 0)] := by kernel_rfl
theorem ze_49 : zeroOf Try.prog 49 = some [(.int .i64 0), (.int .i64 0), (.int .i64 0), (.int .i64 0)] := by kernel_rfl
theorem ze_51 : zeroOf Try.prog 51 = some [(.bool false), (.int .i64 0), (.int .i64 0), (.int .i64 0)] := by kernel_rfl
theorem ze_56 : zeroOf Try.prog 56 = some [(.int .i64 0), (.int .i64 0)] := by kernel_rfl
theorem ze_68 : zeroOf Try.prog 68 = some [(.slice none 0 0)] := by kernel_rfl
theorem ze_76 : zeroOf Try.prog 76 = some [(.int .i64 0), (.int .i64 0), (.slice none 0 0)] := by kernel_rfl
theorem zl_3 : (zeroOf Try.prog 3).map List.length = some 1 := by kernel_rfl
theorem zl_49 : (zeroOf Try.prog 49).map List.length = some 4 := by kernel_rfl
theorem zl_76 : (zeroOf Try.prog 76).map List.length = some 3 := by kernel_rfl
theorem by_3 : (Try.prog.info? 3).map (·.bytes) = some 8 := by kernel_rfl
theorem by_49 : (Try.prog.info? 49).map (·.bytes) = some 32 := by kernel_rfl
theorem by_76 : (Try.prog.info? 76).map (·.bytes) = some 40 := by kernel_rfl
theorem fo_26_0 : fieldOf Try.prog 26 0 = some 0 := by kernel_rfl
theorem fo_26_1 : fieldOf Try.prog 26 1 = some 1 := by kernel_rfl
theorem fo_26_2 : fieldOf Try.prog 26 2 = some 2 := by kernel_rfl
theorem fo_26_3 : fieldOf Try.prog 26 3 = some 3 := by kernel_rfl
theorem fo_26_4 : fieldOf Try.prog 26 4 = some 4 := by kernel_rfl
theorem fo_26_5 : fieldOf Try.prog 26 5 = some 5 := by kernel_rfl
theorem fo_26_6 : fieldOf Try.prog 26 6 = some 6 := by kernel_rfl
theorem fo_33_0 : fieldOf Try.prog 33 0 = some 0 := by kernel_rfl
theorem fo_33_1 : fieldOf Try.prog 33 1 = some 1 := by kernel_rfl
theorem fo_35_0 : fieldOf Try.prog 35 0 = some 0 := by kernel_rfl
theorem fo_35_1 : fieldOf Try.prog 35 1 = some 1 := by kernel_rfl
theorem fo_35_2 : fieldOf Try.prog 35 2 = some 2 := by kernel_rfl
theorem fo_47_0 : fieldOf Try.prog 47 0 = some 0 := by kernel_rfl
theorem fo_47_1 : fieldOf Try.prog 47 1 = some 1 := by kernel_rfl
theorem fo_47_2 : fieldOf Try.prog 47 2 = some 2 := by kernel_rfl
theorem fo_49_0 : fieldOf Try.prog 49 0 = some 0 := by kernel_rfl
theorem fo_49_1 : fieldOf Try.prog 49 1 = some 1 := by kernel_rfl
theorem fo_49_2 : fieldOf Try.prog 49 2 = some 2 := by kernel_rfl
theorem fo_49_3 : fieldOf Try.prog 49 3 = some 3 := by kernel_rfl
theorem fo_51_0 : fieldOf Try.prog 51 0 = some 0 := by kernel_rfl
theorem fo_51_1 : fieldOf Try.prog 51 1 = some 1 := by kernel_rfl
theorem fo_51_2 : fieldOf Try.prog 51 2 = some 2 := by kernel_rfl
theorem fo_76_0 : fieldOf Try.prog 76 0 = some 0 := by kernel_rfl
theorem fo_76_1 : fieldOf Try.prog 76 1 = some 1 := by kernel_rfl
theorem fo_76_2 : fieldOf Try.prog 76 2 = some 2 := by kernel_rfl
theorem el_119 : elemOf? Try.prog 119 = some (43, 1) := by kernel_rfl
theorem el_22 : elemOf? Try.prog 22 = some (47, 3) := by kernel_rfl
theorem el_23 : elemOf? Try.prog 23 = some (35, 4) := by kernel_rfl
theorem el_24 : elemOf? Try.prog 24 = some (33, 2) := by kernel_rfl
theorem el_27 : elemOf? Try.prog 27 = some (49, 4) := by kernel_rfl
theorem el_43 : elemOf? Try.prog 43 = some (76, 3) := by kernel_rfl
theorem el_68 : elemOf? Try.prog 68 = some (3, 1) := by kernel_rfl
theorem un_119 : Try.prog.underlying 119 = some (.slice 43) := by kernel_rfl
theorem un_22 : Try.prog.underlying 22 = some (.slice 47) := by kernel_rfl
theorem un_23 : Try.prog.underlying 23 = some (.slice 35) := by kernel_rfl
theorem un_24 : Try.prog.underlying 24 = some (.slice 33) := by kernel_rfl
theorem un_27 : Try.prog.underlying 27 = some (.slice 49) := by kernel_rfl
theorem un_4 : Try.prog.underlying 4 = some (.bool) := by kernel_rfl
theorem un_43 : Try.prog.underlying 43 = some (.slice 76) := by kernel_rfl
theorem un_68 : Try.prog.underlying 68 = some (.slice 3) := by kernel_rfl
theorem un_9 : Try.prog.underlying 9 = some (.string) := by kernel_rfl
def eqTPoint (a b : TPoint) : Bool := (a.X == b.X) && ((a.Y == b.Y) && true)
theorem eqTPoint_iff {a b : TPoint} : eqTPoint a b = true ↔ a = b := by
  cases a; cases b; simp [eqTPoint, sEq_iff]
theorem eqr_33 (a b : TPoint) (d : Nat) (W : World) : (Op.equalIn (d + 2) 33 (.agg #[(.int .i64 a.X), (.int .i64 a.Y)]) (.agg #[(.int .i64 b.X), (.int .i64 b.Y)])).run Try.prog W = .ok (eqTPoint a b) W := by
  rw [show d + 2 = (d + 1) + 1 from rfl, run_equalIn_struct W _ 33 _ _ (by kernel_rfl) (by kernel_rfl)]
  simp only [Program.fieldsOf, Try.underlying33]
  exact eqF_cons rfl (part1 ag_3 rfl) (part1 ag_3 rfl) (eq_int Try.underlying3) (eqF_cons rfl (part1 ag_3 rfl) (part1 ag_3 rfl) (eq_int Try.underlying3) (eqF_nil))
theorem run_eql_33 {ρ : Operand → Value} {W : World} {dd : Option Tmp} {ty T' : TypeId} {pos : String} {af : Array Edge} {g : Option (Nat × Bool)} {p q : Operand} (a b : TPoint) (hp : ρ p = .agg #[(.int .i64 a.X), (.int .i64 a.Y)]) (hq : ρ q = .agg #[(.int .i64 b.X), (.int .i64 b.Y)]) : (execOp ρ ⟨dd, .binOp .eql 33 p q T', ty, pos, af, g⟩).run Try.prog W = .ok (.value (.bool (eqTPoint a b))) W :=
  run_eqlG (m := 9998 + 2) rfl (by kernel_rfl) (eqr_33 a b 9998 W) hp hq
theorem run_neq_33 {ρ : Operand → Value} {W : World} {dd : Option Tmp} {ty T' : TypeId} {pos : String} {af : Array Edge} {g : Option (Nat × Bool)} {p q : Operand} (a b : TPoint) (hp : ρ p = .agg #[(.int .i64 a.X), (.int .i64 a.Y)]) (hq : ρ q = .agg #[(.int .i64 b.X), (.int .i64 b.Y)]) : (execOp ρ ⟨dd, .binOp .neq 33 p q T', ty, pos, af, g⟩).run Try.prog W = .ok (.value (.bool (!eqTPoint a b))) W :=
  run_neqG (m := 9998 + 2) rfl (by kernel_rfl) (eqr_33 a b 9998 W) hp hq
def eqTRect (a b : TRect) : Bool := (a.X0 == b.X0) && ((a.Y0 == b.Y0) && ((a.X1 == b.X1) && ((a.Y1 == b.Y1) && true)))
theorem eqTRect_iff {a b : TRect} : eqTRect a b = true ↔ a = b := by
  cases a; cases b; simp [eqTRect, sEq_iff]
theorem eqr_49 (a b : TRect) (d : Nat) (W : World) : (Op.equalIn (d + 2) 49 (.agg #[(.int .i64 a.X0), (.int .i64 a.Y0), (.int .i64 a.X1), (.int .i64 a.Y1)]) (.agg #[(.int .i64 b.X0), (.int .i64 b.Y0), (.int .i64 b.X1), (.int .i64 b.Y1)])).run Try.prog W = .ok (eqTRect a b) W := by
  rw [show d + 2 = (d + 1) + 1 from rfl, run_equalIn_struct W _ 49 _ _ (by kernel_rfl) (by kernel_rfl)]
  simp only [Program.fieldsOf, Try.underlying49]
  exact eqF_cons rfl (part1 ag_3 rfl) (part1 ag_3 rfl) (eq_int Try.underlying3) (eqF_cons rfl (part1 ag_3 rfl) (part1 ag_3 rfl) (eq_int Try.underlying3) (eqF_cons rfl (part1 ag_3 rfl) (part1 ag_3 rfl) (eq_int Try.underlying3) (eqF_cons rfl (part1 ag_3 rfl) (part1 ag_3 rfl) (eq_int Try.underlying3) (eqF_nil))))
theorem run_eql_49 {ρ : Operand → Value} {W : World} {dd : Option Tmp} {ty T' : TypeId} {pos : String} {af : Array Edge} {g : Option (Nat × Bool)} {p q : Operand} (a b : TRect) (hp : ρ p = .agg #[(.int .i64 a.X0), (.int .i64 a.Y0), (.int .i64 a.X1), (.int .i64 a.Y1)]) (hq : ρ q = .agg #[(.int .i64 b.X0), (.int .i64 b.Y0), (.int .i64 b.X1), (.int .i64 b.Y1)]) : (execOp ρ ⟨dd, .binOp .eql 49 p q T', ty, pos, af, g⟩).run Try.prog W = .ok (.value (.bool (eqTRect a b))) W :=
  run_eqlG (m := 9998 + 2) rfl (by kernel_rfl) (eqr_49 a b 9998 W) hp hq
theorem run_neq_49 {ρ : Operand → Value} {W : World} {dd : Option Tmp} {ty T' : TypeId} {pos : String} {af : Array Edge} {g : Option (Nat × Bool)} {p q : Operand} (a b : TRect) (hp : ρ p = .agg #[(.int .i64 a.X0), (.int .i64 a.Y0), (.int .i64 a.X1), (.int .i64 a.Y1)]) (hq : ρ q = .agg #[(.int .i64 b.X0), (.int .i64 b.Y0), (.int .i64 b.X1), (.int .i64 b.Y1)]) : (execOp ρ ⟨dd, .binOp .neq 49 p q T', ty, pos, af, g⟩).run Try.prog W = .ok (.value (.bool (!eqTRect a b))) W :=
  run_neqG (m := 9998 + 2) rfl (by kernel_rfl) (eqr_49 a b 9998 W) hp hq
def eqTShare (a b : TShare) : Bool := (a.Num == b.Num) && ((a.Den == b.Den) && true)
theorem eqTShare_iff {a b : TShare} : eqTShare a b = true ↔ a = b := by
  cases a; cases b; simp [eqTShare, sEq_iff]
theorem eqr_56 (a b : TShare) (d : Nat) (W : World) : (Op.equalIn (d + 2) 56 (.agg #[(.int .i64 a.Num), (.int .i64 a.Den)]) (.agg #[(.int .i64 b.Num), (.int .i64 b.Den)])).run Try.prog W = .ok (eqTShare a b) W := by
  rw [show d + 2 = (d + 1) + 1 from rfl, run_equalIn_struct W _ 56 _ _ (by kernel_rfl) (by kernel_rfl)]
  simp only [Program.fieldsOf, Try.underlying56]
  exact eqF_cons rfl (part1 ag_3 rfl) (part1 ag_3 rfl) (eq_int Try.underlying3) (eqF_cons rfl (part1 ag_3 rfl) (part1 ag_3 rfl) (eq_int Try.underlying3) (eqF_nil))
theorem run_eql_56 {ρ : Operand → Value} {W : World} {dd : Option Tmp} {ty T' : TypeId} {pos : String} {af : Array Edge} {g : Option (Nat × Bool)} {p q : Operand} (a b : TShare) (hp : ρ p = .agg #[(.int .i64 a.Num), (.int .i64 a.Den)]) (hq : ρ q = .agg #[(.int .i64 b.Num), (.int .i64 b.Den)]) : (execOp ρ ⟨dd, .binOp .eql 56 p q T', ty, pos, af, g⟩).run Try.prog W = .ok (.value (.bool (eqTShare a b))) W :=
  run_eqlG (m := 9998 + 2) rfl (by kernel_rfl) (eqr_56 a b 9998 W) hp hq
theorem run_neq_56 {ρ : Operand → Value} {W : World} {dd : Option Tmp} {ty T' : TypeId} {pos : String} {af : Array Edge} {g : Option (Nat × Bool)} {p q : Operand} (a b : TShare) (hp : ρ p = .agg #[(.int .i64 a.Num), (.int .i64 a.Den)]) (hq : ρ q = .agg #[(.int .i64 b.Num), (.int .i64 b.Den)]) : (execOp ρ ⟨dd, .binOp .neq 56 p q T', ty, pos, af, g⟩).run Try.prog W = .ok (.value (.bool (!eqTShare a b))) W :=
  run_neqG (m := 9998 + 2) rfl (by kernel_rfl) (eqr_56 a b 9998 W) hp hq
end Go.Proofs.Ytfdglihcpfpefaa
