/- Types of the data, and closed facts of the program's table of types. -/
import Derived.Test.YtnlhigfglfahiaaGreatProg
import Derived.Test.YtnlhigfglfahiaaGreatH13
import Derived.Test.YtnlhigfglfahiaaGreatH14
import Derived.Test.YtnlhigfglfahiaaGreatH15
import Derived.Test.YtnlhigfglfahiaaGreatH16
import Derived.Test.YtnlhigfglfahiaaGreatH18
import Derived.Test.YtnlhigfglfahiaaGreatSH
namespace Go.Proofs.YtnlhigfglfahiaaGreat
open Go.RowKit
set_option maxRecDepth 100000
structure TBand where
  Y0 : Int
  Y1 : Int
  Xs : (List Int)
structure TRect where
  X0 : Int
  Y0 : Int
  X1 : Int
  Y1 : Int
structure TSpan where
  from_ : Int
  to_ : Int
structure Tetchhouseref1Band where
  from_ : Int
  to_ : Int
  spans : (List TSpan)
def fl_i64 : Fl Int := Fl.flat 1 (fun x => [(.int .i64 x)]) (fun _ => rfl) (fun _ u h => by
  simp at h
  subst h; rfl)
theorem ef_i64 : ∀ u x, fl_i64.enc u x = [(.int .i64 x)] := fun _ _ => rfl
theorem tr_i64 : fl_i64.Tri := fun _ _ _ _ => trivial
def fl_TBand : Fl TBand where
  Ad := (Option Addr × Nat)
  sz := 3
  enc u x := [(.int .i64 x.Y0), (.int .i64 x.Y1), (.slice u.1 (x.Xs).length u.2)]
  ok S W u x := Sl S W fl_i64 u.1 u.2 x.Xs
  len _ _ := rfl
  one _ _ v h := by
    simp at h
    rcases h with rfl | rfl | rfl <;> rfl
  loc h hs hb := h.go hs hb
def fl_TRect : Fl TRect := Fl.flat 4 (fun x => [(.int .i64 x.X0), (.int .i64 x.Y0), (.int .i64 x.X1), (.int .i64 x.Y1)]) (fun _ => rfl) (fun _ u h => by
  simp at h
  rcases h with rfl | rfl | rfl | rfl <;> rfl)
theorem ef_TRect : ∀ u x, fl_TRect.enc u x = [(.int .i64 x.X0), (.int .i64 x.Y0), (.int .i64 x.X1), (.int .i64 x.Y1)] := fun _ _ => rfl
theorem tr_TRect : fl_TRect.Tri := fun _ _ _ _ => trivial
def fl_func : Fl Nat := Fl.flat 1 (fun x => [(.func (.func x) #[] #[])]) (fun _ => rfl) (fun _ u h => by
  simp at h
  subst h; rfl)
theorem ef_func : ∀ u x, fl_func.enc u x = [(.func (.func x) #[] #[])] := fun _ _ => rfl
theorem tr_func : fl_func.Tri := fun _ _ _ _ => trivial
def fl_LTBand : Fl (List TBand) where
  Ad := (Option Addr × Nat)
  sz := 1
  enc u x := [(.slice u.1 (x).length u.2)]
  ok S W u x := Sl S W fl_TBand u.1 u.2 x
  len _ _ := rfl
  one _ _ v h := by
    simp at h
    subst h; rfl
  loc h hs hb := h.go hs hb
def fl_TSpan : Fl TSpan := Fl.flat 2 (fun x => [(.int .i64 x.from_), (.int .i64 x.to_)]) (fun _ => rfl) (fun _ u h => by
  simp at h
  rcases h with rfl | rfl <;> rfl)
theorem ef_TSpan : ∀ u x, fl_TSpan.enc u x = [(.int .i64 x.from_), (.int .i64 x.to_)] := fun _ _ => rfl
theorem tr_TSpan : fl_TSpan.Tri := fun _ _ _ _ => trivial
def fl_Tetchhouseref1Band : Fl Tetchhouseref1Band where
  Ad := (Option Addr × Nat)
  sz := 3
  enc u x := [(.int .i64 x.from_), (.int .i64 x.to_), (.slice u.1 (x.spans).length u.2)]
  ok S W u x := Sl S W fl_TSpan u.1 u.2 x.spans
  len _ _ := rfl
  one _ _ v h := by
    simp at h
    rcases h with rfl | rfl | rfl <;> rfl
  loc h hs hb := h.go hs hb
theorem ag_109 : aggOf Tryz.prog 109 = some false := by kernel_rfl
theorem ag_112 : aggOf Tryz.prog 112 = some true := by kernel_rfl
theorem ag_140 : aggOf Tryz.prog 140 = some true := by kernel_rfl
theorem ag_28 : aggOf Tryz.prog 28 = some true := by kernel_rfl
theorem ag_3 : aggOf Tryz.prog 3 = some false := by kernel_rfl
theorem ag_42 : aggOf Tryz.prog 42 = some false := by kernel_rfl
theorem ag_48 : aggOf Tryz.prog 48 = some false := by kernel_rfl
theorem ag_75 : aggOf Tryz.prog 75 = some false := by kernel_rfl
theorem ag_83 : aggOf Tryz.prog 83 = some true := by kernel_rfl
theorem sz_112 : szOf Tryz.prog 112 = some 3 := by kernel_rfl
theorem sz_140 : szOf Tryz.prog 140 = some 2 := by kernel_rfl
theorem sz_28 : szOf Tryz.prog 28 = some 4 := by kernel_rfl
theorem sz_3 : szOf Tryz.prog 3 = some 1 := by kernel_rfl
theorem sz_75 : szOf Tryz.prog 75 = some 1 := by kernel_rfl
theorem sz_83 : szOf Tryz.prog 83 = some 3 := by kernel_rfl
theorem ze_28 : zeroOf Tryz.prog 28 = some [(.int .i64 0), (.int .i64 0), (.int .i64 0), (.int .i64 0)] := by kernel_rfl
theorem ze_3 : zeroOf Tryz.prog 3 = some [(.int .i64 0)] := by kernel_rfl
theorem ze_75 : zeroOf Tryz.prog 75 = some [(.slice none 0 0)] := by kernel_rfl
theorem ze_83 : zeroOf Tryz.prog 83 = some [(.int .i64 0), (.int .i64 0), (.slice none 0 0)] := by kernel_rfl
theorem zl_112 : (zeroOf Tryz.prog 112).map List.length = some 3 := by kernel_rfl
theorem zl_140 : (zeroOf Tryz.prog 140).map List.length = some 2 := by kernel_rfl
theorem zl_28 : (zeroOf Tryz.prog 28).map List.length = some 4 := by kernel_rfl
theorem zl_3 : (zeroOf Tryz.prog 3).map List.length = some 1 := by kernel_rfl
theorem zl_83 : (zeroOf Tryz.prog 83).map List.length = some 3 := by kernel_rfl
theorem by_112 : (Tryz.prog.info? 112).map (·.bytes) = some 40 := by kernel_rfl
theorem by_140 : (Tryz.prog.info? 140).map (·.bytes) = some 16 := by kernel_rfl
theorem by_28 : (Tryz.prog.info? 28).map (·.bytes) = some 32 := by kernel_rfl
theorem by_3 : (Tryz.prog.info? 3).map (·.bytes) = some 8 := by kernel_rfl
theorem by_83 : (Tryz.prog.info? 83).map (·.bytes) = some 40 := by kernel_rfl
theorem fo_112_0 : fieldOf Tryz.prog 112 0 = some 0 := by kernel_rfl
theorem fo_112_1 : fieldOf Tryz.prog 112 1 = some 1 := by kernel_rfl
theorem fo_112_2 : fieldOf Tryz.prog 112 2 = some 2 := by kernel_rfl
theorem fo_140_0 : fieldOf Tryz.prog 140 0 = some 0 := by kernel_rfl
theorem fo_140_1 : fieldOf Tryz.prog 140 1 = some 1 := by kernel_rfl
theorem fo_28_0 : fieldOf Tryz.prog 28 0 = some 0 := by kernel_rfl
theorem fo_28_1 : fieldOf Tryz.prog 28 1 = some 1 := by kernel_rfl
theorem fo_28_2 : fieldOf Tryz.prog 28 2 = some 2 := by kernel_rfl
theorem fo_28_3 : fieldOf Tryz.prog 28 3 = some 3 := by kernel_rfl
theorem fo_83_0 : fieldOf Tryz.prog 83 0 = some 0 := by kernel_rfl
theorem fo_83_1 : fieldOf Tryz.prog 83 1 = some 1 := by kernel_rfl
theorem fo_83_2 : fieldOf Tryz.prog 83 2 = some 2 := by kernel_rfl
theorem el_107 : elemOf? Tryz.prog 107 = some (112, 3) := by kernel_rfl
theorem el_109 : elemOf? Tryz.prog 109 = some (140, 2) := by kernel_rfl
theorem el_177 : elemOf? Tryz.prog 177 = some (48, 1) := by kernel_rfl
theorem el_22 : elemOf? Tryz.prog 22 = some (28, 4) := by kernel_rfl
theorem el_48 : elemOf? Tryz.prog 48 = some (83, 3) := by kernel_rfl
theorem el_60 : elemOf? Tryz.prog 60 = some (42, 1) := by kernel_rfl
theorem el_75 : elemOf? Tryz.prog 75 = some (3, 1) := by kernel_rfl
theorem un_107 : Tryz.prog.underlying 107 = some (.slice 112) := by kernel_rfl
theorem un_109 : Tryz.prog.underlying 109 = some (.slice 140) := by kernel_rfl
theorem un_177 : Tryz.prog.underlying 177 = some (.slice 48) := by kernel_rfl
theorem un_22 : Tryz.prog.underlying 22 = some (.slice 28) := by kernel_rfl
theorem un_4 : Tryz.prog.underlying 4 = some (.bool) := by kernel_rfl
theorem un_48 : Tryz.prog.underlying 48 = some (.slice 83) := by kernel_rfl
theorem un_60 : Tryz.prog.underlying 60 = some (.slice 42) := by kernel_rfl
theorem un_75 : Tryz.prog.underlying 75 = some (.slice 3) := by kernel_rfl
def eqTRect (a b : TRect) : Bool := (a.X0 == b.X0) && ((a.Y0 == b.Y0) && ((a.X1 == b.X1) && ((a.Y1 == b.Y1) && true)))
theorem eqTRect_iff {a b : TRect} : eqTRect a b = true ↔ a = b := by
  cases a; cases b; simp [eqTRect, sEq_iff]
theorem eqr_28 (a b : TRect) (d : Nat) (W : World) : (Op.equalIn (d + 2) 28 (.agg #[(.int .i64 a.X0), (.int .i64 a.Y0), (.int .i64 a.X1), (.int .i64 a.Y1)]) (.agg #[(.int .i64 b.X0), (.int .i64 b.Y0), (.int .i64 b.X1), (.int .i64 b.Y1)])).run Tryz.prog W = .ok (eqTRect a b) W := by
  rw [show d + 2 = (d + 1) + 1 from rfl, run_equalIn_struct W _ 28 _ _ (by kernel_rfl) (by kernel_rfl)]
  simp only [Program.fieldsOf, Tryz.underlying28]
  exact eqF_cons rfl (part1 ag_3 rfl) (part1 ag_3 rfl) (eq_int Tryz.underlying3) (eqF_cons rfl (part1 ag_3 rfl) (part1 ag_3 rfl) (eq_int Tryz.underlying3) (eqF_cons rfl (part1 ag_3 rfl) (part1 ag_3 rfl) (eq_int Tryz.underlying3) (eqF_cons rfl (part1 ag_3 rfl) (part1 ag_3 rfl) (eq_int Tryz.underlying3) (eqF_nil))))
theorem run_eql_28 {ρ : Operand → Value} {W : World} {dd : Option Tmp} {ty T' : TypeId} {pos : String} {af : Array Edge} {g : Option (Nat × Bool)} {p q : Operand} (a b : TRect) (hp : ρ p = .agg #[(.int .i64 a.X0), (.int .i64 a.Y0), (.int .i64 a.X1), (.int .i64 a.Y1)]) (hq : ρ q = .agg #[(.int .i64 b.X0), (.int .i64 b.Y0), (.int .i64 b.X1), (.int .i64 b.Y1)]) : (execOp ρ ⟨dd, .binOp .eql 28 p q T', ty, pos, af, g⟩).run Tryz.prog W = .ok (.value (.bool (eqTRect a b))) W :=
  run_eqlG (m := 9998 + 2) rfl (by kernel_rfl) (eqr_28 a b 9998 W) hp hq
theorem run_neq_28 {ρ : Operand → Value} {W : World} {dd : Option Tmp} {ty T' : TypeId} {pos : String} {af : Array Edge} {g : Option (Nat × Bool)} {p q : Operand} (a b : TRect) (hp : ρ p = .agg #[(.int .i64 a.X0), (.int .i64 a.Y0), (.int .i64 a.X1), (.int .i64 a.Y1)]) (hq : ρ q = .agg #[(.int .i64 b.X0), (.int .i64 b.Y0), (.int .i64 b.X1), (.int .i64 b.Y1)]) : (execOp ρ ⟨dd, .binOp .neq 28 p q T', ty, pos, af, g⟩).run Tryz.prog W = .ok (.value (.bool (!eqTRect a b))) W :=
  run_neqG (m := 9998 + 2) rfl (by kernel_rfl) (eqr_28 a b 9998 W) hp hq
def eqTSpan (a b : TSpan) : Bool := (a.from_ == b.from_) && ((a.to_ == b.to_) && true)
theorem eqTSpan_iff {a b : TSpan} : eqTSpan a b = true ↔ a = b := by
  cases a; cases b; simp [eqTSpan, sEq_iff]
theorem eqr_140 (a b : TSpan) (d : Nat) (W : World) : (Op.equalIn (d + 2) 140 (.agg #[(.int .i64 a.from_), (.int .i64 a.to_)]) (.agg #[(.int .i64 b.from_), (.int .i64 b.to_)])).run Tryz.prog W = .ok (eqTSpan a b) W := by
  rw [show d + 2 = (d + 1) + 1 from rfl, run_equalIn_struct W _ 140 _ _ (by kernel_rfl) (by kernel_rfl)]
  simp only [Program.fieldsOf, Tryz.underlying140]
  exact eqF_cons rfl (part1 ag_3 rfl) (part1 ag_3 rfl) (eq_int Tryz.underlying3) (eqF_cons rfl (part1 ag_3 rfl) (part1 ag_3 rfl) (eq_int Tryz.underlying3) (eqF_nil))
theorem run_eql_140 {ρ : Operand → Value} {W : World} {dd : Option Tmp} {ty T' : TypeId} {pos : String} {af : Array Edge} {g : Option (Nat × Bool)} {p q : Operand} (a b : TSpan) (hp : ρ p = .agg #[(.int .i64 a.from_), (.int .i64 a.to_)]) (hq : ρ q = .agg #[(.int .i64 b.from_), (.int .i64 b.to_)]) : (execOp ρ ⟨dd, .binOp .eql 140 p q T', ty, pos, af, g⟩).run Tryz.prog W = .ok (.value (.bool (eqTSpan a b))) W :=
  run_eqlG (m := 9998 + 2) rfl (by kernel_rfl) (eqr_140 a b 9998 W) hp hq
theorem run_neq_140 {ρ : Operand → Value} {W : World} {dd : Option Tmp} {ty T' : TypeId} {pos : String} {af : Array Edge} {g : Option (Nat × Bool)} {p q : Operand} (a b : TSpan) (hp : ρ p = .agg #[(.int .i64 a.from_), (.int .i64 a.to_)]) (hq : ρ q = .agg #[(.int .i64 b.from_), (.int .i64 b.to_)]) : (execOp ρ ⟨dd, .binOp .neq 140 p q T', ty, pos, af, g⟩).run Tryz.prog W = .ok (.value (.bool (!eqTSpan a b))) W :=
  run_neqG (m := 9998 + 2) rfl (by kernel_rfl) (eqr_140 a b 9998 W) hp hq
end Go.Proofs.YtnlhigfglfahiaaGreat
