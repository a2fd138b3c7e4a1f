/- Types of the data, and closed facts of the program's table of types. -/
import Derived.Test.YtnlhigfglfahiaaProg
import Derived.Test.YtnlhigfglfahiaaJ2
import Derived.Test.YtnlhigfglfahiaaSH
namespace Go.Proofs.Ytnlhigfglfahiaa
open Go.RowKit
set_option maxRecDepth 100000
structure TRect where
  X0 : Int
  Y0 : Int
  X1 : Int
  Y1 : Int
structure TBand where
  Y0 : Int
  Y1 : Int
  Xs : (List Int)
structure TSpan where
  from_ : Int
  to_ : Int
structure Tetchhouseref1Band where
  from_ : Int
  to_ : Int
  spans : (List TSpan)
structure TPoint where
  X : Int
  Y : Int
def fl_TRect : Fl TRect := Fl.flat 4 (fun x => [(.int .i64 x.X0), (.int .i64 x.Y0), (.int .i64 x.X1), (.int .i64 x.Y1)]) (fun _ => rfl) (fun _ u h => by
  simp at h
  rcases h with rfl | rfl | rfl | rfl <;> rfl)
theorem ef_TRect : ∀ u x, fl_TRect.enc u x = [(.int .i64 x.X0), (.int .i64 x.Y0), (.int .i64 x.X1), (.int .i64 x.Y1)] := fun _ _ => rfl
theorem tr_TRect : fl_TRect.Tri := fun _ _ _ _ => trivial
def fl_i64 : Fl Int := Fl.flat 1 (fun x => [(.int .i64 x)]) (fun _ => rfl) (fun _ u h => by
  simp at h
  subst h; rfl)
theorem ef_i64 : ∀ u x, fl_i64.enc u x = [(.int .i64 x)] := fun _ _ => rfl
theorem tr_i64 : fl_i64.Tri := fun _ _ _ _ => trivial
def fl_TBand : Fl TBand where
  Ad := (Option Addr × Nat)
  sz := 3
  enc u x := [(.int .i64 x.Y0), (.int .i64 x.Y1), (.slice u.1 (x.Xs).length u.2)]
  ok S W u x := Sl S W fl_i64 u.1 u.2 x.Xs
  len _ _ := rfl
  one _ _ v h := by
    simp at h
    rcases h with rfl | rfl | rfl <;> rfl
  loc h hs hb := h.go hs hb
def fl_LTBand : Fl (List TBand) where
  Ad := (Option Addr × Nat)
  sz := 1
  enc u x := [(.slice u.1 (x).length u.2)]
  ok S W u x := Sl S W fl_TBand u.1 u.2 x
  len _ _ := rfl
  one _ _ v h := by
    simp at h
    subst h; rfl
  loc h hs hb := h.go hs hb
def fl_LTRect : Fl (List TRect) where
  Ad := (Option Addr × Nat)
  sz := 1
  enc u x := [(.slice u.1 (x).length u.2)]
  ok S W u x := Sl S W fl_TRect u.1 u.2 x
  len _ _ := rfl
  one _ _ v h := by
    simp at h
    subst h; rfl
  loc h hs hb := h.go hs hb
def fl_TSpan : Fl TSpan := Fl.flat 2 (fun x => [(.int .i64 x.from_), (.int .i64 x.to_)]) (fun _ => rfl) (fun _ u h => by
  simp at h
  rcases h with rfl | rfl <;> rfl)
theorem ef_TSpan : ∀ u x, fl_TSpan.enc u x = [(.int .i64 x.from_), (.int .i64 x.to_)] := fun _ _ => rfl
theorem tr_TSpan : fl_TSpan.Tri := fun _ _ _ _ => trivial
def fl_Tetchhouseref1Band : Fl Tetchhouseref1Band where
  Ad := (Option Addr × Nat)
  sz := 3
  enc u x := [(.int .i64 x.from_), (.int .i64 x.to_), (.slice u.1 (x.spans).length u.2)]
  ok S W u x := Sl S W fl_TSpan u.1 u.2 x.spans
  len _ _ := rfl
  one _ _ v h := by
    simp at h
    rcases h with rfl | rfl | rfl <;> rfl
  loc h hs hb := h.go hs hb
def fl_bool : Fl Bool := Fl.flat 1 (fun x => [(.bool x)]) (fun _ => rfl) (fun _ u h => by
  simp at h
  subst h; rfl)
theorem ef_bool : ∀ u x, fl_bool.enc u x = [(.bool x)] := fun _ _ => rfl
theorem tr_bool : fl_bool.Tri := fun _ _ _ _ => trivial
theorem ag_104 : aggOf Try.prog 104 = some true := by kernel_rfl
theorem ag_146 : aggOf Try.prog 146 = some false := by kernel_rfl
theorem ag_149 : aggOf Try.prog 149 = some true := by kernel_rfl
theorem ag_177 : aggOf Try.prog 177 = some true := by kernel_rfl
theorem ag_22 : aggOf Try.prog 22 = some false := by kernel_rfl
theorem ag_29 : aggOf Try.prog 29 = some true := by kernel_rfl
theorem ag_3 : aggOf Try.prog 3 = some false := by kernel_rfl
theorem ag_32 : aggOf Try.prog 32 = some true := by kernel_rfl
theorem ag_4 : aggOf Try.prog 4 = some false := by kernel_rfl
theorem ag_65 : aggOf Try.prog 65 = some false := by kernel_rfl
theorem ag_97 : aggOf Try.prog 97 = some false := by kernel_rfl
theorem sz_104 : szOf Try.prog 104 = some 3 := by kernel_rfl
theorem sz_149 : szOf Try.prog 149 = some 3 := by kernel_rfl
theorem sz_177 : szOf Try.prog 177 = some 2 := by kernel_rfl
theorem sz_22 : szOf Try.prog 22 = some 1 := by kernel_rfl
theorem sz_29 : szOf Try.prog 29 = some 4 := by kernel_rfl
theorem sz_3 : szOf Try.prog 3 = some 1 := by kernel_rfl
theorem sz_32 : szOf Try.prog 32 = some 2 := by kernel_rfl
theorem sz_4 : szOf Try.prog 4 = some 1 := by kernel_rfl
theorem sz_65 : szOf Try.prog 65 = some 1 := by kernel_rfl
theorem sz_97 : szOf Try.prog 97 = some 1 := by kernel_rfl
theorem ze_104 : zeroOf Try.prog 104 = some [(.int .i64 0), (.int .i64 0), (.slice none 0 0)] := by kernel_rfl
theorem ze_29 : zeroOf Try.prog 29 = some [(.int .i64 0), (.int .i64 0), (.int .i64 0), (.int .i64 0)] := by kernel_rfl
theorem ze_3 : zeroOf Try.prog 3 = some [(.int .i64 0)] := by kernel_rfl
theorem ze_32 : zeroOf Try.prog 32 = some [(.int .i64 0), (.int .i64 0)] := by kernel_rfl
theorem ze_4 : zeroOf Try.prog 4 = some [(.bool false)] := by kernel_rfl
theorem ze_97 : zeroOf Try.prog 97 = some [(.slice none 0 0)] := by kernel_rfl
theorem zl_104 : (zeroOf Try.prog 104).map List.length = some 3 := by kernel_rfl
theorem zl_149 : (zeroOf Try.prog 149).map List.length = some 3 := by kernel_rfl
theorem zl_177 : (zeroOf Try.prog 177).map List.length = some 2 := by kernel_rfl
theorem zl_22 : (zeroOf Try.prog 22).map List.length = some 1 := by kernel_rfl
theorem zl_29 : (zeroOf Try.prog 29).map List.length = some 4 := by kernel_rfl
theorem zl_3 : (zeroOf Try.prog 3).map List.length = some 1 := by kernel_rfl
theorem zl_65 : (zeroOf Try.prog 65).map List.length = some 1 := by kernel_rfl
theorem by_104 : (Try.prog.info? 104).map (·.bytes) = some 40 := by kernel_rfl
theorem by_149 : (Try.prog.info? 149).map (·.bytes) = some 40 := by kernel_rfl
theorem by_177 : (Try.prog.info? 177).map (·.bytes) = some 16 := by kernel_rfl
theorem by_22 : (Try.prog.info? 22).map (·.bytes) = some 24 := by kernel_rfl
theorem by_29 : (Try.prog.info? 29).map (·.bytes) = some 32 := by kernel_rfl
theorem by_3 : (Try.prog.info? 3).map (·.bytes) = some 8 := by kernel_rfl
theorem by_4 : (Try.prog.info? 4).map (·.bytes) = some 1 := by kernel_rfl
theorem by_65 : (Try.prog.info? 65).map (·.bytes) = some 24 := by kernel_rfl
theorem fo_104_0 : fieldOf Try.prog 104 0 = some 0 := by kernel_rfl
theorem fo_104_1 : fieldOf Try.prog 104 1 = some 1 := by kernel_rfl
theorem fo_104_2 : fieldOf Try.prog 104 2 = some 2 := by kernel_rfl
theorem fo_149_0 : fieldOf Try.prog 149 0 = some 0 := by kernel_rfl
theorem fo_149_1 : fieldOf Try.prog 149 1 = some 1 := by kernel_rfl
theorem fo_149_2 : fieldOf Try.prog 149 2 = some 2 := by kernel_rfl
theorem fo_177_0 : fieldOf Try.prog 177 0 = some 0 := by kernel_rfl
theorem fo_177_1 : fieldOf Try.prog 177 1 = some 1 := by kernel_rfl
theorem fo_29_0 : fieldOf Try.prog 29 0 = some 0 := by kernel_rfl
theorem fo_29_1 : fieldOf Try.prog 29 1 = some 1 := by kernel_rfl
theorem fo_29_2 : fieldOf Try.prog 29 2 = some 2 := by kernel_rfl
theorem fo_29_3 : fieldOf Try.prog 29 3 = some 3 := by kernel_rfl
theorem el_113 : elemOf? Try.prog 113 = some (4, 1) := by kernel_rfl
theorem el_144 : elemOf? Try.prog 144 = some (149, 3) := by kernel_rfl
theorem el_146 : elemOf? Try.prog 146 = some (177, 2) := by kernel_rfl
theorem el_22 : elemOf? Try.prog 22 = some (29, 4) := by kernel_rfl
theorem el_40 : elemOf? Try.prog 40 = some (22, 1) := by kernel_rfl
theorem el_65 : elemOf? Try.prog 65 = some (104, 3) := by kernel_rfl
theorem el_75 : elemOf? Try.prog 75 = some (65, 1) := by kernel_rfl
theorem el_97 : elemOf? Try.prog 97 = some (3, 1) := by kernel_rfl
theorem zi_3 : (Try.prog.info? 3).bind (·.zero) = some (.int .i64 0) := by kernel_rfl
theorem un_110 : Try.prog.underlying 110 = some (.map 3 3) := by kernel_rfl
theorem un_113 : Try.prog.underlying 113 = some (.slice 4) := by kernel_rfl
theorem un_144 : Try.prog.underlying 144 = some (.slice 149) := by kernel_rfl
theorem un_146 : Try.prog.underlying 146 = some (.slice 177) := by kernel_rfl
theorem un_22 : Try.prog.underlying 22 = some (.slice 29) := by kernel_rfl
theorem un_3 : Try.prog.underlying 3 = some (.int .i64) := by kernel_rfl
theorem un_4 : Try.prog.underlying 4 = some (.bool) := by kernel_rfl
theorem un_40 : Try.prog.underlying 40 = some (.slice 22) := by kernel_rfl
theorem un_65 : Try.prog.underlying 65 = some (.slice 104) := by kernel_rfl
theorem un_75 : Try.prog.underlying 75 = some (.slice 65) := by kernel_rfl
theorem un_97 : Try.prog.underlying 97 = some (.slice 3) := by kernel_rfl
def eqTRect (a b : TRect) : Bool := (a.X0 == b.X0) && ((a.Y0 == b.Y0) && ((a.X1 == b.X1) && ((a.Y1 == b.Y1) && true)))
theorem eqTRect_iff {a b : TRect} : eqTRect a b = true ↔ a = b := by
  cases a; cases b; simp [eqTRect, sEq_iff]
theorem eqr_29 (a b : TRect) (d : Nat) (W : World) : (Op.equalIn (d + 2) 29 (.agg #[(.int .i64 a.X0), (.int .i64 a.Y0), (.int .i64 a.X1), (.int .i64 a.Y1)]) (.agg #[(.int .i64 b.X0), (.int .i64 b.Y0), (.int .i64 b.X1), (.int .i64 b.Y1)])).run Try.prog W = .ok (eqTRect a b) W := by
  rw [show d + 2 = (d + 1) + 1 from rfl, run_equalIn_struct W _ 29 _ _ (by kernel_rfl) (by kernel_rfl)]
  simp only [Program.fieldsOf, Try.underlying29]
  exact eqF_cons rfl (part1 ag_3 rfl) (part1 ag_3 rfl) (eq_int Try.underlying3) (eqF_cons rfl (part1 ag_3 rfl) (part1 ag_3 rfl) (eq_int Try.underlying3) (eqF_cons rfl (part1 ag_3 rfl) (part1 ag_3 rfl) (eq_int Try.underlying3) (eqF_cons rfl (part1 ag_3 rfl) (part1 ag_3 rfl) (eq_int Try.underlying3) (eqF_nil))))
theorem run_eql_29 {ρ : Operand → Value} {W : World} {dd : Option Tmp} {ty T' : TypeId} {pos : String} {af : Array Edge} {g : Option (Nat × Bool)} {p q : Operand} (a b : TRect) (hp : ρ p = .agg #[(.int .i64 a.X0), (.int .i64 a.Y0), (.int .i64 a.X1), (.int .i64 a.Y1)]) (hq : ρ q = .agg #[(.int .i64 b.X0), (.int .i64 b.Y0), (.int .i64 b.X1), (.int .i64 b.Y1)]) : (execOp ρ ⟨dd, .binOp .eql 29 p q T', ty, pos, af, g⟩).run Try.prog W = .ok (.value (.bool (eqTRect a b))) W :=
  run_eqlG (m := 9998 + 2) rfl (by kernel_rfl) (eqr_29 a b 9998 W) hp hq
theorem run_neq_29 {ρ : Operand → Value} {W : World} {dd : Option Tmp} {ty T' : TypeId} {pos : String} {af : Array Edge} {g : Option (Nat × Bool)} {p q : Operand} (a b : TRect) (hp : ρ p = .agg #[(.int .i64 a.X0), (.int .i64 a.Y0), (.int .i64 a.X1), (.int .i64 a.Y1)]) (hq : ρ q = .agg #[(.int .i64 b.X0), (.int .i64 b.Y0), (.int .i64 b.X1), (.int .i64 b.Y1)]) : (execOp ρ ⟨dd, .binOp .neq 29 p q T', ty, pos, af, g⟩).run Try.prog W = .ok (.value (.bool (!eqTRect a b))) W :=
  run_neqG (m := 9998 + 2) rfl (by kernel_rfl) (eqr_29 a b 9998 W) hp hq
def eqTPoint (a b : TPoint) : Bool := (a.X == b.X) && ((a.Y == b.Y) && true)
theorem eqTPoint_iff {a b : TPoint} : eqTPoint a b = true ↔ a = b := by
  cases a; cases b; simp [eqTPoint, sEq_iff]
theorem eqr_32 (a b : TPoint) (d : Nat) (W : World) : (Op.equalIn (d + 2) 32 (.agg #[(.int .i64 a.X), (.int .i64 a.Y)]) (.agg #[(.int .i64 b.X), (.int .i64 b.Y)])).run Try.prog W = .ok (eqTPoint a b) W := by
  rw [show d + 2 = (d + 1) + 1 from rfl, run_equalIn_struct W _ 32 _ _ (by kernel_rfl) (by kernel_rfl)]
  simp only [Program.fieldsOf, Try.underlying32]
  exact eqF_cons rfl (part1 ag_3 rfl) (part1 ag_3 rfl) (eq_int Try.underlying3) (eqF_cons rfl (part1 ag_3 rfl) (part1 ag_3 rfl) (eq_int Try.underlying3) (eqF_nil))
theorem run_eql_32 {ρ : Operand → Value} {W : World} {dd : Option Tmp} {ty T' : TypeId} {pos : String} {af : Array Edge} {g : Option (Nat × Bool)} {p q : Operand} (a b : TPoint) (hp : ρ p = .agg #[(.int .i64 a.X), (.int .i64 a.Y)]) (hq : ρ q = .agg #[(.int .i64 b.X), (.int .i64 b.Y)]) : (execOp ρ ⟨dd, .binOp .eql 32 p q T', ty, pos, af, g⟩).run Try.prog W = .ok (.value (.bool (eqTPoint a b))) W :=
  run_eqlG (m := 9998 + 2) rfl (by kernel_rfl) (eqr_32 a b 9998 W) hp hq
theorem run_neq_32 {ρ : Operand → Value} {W : World} {dd : Option Tmp} {ty T' : TypeId} {pos : String} {af : Array Edge} {g : Option (Nat × Bool)} {p q : Operand} (a b : TPoint) (hp : ρ p = .agg #[(.int .i64 a.X), (.int .i64 a.Y)]) (hq : ρ q = .agg #[(.int .i64 b.X), (.int .i64 b.Y)]) : (execOp ρ ⟨dd, .binOp .neq 32 p q T', ty, pos, af, g⟩).run Try.prog W = .ok (.value (.bool (!eqTPoint a b))) W :=
  run_neqG (m := 9998 + 2) rfl (by kernel_rfl) (eqr_32 a b 9998 W) hp hq
def eqTSpan (a b : TSpan) : Bool := (a.from_ == b.from_) && ((a.to_ == b.to_) && true)
theorem eqTSpan_iff {a b : TSpan} : eqTSpan a b = true ↔ a = b := by
  cases a; cases b; simp [eqTSpan, sEq_iff]
theorem eqr_177 (a b : TSpan) (d : Nat) (W : World) : (Op.equalIn (d + 2) 177 (.agg #[(.int .i64 a.from_), (.int .i64 a.to_)]) (.agg #[(.int .i64 b.from_), (.int .i64 b.to_)])).run Try.prog W = .ok (eqTSpan a b) W := by
  rw [show d + 2 = (d + 1) + 1 from rfl, run_equalIn_struct W _ 177 _ _ (by kernel_rfl) (by kernel_rfl)]
  simp only [Program.fieldsOf, Try.underlying177]
  exact eqF_cons rfl (part1 ag_3 rfl) (part1 ag_3 rfl) (eq_int Try.underlying3) (eqF_cons rfl (part1 ag_3 rfl) (part1 ag_3 rfl) (eq_int Try.underlying3) (eqF_nil))
theorem run_eql_177 {ρ : Operand → Value} {W : World} {dd : Option Tmp} {ty T' : TypeId} {pos : String} {af : Array Edge} {g : Option (Nat × Bool)} {p q : Operand} (a b : TSpan) (hp : ρ p = .agg #[(.int .i64 a.from_), (.int .i64 a.to_)]) (hq : ρ q = .agg #[(.int .i64 b.from_), (.int .i64 b.to_)]) : (execOp ρ ⟨dd, .binOp .eql 177 p q T', ty, pos, af, g⟩).run Try.prog W = .ok (.value (.bool (eqTSpan a b))) W :=
  run_eqlG (m := 9998 + 2) rfl (by kernel_rfl) (eqr_177 a b 9998 W) hp hq
theorem run_neq_177 {ρ : Operand → Value} {W : World} {dd : Option Tmp} {ty T' : TypeId} {pos : String} {af : Array Edge} {g : Option (Nat × Bool)} {p q : Operand} (a b : TSpan) (hp : ρ p = .agg #[(.int .i64 a.from_), (.int .i64 a.to_)]) (hq : ρ q = .agg #[(.int .i64 b.from_), (.int .i64 b.to_)]) : (execOp ρ ⟨dd, .binOp .neq 177 p q T', ty, pos, af, g⟩).run Try.prog W = .ok (.value (.bool (!eqTSpan a b))) W :=
  run_neqG (m := 9998 + 2) rfl (by kernel_rfl) (eqr_177 a b 9998 W) hp hq
end Go.Proofs.Ytnlhigfglfahiaa
