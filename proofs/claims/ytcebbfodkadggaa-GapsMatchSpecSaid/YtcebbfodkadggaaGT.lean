/- Types of the data, and closed facts of the program's table of types. -/
import Derived.Test.YtcebbfodkadggaaProg
import Derived.Test.YtcebbfodkadggaaH13
import Derived.Test.YtcebbfodkadggaaH14
import Derived.Test.YtcebbfodkadggaaH15
import Derived.Test.YtcebbfodkadggaaH16
import Derived.Test.YtcebbfodkadggaaH17
import Derived.Test.YtcebbfodkadggaaSH
namespace Go.Proofs.Ytcebbfodkadggaa
open Go.RowKit
set_option maxRecDepth 100000
structure TRect where
  X0 : Int
  Y0 : Int
  X1 : Int
  Y1 : Int
structure TBand where
  Y0 : Int
  Y1 : Int
  Xs : (List Int)
structure TPoint where
  X : Int
  Y : Int
structure TGap where
  A : Int
  B : Int
  Distance : Int
  From : TPoint
  To : TPoint
structure TSpan where
  from_ : Int
  to_ : Int
structure Tetchhouseref1Band where
  from_ : Int
  to_ : Int
  spans : (List TSpan)
def fl_TRect : Fl TRect := Fl.flat 4 (fun x => [(.int .i64 x.X0), (.int .i64 x.Y0), (.int .i64 x.X1), (.int .i64 x.Y1)]) (fun _ => rfl) (fun _ u h => by
  simp at h
  rcases h with rfl | rfl | rfl | rfl <;> rfl)
theorem ef_TRect : ∀ u x, fl_TRect.enc u x = [(.int .i64 x.X0), (.int .i64 x.Y0), (.int .i64 x.X1), (.int .i64 x.Y1)] := fun _ _ => rfl
theorem tr_TRect : fl_TRect.Tri := fun _ _ _ _ => trivial
def fl_i64 : Fl Int := Fl.flat 1 (fun x => [(.int .i64 x)]) (fun _ => rfl) (fun _ u h => by
  simp at h
  subst h; rfl)
theorem ef_i64 : ∀ u x, fl_i64.enc u x = [(.int .i64 x)] := fun _ _ => rfl
theorem tr_i64 : fl_i64.Tri := fun _ _ _ _ => trivial
def fl_TBand : Fl TBand where
  Ad := (Option Addr × Nat)
  sz := 3
  enc u x := [(.int .i64 x.Y0), (.int .i64 x.Y1), (.slice u.1 (x.Xs).length u.2)]
  ok S W u x := Sl S W fl_i64 u.1 u.2 x.Xs
  len _ _ := rfl
  one _ _ v h := by
    simp at h
    rcases h with rfl | rfl | rfl <;> rfl
  loc h hs hb := h.go hs hb
def fl_LTRect : Fl (List TRect) where
  Ad := (Option Addr × Nat)
  sz := 1
  enc u x := [(.slice u.1 (x).length u.2)]
  ok S W u x := Sl S W fl_TRect u.1 u.2 x
  len _ _ := rfl
  one _ _ v h := by
    simp at h
    subst h; rfl
  loc h hs hb := h.go hs hb
def fl_TGap : Fl TGap := Fl.flat 7 (fun x => [(.int .i64 x.A), (.int .i64 x.B), (.int .i64 x.Distance), (.int .i64 x.From.X), (.int .i64 x.From.Y), (.int .i64 x.To.X), (.int .i64 x.To.Y)]) (fun _ => rfl) (fun _ u h => by
  simp at h
  rcases h with rfl | rfl | rfl | rfl | rfl | rfl | rfl <;> rfl)
theorem ef_TGap : ∀ u x, fl_TGap.enc u x = [(.int .i64 x.A), (.int .i64 x.B), (.int .i64 x.Distance), (.int .i64 x.From.X), (.int .i64 x.From.Y), (.int .i64 x.To.X), (.int .i64 x.To.Y)] := fun _ _ => rfl
theorem tr_TGap : fl_TGap.Tri := fun _ _ _ _ => trivial
def fl_TSpan : Fl TSpan := Fl.flat 2 (fun x => [(.int .i64 x.from_), (.int .i64 x.to_)]) (fun _ => rfl) (fun _ u h => by
  simp at h
  rcases h with rfl | rfl <;> rfl)
theorem ef_TSpan : ∀ u x, fl_TSpan.enc u x = [(.int .i64 x.from_), (.int .i64 x.to_)] := fun _ _ => rfl
theorem tr_TSpan : fl_TSpan.Tri := fun _ _ _ _ => trivial
def fl_Tetchhouseref1Band : Fl Tetchhouseref1Band where
  Ad := (Option Addr × Nat)
  sz := 3
  enc u x := [(.int .i64 x.from_), (.int .i64 x.to_), (.slice u.1 (x.spans).length u.2)]
  ok S W u x := Sl S W fl_TSpan u.1 u.2 x.spans
  len _ _ := rfl
  one _ _ v h := by
    simp at h
    rcases h with rfl | rfl | rfl <;> rfl
  loc h hs hb := h.go hs hb
theorem ag_100 : aggOf Try.prog 100 = some false := by kernel_rfl
theorem ag_103 : aggOf Try.prog 103 = some true := by kernel_rfl
theorem ag_124 : aggOf Try.prog 124 = some true := by kernel_rfl
theorem ag_22 : aggOf Try.prog 22 = some false := by kernel_rfl
theorem ag_29 : aggOf Try.prog 29 = some true := by kernel_rfl
theorem ag_3 : aggOf Try.prog 3 = some false := by kernel_rfl
theorem ag_35 : aggOf Try.prog 35 = some true := by kernel_rfl
theorem ag_58 : aggOf Try.prog 58 = some true := by kernel_rfl
theorem ag_89 : aggOf Try.prog 89 = some false := by kernel_rfl
theorem ag_96 : aggOf Try.prog 96 = some true := by kernel_rfl
theorem sz_103 : szOf Try.prog 103 = some 3 := by kernel_rfl
theorem sz_124 : szOf Try.prog 124 = some 2 := by kernel_rfl
theorem sz_29 : szOf Try.prog 29 = some 4 := by kernel_rfl
theorem sz_3 : szOf Try.prog 3 = some 1 := by kernel_rfl
theorem sz_35 : szOf Try.prog 35 = some 2 := by kernel_rfl
theorem sz_58 : szOf Try.prog 58 = some 7 := by kernel_rfl
theorem sz_89 : szOf Try.prog 89 = some 1 := by kernel_rfl
theorem sz_96 : szOf Try.prog 96 = some 3 := by kernel_rfl
theorem ze_29 : zeroOf Try.prog 29 = some [(.int .i64 0), (.int .i64 0), (.int .i64 0), (.int .i64 0)] := by kernel_rfl
theorem ze_3 : zeroOf Try.prog 3 = some [(.int .i64 0)] := by kernel_rfl
theorem ze_35 : zeroOf Try.prog 35 = some [(.int .i64 0), (.int .i64 0)] := by kernel_rfl
theorem ze_58 : zeroOf Try.prog 58 = some [(.int .i64 0), (.int .i64 0), (.int .i64 0), (.int .i64 0), (.int .i64 0), (.int .i64 0), (.int .i64 0)] := by kernel_rfl
theorem ze_89 : zeroOf Try.prog 89 = some [(.slice none 0 0)] := by kernel_rfl
theorem ze_96 : zeroOf Try.prog 96 = some [(.int .i64 0), (.int .i64 0), (.slice none 0 0)] := by kernel_rfl
theorem zl_103 : (zeroOf Try.prog 103).map List.length = some 3 := by kernel_rfl
theorem zl_124 : (zeroOf Try.prog 124).map List.length = some 2 := by kernel_rfl
theorem zl_29 : (zeroOf Try.prog 29).map List.length = some 4 := by kernel_rfl
theorem zl_3 : (zeroOf Try.prog 3).map List.length = some 1 := by kernel_rfl
theorem zl_58 : (zeroOf Try.prog 58).map List.length = some 7 := by kernel_rfl
theorem zl_96 : (zeroOf Try.prog 96).map List.length = some 3 := by kernel_rfl
theorem by_103 : (Try.prog.info? 103).map (·.bytes) = some 40 := by kernel_rfl
theorem by_124 : (Try.prog.info? 124).map (·.bytes) = some 16 := by kernel_rfl
theorem by_29 : (Try.prog.info? 29).map (·.bytes) = some 32 := by kernel_rfl
theorem by_3 : (Try.prog.info? 3).map (·.bytes) = some 8 := by kernel_rfl
theorem by_58 : (Try.prog.info? 58).map (·.bytes) = some 56 := by kernel_rfl
theorem by_96 : (Try.prog.info? 96).map (·.bytes) = some 40 := by kernel_rfl
theorem fo_103_0 : fieldOf Try.prog 103 0 = some 0 := by kernel_rfl
theorem fo_103_1 : fieldOf Try.prog 103 1 = some 1 := by kernel_rfl
theorem fo_103_2 : fieldOf Try.prog 103 2 = some 2 := by kernel_rfl
theorem fo_124_0 : fieldOf Try.prog 124 0 = some 0 := by kernel_rfl
theorem fo_124_1 : fieldOf Try.prog 124 1 = some 1 := by kernel_rfl
theorem fo_29_0 : fieldOf Try.prog 29 0 = some 0 := by kernel_rfl
theorem fo_29_1 : fieldOf Try.prog 29 1 = some 1 := by kernel_rfl
theorem fo_29_2 : fieldOf Try.prog 29 2 = some 2 := by kernel_rfl
theorem fo_29_3 : fieldOf Try.prog 29 3 = some 3 := by kernel_rfl
theorem fo_35_0 : fieldOf Try.prog 35 0 = some 0 := by kernel_rfl
theorem fo_35_1 : fieldOf Try.prog 35 1 = some 1 := by kernel_rfl
theorem fo_58_0 : fieldOf Try.prog 58 0 = some 0 := by kernel_rfl
theorem fo_58_1 : fieldOf Try.prog 58 1 = some 1 := by kernel_rfl
theorem fo_58_2 : fieldOf Try.prog 58 2 = some 2 := by kernel_rfl
theorem fo_58_3 : fieldOf Try.prog 58 3 = some 3 := by kernel_rfl
theorem fo_58_4 : fieldOf Try.prog 58 4 = some 5 := by kernel_rfl
theorem fo_96_0 : fieldOf Try.prog 96 0 = some 0 := by kernel_rfl
theorem fo_96_1 : fieldOf Try.prog 96 1 = some 1 := by kernel_rfl
theorem fo_96_2 : fieldOf Try.prog 96 2 = some 2 := by kernel_rfl
theorem el_100 : elemOf? Try.prog 100 = some (124, 2) := by kernel_rfl
theorem el_22 : elemOf? Try.prog 22 = some (29, 4) := by kernel_rfl
theorem el_52 : elemOf? Try.prog 52 = some (22, 1) := by kernel_rfl
theorem el_53 : elemOf? Try.prog 53 = some (58, 7) := by kernel_rfl
theorem el_66 : elemOf? Try.prog 66 = some (96, 3) := by kernel_rfl
theorem el_89 : elemOf? Try.prog 89 = some (3, 1) := by kernel_rfl
theorem el_98 : elemOf? Try.prog 98 = some (103, 3) := by kernel_rfl
theorem un_100 : Try.prog.underlying 100 = some (.slice 124) := by kernel_rfl
theorem un_22 : Try.prog.underlying 22 = some (.slice 29) := by kernel_rfl
theorem un_52 : Try.prog.underlying 52 = some (.slice 22) := by kernel_rfl
theorem un_53 : Try.prog.underlying 53 = some (.slice 58) := by kernel_rfl
theorem un_66 : Try.prog.underlying 66 = some (.slice 96) := by kernel_rfl
theorem un_89 : Try.prog.underlying 89 = some (.slice 3) := by kernel_rfl
theorem un_98 : Try.prog.underlying 98 = some (.slice 103) := by kernel_rfl
def eqTRect (a b : TRect) : Bool := (a.X0 == b.X0) && ((a.Y0 == b.Y0) && ((a.X1 == b.X1) && ((a.Y1 == b.Y1) && true)))
theorem eqTRect_iff {a b : TRect} : eqTRect a b = true ↔ a = b := by
  cases a; cases b; simp [eqTRect, sEq_iff]
theorem eqr_29 (a b : TRect) (d : Nat) (W : World) : (Op.equalIn (d + 2) 29 (.agg #[(.int .i64 a.X0), (.int .i64 a.Y0), (.int .i64 a.X1), (.int .i64 a.Y1)]) (.agg #[(.int .i64 b.X0), (.int .i64 b.Y0), (.int .i64 b.X1), (.int .i64 b.Y1)])).run Try.prog W = .ok (eqTRect a b) W := by
  rw [show d + 2 = (d + 1) + 1 from rfl, run_equalIn_struct W _ 29 _ _ (by kernel_rfl) (by kernel_rfl)]
  simp only [Program.fieldsOf, Try.underlying29]
  exact eqF_cons rfl (part1 ag_3 rfl) (part1 ag_3 rfl) (eq_int Try.underlying3) (eqF_cons rfl (part1 ag_3 rfl) (part1 ag_3 rfl) (eq_int Try.underlying3) (eqF_cons rfl (part1 ag_3 rfl) (part1 ag_3 rfl) (eq_int Try.underlying3) (eqF_cons rfl (part1 ag_3 rfl) (part1 ag_3 rfl) (eq_int Try.underlying3) (eqF_nil))))
theorem run_eql_29 {ρ : Operand → Value} {W : World} {dd : Option Tmp} {ty T' : TypeId} {pos : String} {af : Array Edge} {g : Option (Nat × Bool)} {p q : Operand} (a b : TRect) (hp : ρ p = .agg #[(.int .i64 a.X0), (.int .i64 a.Y0), (.int .i64 a.X1), (.int .i64 a.Y1)]) (hq : ρ q = .agg #[(.int .i64 b.X0), (.int .i64 b.Y0), (.int .i64 b.X1), (.int .i64 b.Y1)]) : (execOp ρ ⟨dd, .binOp .eql 29 p q T', ty, pos, af, g⟩).run Try.prog W = .ok (.value (.bool (eqTRect a b))) W :=
  run_eqlG (m := 9998 + 2) rfl (by kernel_rfl) (eqr_29 a b 9998 W) hp hq
theorem run_neq_29 {ρ : Operand → Value} {W : World} {dd : Option Tmp} {ty T' : TypeId} {pos : String} {af : Array Edge} {g : Option (Nat × Bool)} {p q : Operand} (a b : TRect) (hp : ρ p = .agg #[(.int .i64 a.X0), (.int .i64 a.Y0), (.int .i64 a.X1), (.int .i64 a.Y1)]) (hq : ρ q = .agg #[(.int .i64 b.X0), (.int .i64 b.Y0), (.int .i64 b.X1), (.int .i64 b.Y1)]) : (execOp ρ ⟨dd, .binOp .neq 29 p q T', ty, pos, af, g⟩).run Try.prog W = .ok (.value (.bool (!eqTRect a b))) W :=
  run_neqG (m := 9998 + 2) rfl (by kernel_rfl) (eqr_29 a b 9998 W) hp hq
def eqTPoint (a b : TPoint) : Bool := (a.X == b.X) && ((a.Y == b.Y) && true)
theorem eqTPoint_iff {a b : TPoint} : eqTPoint a b = true ↔ a = b := by
  cases a; cases b; simp [eqTPoint, sEq_iff]
theorem eqr_35 (a b : TPoint) (d : Nat) (W : World) : (Op.equalIn (d + 2) 35 (.agg #[(.int .i64 a.X), (.int .i64 a.Y)]) (.agg #[(.int .i64 b.X), (.int .i64 b.Y)])).run Try.prog W = .ok (eqTPoint a b) W := by
  rw [show d + 2 = (d + 1) + 1 from rfl, run_equalIn_struct W _ 35 _ _ (by kernel_rfl) (by kernel_rfl)]
  simp only [Program.fieldsOf, Try.underlying35]
  exact eqF_cons rfl (part1 ag_3 rfl) (part1 ag_3 rfl) (eq_int Try.underlying3) (eqF_cons rfl (part1 ag_3 rfl) (part1 ag_3 rfl) (eq_int Try.underlying3) (eqF_nil))
theorem run_eql_35 {ρ : Operand → Value} {W : World} {dd : Option Tmp} {ty T' : TypeId} {pos : String} {af : Array Edge} {g : Option (Nat × Bool)} {p q : Operand} (a b : TPoint) (hp : ρ p = .agg #[(.int .i64 a.X), (.int .i64 a.Y)]) (hq : ρ q = .agg #[(.int .i64 b.X), (.int .i64 b.Y)]) : (execOp ρ ⟨dd, .binOp .eql 35 p q T', ty, pos, af, g⟩).run Try.prog W = .ok (.value (.bool (eqTPoint a b))) W :=
  run_eqlG (m := 9998 + 2) rfl (by kernel_rfl) (eqr_35 a b 9998 W) hp hq
theorem run_neq_35 {ρ : Operand → Value} {W : World} {dd : Option Tmp} {ty T' : TypeId} {pos : String} {af : Array Edge} {g : Option (Nat × Bool)} {p q : Operand} (a b : TPoint) (hp : ρ p = .agg #[(.int .i64 a.X), (.int .i64 a.Y)]) (hq : ρ q = .agg #[(.int .i64 b.X), (.int .i64 b.Y)]) : (execOp ρ ⟨dd, .binOp .neq 35 p q T', ty, pos, af, g⟩).run Try.prog W = .ok (.value (.bool (!eqTPoint a b))) W :=
  run_neqG (m := 9998 + 2) rfl (by kernel_rfl) (eqr_35 a b 9998 W) hp hq
def eqTGap (a b : TGap) : Bool := (a.A == b.A) && ((a.B == b.B) && ((a.Distance == b.Distance) && (eqTPoint a.From b.From && (eqTPoint a.To b.To && true))))
theorem eqTGap_iff {a b : TGap} : eqTGap a b = true ↔ a = b := by
  cases a; cases b; simp [eqTGap, sEq_iff, eqTPoint_iff, eqTPoint_iff]
theorem eqr_58 (a b : TGap) (d : Nat) (W : World) : (Op.equalIn (d + 3) 58 (.agg #[(.int .i64 a.A), (.int .i64 a.B), (.int .i64 a.Distance), (.int .i64 a.From.X), (.int .i64 a.From.Y), (.int .i64 a.To.X), (.int .i64 a.To.Y)]) (.agg #[(.int .i64 b.A), (.int .i64 b.B), (.int .i64 b.Distance), (.int .i64 b.From.X), (.int .i64 b.From.Y), (.int .i64 b.To.X), (.int .i64 b.To.Y)])).run Try.prog W = .ok (eqTGap a b) W := by
  rw [show d + 3 = (d + 2) + 1 from rfl, run_equalIn_struct W _ 58 _ _ (by kernel_rfl) (by kernel_rfl)]
  simp only [Program.fieldsOf, Try.underlying58]
  exact eqF_cons rfl (part1 ag_3 rfl) (part1 ag_3 rfl) (eq_int Try.underlying3) (eqF_cons rfl (part1 ag_3 rfl) (part1 ag_3 rfl) (eq_int Try.underlying3) (eqF_cons rfl (part1 ag_3 rfl) (part1 ag_3 rfl) (eq_int Try.underlying3) (eqF_cons rfl (partN ag_35 sz_35) (partN ag_35 sz_35) (eqr_35 a.From b.From _ W) (eqF_cons rfl (partN ag_35 sz_35) (partN ag_35 sz_35) (eqr_35 a.To b.To _ W) (eqF_nil)))))
theorem run_eql_58 {ρ : Operand → Value} {W : World} {dd : Option Tmp} {ty T' : TypeId} {pos : String} {af : Array Edge} {g : Option (Nat × Bool)} {p q : Operand} (a b : TGap) (hp : ρ p = .agg #[(.int .i64 a.A), (.int .i64 a.B), (.int .i64 a.Distance), (.int .i64 a.From.X), (.int .i64 a.From.Y), (.int .i64 a.To.X), (.int .i64 a.To.Y)]) (hq : ρ q = .agg #[(.int .i64 b.A), (.int .i64 b.B), (.int .i64 b.Distance), (.int .i64 b.From.X), (.int .i64 b.From.Y), (.int .i64 b.To.X), (.int .i64 b.To.Y)]) : (execOp ρ ⟨dd, .binOp .eql 58 p q T', ty, pos, af, g⟩).run Try.prog W = .ok (.value (.bool (eqTGap a b))) W :=
  run_eqlG (m := 9997 + 3) rfl (by kernel_rfl) (eqr_58 a b 9997 W) hp hq
theorem run_neq_58 {ρ : Operand → Value} {W : World} {dd : Option Tmp} {ty T' : TypeId} {pos : String} {af : Array Edge} {g : Option (Nat × Bool)} {p q : Operand} (a b : TGap) (hp : ρ p = .agg #[(.int .i64 a.A), (.int .i64 a.B), (.int .i64 a.Distance), (.int .i64 a.From.X), (.int .i64 a.From.Y), (.int .i64 a.To.X), (.int .i64 a.To.Y)]) (hq : ρ q = .agg #[(.int .i64 b.A), (.int .i64 b.B), (.int .i64 b.Distance), (.int .i64 b.From.X), (.int .i64 b.From.Y), (.int .i64 b.To.X), (.int .i64 b.To.Y)]) : (execOp ρ ⟨dd, .binOp .neq 58 p q T', ty, pos, af, g⟩).run Try.prog W = .ok (.value (.bool (!eqTGap a b))) W :=
  run_neqG (m := 9997 + 3) rfl (by kernel_rfl) (eqr_58 a b 9997 W) hp hq
def eqTSpan (a b : TSpan) : Bool := (a.from_ == b.from_) && ((a.to_ == b.to_) && true)
theorem eqTSpan_iff {a b : TSpan} : eqTSpan a b = true ↔ a = b := by
  cases a; cases b; simp [eqTSpan, sEq_iff]
theorem eqr_124 (a b : TSpan) (d : Nat) (W : World) : (Op.equalIn (d + 2) 124 (.agg #[(.int .i64 a.from_), (.int .i64 a.to_)]) (.agg #[(.int .i64 b.from_), (.int .i64 b.to_)])).run Try.prog W = .ok (eqTSpan a b) W := by
  rw [show d + 2 = (d + 1) + 1 from rfl, run_equalIn_struct W _ 124 _ _ (by kernel_rfl) (by kernel_rfl)]
  simp only [Program.fieldsOf, Try.underlying124]
  exact eqF_cons rfl (part1 ag_3 rfl) (part1 ag_3 rfl) (eq_int Try.underlying3) (eqF_cons rfl (part1 ag_3 rfl) (part1 ag_3 rfl) (eq_int Try.underlying3) (eqF_nil))
theorem run_eql_124 {ρ : Operand → Value} {W : World} {dd : Option Tmp} {ty T' : TypeId} {pos : String} {af : Array Edge} {g : Option (Nat × Bool)} {p q : Operand} (a b : TSpan) (hp : ρ p = .agg #[(.int .i64 a.from_), (.int .i64 a.to_)]) (hq : ρ q = .agg #[(.int .i64 b.from_), (.int .i64 b.to_)]) : (execOp ρ ⟨dd, .binOp .eql 124 p q T', ty, pos, af, g⟩).run Try.prog W = .ok (.value (.bool (eqTSpan a b))) W :=
  run_eqlG (m := 9998 + 2) rfl (by kernel_rfl) (eqr_124 a b 9998 W) hp hq
theorem run_neq_124 {ρ : Operand → Value} {W : World} {dd : Option Tmp} {ty T' : TypeId} {pos : String} {af : Array Edge} {g : Option (Nat × Bool)} {p q : Operand} (a b : TSpan) (hp : ρ p = .agg #[(.int .i64 a.from_), (.int .i64 a.to_)]) (hq : ρ q = .agg #[(.int .i64 b.from_), (.int .i64 b.to_)]) : (execOp ρ ⟨dd, .binOp .neq 124 p q T', ty, pos, af, g⟩).run Try.prog W = .ok (.value (.bool (!eqTSpan a b))) W :=
  run_neqG (m := 9998 + 2) rfl (by kernel_rfl) (eqr_124 a b 9998 W) hp hq
end Go.Proofs.Ytcebbfodkadggaa
