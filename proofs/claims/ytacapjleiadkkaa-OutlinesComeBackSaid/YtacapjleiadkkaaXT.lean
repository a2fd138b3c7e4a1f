/- Types of the data, and closed facts of the program's table of types. -/
import Derived.Test.YtacapjleiadkkaaProg
import Derived.Test.YtacapjleiadkkaaJ2
import Derived.Test.YtacapjleiadkkaaSH
namespace Go.Proofs.Ytacapjleiadkkaa
open Go.RowKit
set_option maxRecDepth 100000
structure TRect where
  X0 : Int
  Y0 : Int
  X1 : Int
  Y1 : Int
structure TBand where
  Y0 : Int
  Y1 : Int
  Xs : (List Int)
structure TPoint where
  X : Int
  Y : Int
structure TSide where
  from_ : TPoint
  to_ : TPoint
def fl_TRect : Fl TRect := Fl.flat 4 (fun x => [(.int .i64 x.X0), (.int .i64 x.Y0), (.int .i64 x.X1), (.int .i64 x.Y1)]) (fun _ => rfl) (fun _ u h => by
  simp at h
  rcases h with rfl | rfl | rfl | rfl <;> rfl)
theorem ef_TRect : ∀ u x, fl_TRect.enc u x = [(.int .i64 x.X0), (.int .i64 x.Y0), (.int .i64 x.X1), (.int .i64 x.Y1)] := fun _ _ => rfl
theorem tr_TRect : fl_TRect.Tri := fun _ _ _ _ => trivial
def fl_i64 : Fl Int := Fl.flat 1 (fun x => [(.int .i64 x)]) (fun _ => rfl) (fun _ u h => by
  simp at h
  subst h; rfl)
theorem ef_i64 : ∀ u x, fl_i64.enc u x = [(.int .i64 x)] := fun _ _ => rfl
theorem tr_i64 : fl_i64.Tri := fun _ _ _ _ => trivial
def fl_TBand : Fl TBand where
  Ad := (Option Addr × Nat)
  sz := 3
  enc u x := [(.int .i64 x.Y0), (.int .i64 x.Y1), (.slice u.1 (x.Xs).length u.2)]
  ok S W u x := Sl S W fl_i64 u.1 u.2 x.Xs
  len _ _ := rfl
  one _ _ v h := by
    simp at h
    rcases h with rfl | rfl | rfl <;> rfl
  loc h hs hb := h.go hs hb
def fl_TSide : Fl TSide := Fl.flat 4 (fun x => [(.int .i64 x.from_.X), (.int .i64 x.from_.Y), (.int .i64 x.to_.X), (.int .i64 x.to_.Y)]) (fun _ => rfl) (fun _ u h => by
  simp at h
  rcases h with rfl | rfl | rfl | rfl <;> rfl)
theorem ef_TSide : ∀ u x, fl_TSide.enc u x = [(.int .i64 x.from_.X), (.int .i64 x.from_.Y), (.int .i64 x.to_.X), (.int .i64 x.to_.Y)] := fun _ _ => rfl
theorem tr_TSide : fl_TSide.Tri := fun _ _ _ _ => trivial
def fl_bool : Fl Bool := Fl.flat 1 (fun x => [(.bool x)]) (fun _ => rfl) (fun _ u h => by
  simp at h
  subst h; rfl)
theorem ef_bool : ∀ u x, fl_bool.enc u x = [(.bool x)] := fun _ _ => rfl
theorem tr_bool : fl_bool.Tri := fun _ _ _ _ => trivial
def fl_TPoint : Fl TPoint := Fl.flat 2 (fun x => [(.int .i64 x.X), (.int .i64 x.Y)]) (fun _ => rfl) (fun _ u h => by
  simp at h
  rcases h with rfl | rfl <;> rfl)
theorem ef_TPoint : ∀ u x, fl_TPoint.enc u x = [(.int .i64 x.X), (.int .i64 x.Y)] := fun _ _ => rfl
theorem tr_TPoint : fl_TPoint.Tri := fun _ _ _ _ => trivial
def fl_LTPoint : Fl (List TPoint) where
  Ad := (Option Addr × Nat)
  sz := 1
  enc u x := [(.slice u.1 (x).length u.2)]
  ok S W u x := Sl S W fl_TPoint u.1 u.2 x
  len _ _ := rfl
  one _ _ v h := by
    simp at h
    subst h; rfl
  loc h hs hb := h.go hs hb
theorem ag_3 : aggOf Try.prog 3 = some false := by kernel_rfl
theorem ag_32 : aggOf Try.prog 32 = some true := by kernel_rfl
theorem ag_39 : aggOf Try.prog 39 = some false := by kernel_rfl
theorem ag_4 : aggOf Try.prog 4 = some false := by kernel_rfl
theorem ag_44 : aggOf Try.prog 44 = some true := by kernel_rfl
theorem ag_53 : aggOf Try.prog 53 = some false := by kernel_rfl
theorem ag_61 : aggOf Try.prog 61 = some true := by kernel_rfl
theorem ag_62 : aggOf Try.prog 62 = some false := by kernel_rfl
theorem ag_64 : aggOf Try.prog 64 = some false := by kernel_rfl
theorem ag_66 : aggOf Try.prog 66 = some true := by kernel_rfl
theorem ag_67 : aggOf Try.prog 67 = some false := by kernel_rfl
theorem ag_69 : aggOf Try.prog 69 = some false := by kernel_rfl
theorem ag_70 : aggOf Try.prog 70 = some false := by kernel_rfl
theorem ag_86 : aggOf Try.prog 86 = some false := by kernel_rfl
theorem sz_3 : szOf Try.prog 3 = some 1 := by kernel_rfl
theorem sz_32 : szOf Try.prog 32 = some 4 := by kernel_rfl
theorem sz_39 : szOf Try.prog 39 = some 1 := by kernel_rfl
theorem sz_4 : szOf Try.prog 4 = some 1 := by kernel_rfl
theorem sz_44 : szOf Try.prog 44 = some 2 := by kernel_rfl
theorem sz_53 : szOf Try.prog 53 = some 1 := by kernel_rfl
theorem sz_61 : szOf Try.prog 61 = some 3 := by kernel_rfl
theorem sz_62 : szOf Try.prog 62 = some 1 := by kernel_rfl
theorem sz_64 : szOf Try.prog 64 = some 1 := by kernel_rfl
theorem sz_66 : szOf Try.prog 66 = some 4 := by kernel_rfl
theorem sz_67 : szOf Try.prog 67 = some 1 := by kernel_rfl
theorem sz_69 : szOf Try.prog 69 = some 1 := by kernel_rfl
theorem sz_70 : szOf Try.prog 70 = some 1 := by kernel_rfl
theorem sz_86 : szOf Try.prog 86 = some 1 := by kernel_rfl
theorem ze_3 : zeroOf Try.prog 3 = some [(.int .i64 0)] := by kernel_rfl
theorem ze_32 : zeroOf Try.prog 32 = some [(.int .i64 0), (.int .i64 0), (.int .i64 0), (.int .i64 0)] := by kernel_rfl
theorem ze_4 : zeroOf Try.prog 4 = some [(.bool false)] := by kernel_rfl
theorem ze_44 : zeroOf Try.prog 44 = some [(.int .i64 0), (.int .i64 0)] := by kernel_rfl
theorem ze_53 : zeroOf Try.prog 53 = some [(.slice none 0 0)] := by kernel_rfl
theorem ze_61 : zeroOf Try.prog 61 = some [(.int .i64 0), (.int .i64 0), (.slice none 0 0)] := by kernel_rfl
theorem ze_62 : zeroOf Try.prog 62 = some [(.slice none 0 0)] := by kernel_rfl
theorem ze_64 : zeroOf Try.prog 64 = some [(.map none)] := by kernel_rfl
theorem ze_66 : zeroOf Try.prog 66 = some [(.int .i64 0), (.int .i64 0), (.int .i64 0), (.int .i64 0)] := by kernel_rfl
theorem ze_67 : zeroOf Try.prog 67 = some [(.slice none 0 0)] := by kernel_rfl
theorem ze_69 : zeroOf Try.prog 69 = some [.nilFunc] := by kernel_rfl
theorem ze_70 : zeroOf Try.prog 70 = some [.nilFunc] := by kernel_rfl
theorem ze_86 : zeroOf Try.prog 86 = some [.nilFunc] := by kernel_rfl
theorem zl_3 : (zeroOf Try.prog 3).map List.length = some 1 := by kernel_rfl
theorem zl_32 : (zeroOf Try.prog 32).map List.length = some 4 := by kernel_rfl
theorem zl_39 : (zeroOf Try.prog 39).map List.length = some 1 := by kernel_rfl
theorem zl_44 : (zeroOf Try.prog 44).map List.length = some 2 := by kernel_rfl
theorem zl_61 : (zeroOf Try.prog 61).map List.length = some 3 := by kernel_rfl
theorem zl_66 : (zeroOf Try.prog 66).map List.length = some 4 := by kernel_rfl
theorem by_3 : (Try.prog.info? 3).map (·.bytes) = some 8 := by kernel_rfl
theorem by_32 : (Try.prog.info? 32).map (·.bytes) = some 32 := by kernel_rfl
theorem by_39 : (Try.prog.info? 39).map (·.bytes) = some 24 := by kernel_rfl
theorem by_4 : (Try.prog.info? 4).map (·.bytes) = some 1 := by kernel_rfl
theorem by_44 : (Try.prog.info? 44).map (·.bytes) = some 16 := by kernel_rfl
theorem by_61 : (Try.prog.info? 61).map (·.bytes) = some 40 := by kernel_rfl
theorem by_66 : (Try.prog.info? 66).map (·.bytes) = some 32 := by kernel_rfl
theorem fo_32_0 : fieldOf Try.prog 32 0 = some 0 := by kernel_rfl
theorem fo_32_1 : fieldOf Try.prog 32 1 = some 1 := by kernel_rfl
theorem fo_32_2 : fieldOf Try.prog 32 2 = some 2 := by kernel_rfl
theorem fo_32_3 : fieldOf Try.prog 32 3 = some 3 := by kernel_rfl
theorem fo_44_0 : fieldOf Try.prog 44 0 = some 0 := by kernel_rfl
theorem fo_44_1 : fieldOf Try.prog 44 1 = some 1 := by kernel_rfl
theorem fo_61_0 : fieldOf Try.prog 61 0 = some 0 := by kernel_rfl
theorem fo_61_1 : fieldOf Try.prog 61 1 = some 1 := by kernel_rfl
theorem fo_61_2 : fieldOf Try.prog 61 2 = some 2 := by kernel_rfl
theorem fo_66_0 : fieldOf Try.prog 66 0 = some 0 := by kernel_rfl
theorem fo_66_1 : fieldOf Try.prog 66 1 = some 2 := by kernel_rfl
theorem el_22 : elemOf? Try.prog 22 = some (32, 4) := by kernel_rfl
theorem el_23 : elemOf? Try.prog 23 = some (39, 1) := by kernel_rfl
theorem el_36 : elemOf? Try.prog 36 = some (61, 3) := by kernel_rfl
theorem el_39 : elemOf? Try.prog 39 = some (44, 2) := by kernel_rfl
theorem el_53 : elemOf? Try.prog 53 = some (3, 1) := by kernel_rfl
theorem el_62 : elemOf? Try.prog 62 = some (66, 4) := by kernel_rfl
theorem el_67 : elemOf? Try.prog 67 = some (4, 1) := by kernel_rfl
theorem zs_53 : (Try.prog.info? 53).bind (·.zero) = some (.slice none 0 0) := by kernel_rfl
theorem kp_44 : KeyT Try.prog 44 encP okP := keyP (IT := 3) (by kernel_rfl) (of_decide_eq_true (by kernel_rfl)) ⟨147, by kernel_rfl⟩ (of_decide_eq_true (by kernel_rfl)) (by kernel_rfl) ⟨_, Try.underlying44, by kernel_rfl⟩ (by kernel_rfl) (by kernel_rfl) Try.underlying3
theorem un_22 : Try.prog.underlying 22 = some (.slice 32) := by kernel_rfl
theorem un_23 : Try.prog.underlying 23 = some (.slice 39) := by kernel_rfl
theorem un_36 : Try.prog.underlying 36 = some (.slice 61) := by kernel_rfl
theorem un_39 : Try.prog.underlying 39 = some (.slice 44) := by kernel_rfl
theorem un_4 : Try.prog.underlying 4 = some (.bool) := by kernel_rfl
theorem un_53 : Try.prog.underlying 53 = some (.slice 3) := by kernel_rfl
theorem un_62 : Try.prog.underlying 62 = some (.slice 66) := by kernel_rfl
theorem un_64 : Try.prog.underlying 64 = some (.map 44 53) := by kernel_rfl
theorem un_67 : Try.prog.underlying 67 = some (.slice 4) := by kernel_rfl
def eqTRect (a b : TRect) : Bool := (a.X0 == b.X0) && ((a.Y0 == b.Y0) && ((a.X1 == b.X1) && ((a.Y1 == b.Y1) && true)))
theorem eqTRect_iff {a b : TRect} : eqTRect a b = true ↔ a = b := by
  cases a; cases b; simp [eqTRect, sEq_iff]
theorem eqr_32 (a b : TRect) (d : Nat) (W : World) : (Op.equalIn (d + 2) 32 (.agg #[(.int .i64 a.X0), (.int .i64 a.Y0), (.int .i64 a.X1), (.int .i64 a.Y1)]) (.agg #[(.int .i64 b.X0), (.int .i64 b.Y0), (.int .i64 b.X1), (.int .i64 b.Y1)])).run Try.prog W = .ok (eqTRect a b) W := by
  rw [show d + 2 = (d + 1) + 1 from rfl, run_equalIn_struct W _ 32 _ _ (by kernel_rfl) (by kernel_rfl)]
  simp only [Program.fieldsOf, Try.underlying32]
  exact eqF_cons rfl (part1 ag_3 rfl) (part1 ag_3 rfl) (eq_int Try.underlying3) (eqF_cons rfl (part1 ag_3 rfl) (part1 ag_3 rfl) (eq_int Try.underlying3) (eqF_cons rfl (part1 ag_3 rfl) (part1 ag_3 rfl) (eq_int Try.underlying3) (eqF_cons rfl (part1 ag_3 rfl) (part1 ag_3 rfl) (eq_int Try.underlying3) (eqF_nil))))
theorem run_eql_32 {ρ : Operand → Value} {W : World} {dd : Option Tmp} {ty T' : TypeId} {pos : String} {af : Array Edge} {g : Option (Nat × Bool)} {p q : Operand} (a b : TRect) (hp : ρ p = .agg #[(.int .i64 a.X0), (.int .i64 a.Y0), (.int .i64 a.X1), (.int .i64 a.Y1)]) (hq : ρ q = .agg #[(.int .i64 b.X0), (.int .i64 b.Y0), (.int .i64 b.X1), (.int .i64 b.Y1)]) : (execOp ρ ⟨dd, .binOp .eql 32 p q T', ty, pos, af, g⟩).run Try.prog W = .ok (.value (.bool (eqTRect a b))) W :=
  run_eqlG (m := 9998 + 2) rfl (by kernel_rfl) (eqr_32 a b 9998 W) hp hq
theorem run_neq_32 {ρ : Operand → Value} {W : World} {dd : Option Tmp} {ty T' : TypeId} {pos : String} {af : Array Edge} {g : Option (Nat × Bool)} {p q : Operand} (a b : TRect) (hp : ρ p = .agg #[(.int .i64 a.X0), (.int .i64 a.Y0), (.int .i64 a.X1), (.int .i64 a.Y1)]) (hq : ρ q = .agg #[(.int .i64 b.X0), (.int .i64 b.Y0), (.int .i64 b.X1), (.int .i64 b.Y1)]) : (execOp ρ ⟨dd, .binOp .neq 32 p q T', ty, pos, af, g⟩).run Try.prog W = .ok (.value (.bool (!eqTRect a b))) W :=
  run_neqG (m := 9998 + 2) rfl (by kernel_rfl) (eqr_32 a b 9998 W) hp hq
def eqTPoint (a b : TPoint) : Bool := (a.X == b.X) && ((a.Y == b.Y) && true)
theorem eqTPoint_iff {a b : TPoint} : eqTPoint a b = true ↔ a = b := by
  cases a; cases b; simp [eqTPoint, sEq_iff]
theorem eqr_44 (a b : TPoint) (d : Nat) (W : World) : (Op.equalIn (d + 2) 44 (.agg #[(.int .i64 a.X), (.int .i64 a.Y)]) (.agg #[(.int .i64 b.X), (.int .i64 b.Y)])).run Try.prog W = .ok (eqTPoint a b) W := by
  rw [show d + 2 = (d + 1) + 1 from rfl, run_equalIn_struct W _ 44 _ _ (by kernel_rfl) (by kernel_rfl)]
  simp only [Program.fieldsOf, Try.underlying44]
  exact eqF_cons rfl (part1 ag_3 rfl) (part1 ag_3 rfl) (eq_int Try.underlying3) (eqF_cons rfl (part1 ag_3 rfl) (part1 ag_3 rfl) (eq_int Try.underlying3) (eqF_nil))
theorem run_eql_44 {ρ : Operand → Value} {W : World} {dd : Option Tmp} {ty T' : TypeId} {pos : String} {af : Array Edge} {g : Option (Nat × Bool)} {p q : Operand} (a b : TPoint) (hp : ρ p = .agg #[(.int .i64 a.X), (.int .i64 a.Y)]) (hq : ρ q = .agg #[(.int .i64 b.X), (.int .i64 b.Y)]) : (execOp ρ ⟨dd, .binOp .eql 44 p q T', ty, pos, af, g⟩).run Try.prog W = .ok (.value (.bool (eqTPoint a b))) W :=
  run_eqlG (m := 9998 + 2) rfl (by kernel_rfl) (eqr_44 a b 9998 W) hp hq
theorem run_neq_44 {ρ : Operand → Value} {W : World} {dd : Option Tmp} {ty T' : TypeId} {pos : String} {af : Array Edge} {g : Option (Nat × Bool)} {p q : Operand} (a b : TPoint) (hp : ρ p = .agg #[(.int .i64 a.X), (.int .i64 a.Y)]) (hq : ρ q = .agg #[(.int .i64 b.X), (.int .i64 b.Y)]) : (execOp ρ ⟨dd, .binOp .neq 44 p q T', ty, pos, af, g⟩).run Try.prog W = .ok (.value (.bool (!eqTPoint a b))) W :=
  run_neqG (m := 9998 + 2) rfl (by kernel_rfl) (eqr_44 a b 9998 W) hp hq
end Go.Proofs.Ytacapjleiadkkaa
