/- Types of the data, and closed facts of the program's table of types. -/
import Derived.Test.YtejfmgjfdnmmgaaGreatDoorProg
import Derived.Test.YtejfmgjfdnmmgaaGreatDoorJ2
import Derived.Test.YtejfmgjfdnmmgaaGreatDoorSH
namespace Go.Proofs.YtejfmgjfdnmmgaaGreatDoor
open Go.RowKit
set_option maxRecDepth 100000
structure TBoardKind where
  Name : ByteArray
  W : Int
  H : Int
structure TPoint where
  X : Int
  Y : Int
structure TSlot where
  Board : ByteArray
  Quarters : Int
  At : TPoint
structure TPanel where
  W : Int
  H : Int
  Rail : Int
  Gap : Int
  Kinds : (List TBoardKind)
  Slots : (List TSlot)
  Marks : (List TPoint)
structure TRect where
  X0 : Int
  Y0 : Int
  X1 : Int
  Y1 : Int
structure TBand where
  Y0 : Int
  Y1 : Int
  Xs : (List Int)
structure TBody where
  Type_ : ByteArray
  W : Int
  H : Int
  Tall : Int
  Nozzle : ByteArray
structure TPlace where
  Part : ByteArray
  Type_ : ByteArray
  At : TPoint
  Quarters : Int
  Below : Bool
structure TCount where
  Type_ : ByteArray
  Many : Int
def fl_TBoardKind : Fl TBoardKind := Fl.flat 3 (fun x => [(.string x.Name), (.int .i64 x.W), (.int .i64 x.H)]) (fun _ => rfl) (fun _ u h => by
  simp at h
  rcases h with rfl | rfl | rfl <;> rfl)
theorem ef_TBoardKind : ∀ u x, fl_TBoardKind.enc u x = [(.string x.Name), (.int .i64 x.W), (.int .i64 x.H)] := fun _ _ => rfl
theorem tr_TBoardKind : fl_TBoardKind.Tri := fun _ _ _ _ => trivial
def fl_TSlot : Fl TSlot := Fl.flat 4 (fun x => [(.string x.Board), (.int .i64 x.Quarters), (.int .i64 x.At.X), (.int .i64 x.At.Y)]) (fun _ => rfl) (fun _ u h => by
  simp at h
  rcases h with rfl | rfl | rfl | rfl <;> rfl)
theorem ef_TSlot : ∀ u x, fl_TSlot.enc u x = [(.string x.Board), (.int .i64 x.Quarters), (.int .i64 x.At.X), (.int .i64 x.At.Y)] := fun _ _ => rfl
theorem tr_TSlot : fl_TSlot.Tri := fun _ _ _ _ => trivial
def fl_TPoint : Fl TPoint := Fl.flat 2 (fun x => [(.int .i64 x.X), (.int .i64 x.Y)]) (fun _ => rfl) (fun _ u h => by
  simp at h
  rcases h with rfl | rfl <;> rfl)
theorem ef_TPoint : ∀ u x, fl_TPoint.enc u x = [(.int .i64 x.X), (.int .i64 x.Y)] := fun _ _ => rfl
theorem tr_TPoint : fl_TPoint.Tri := fun _ _ _ _ => trivial
def fl_TRect : Fl TRect := Fl.flat 4 (fun x => [(.int .i64 x.X0), (.int .i64 x.Y0), (.int .i64 x.X1), (.int .i64 x.Y1)]) (fun _ => rfl) (fun _ u h => by
  simp at h
  rcases h with rfl | rfl | rfl | rfl <;> rfl)
theorem ef_TRect : ∀ u x, fl_TRect.enc u x = [(.int .i64 x.X0), (.int .i64 x.Y0), (.int .i64 x.X1), (.int .i64 x.Y1)] := fun _ _ => rfl
theorem tr_TRect : fl_TRect.Tri := fun _ _ _ _ => trivial
def fl_i64 : Fl Int := Fl.flat 1 (fun x => [(.int .i64 x)]) (fun _ => rfl) (fun _ u h => by
  simp at h
  subst h; rfl)
theorem ef_i64 : ∀ u x, fl_i64.enc u x = [(.int .i64 x)] := fun _ _ => rfl
theorem tr_i64 : fl_i64.Tri := fun _ _ _ _ => trivial
def fl_TBand : Fl TBand where
  Ad := (Option Addr × Nat)
  sz := 3
  enc u x := [(.int .i64 x.Y0), (.int .i64 x.Y1), (.slice u.1 (x.Xs).length u.2)]
  ok S W u x := Sl S W fl_i64 u.1 u.2 x.Xs
  len _ _ := rfl
  one _ _ v h := by
    simp at h
    rcases h with rfl | rfl | rfl <;> rfl
  loc h hs hb := h.go hs hb
def fl_TBody : Fl TBody := Fl.flat 5 (fun x => [(.string x.Type_), (.int .i64 x.W), (.int .i64 x.H), (.int .i64 x.Tall), (.string x.Nozzle)]) (fun _ => rfl) (fun _ u h => by
  simp at h
  rcases h with rfl | rfl | rfl | rfl | rfl <;> rfl)
theorem ef_TBody : ∀ u x, fl_TBody.enc u x = [(.string x.Type_), (.int .i64 x.W), (.int .i64 x.H), (.int .i64 x.Tall), (.string x.Nozzle)] := fun _ _ => rfl
theorem tr_TBody : fl_TBody.Tri := fun _ _ _ _ => trivial
def fl_str : Fl ByteArray := Fl.flat 1 (fun x => [(.string x)]) (fun _ => rfl) (fun _ u h => by
  simp at h
  subst h; rfl)
theorem ef_str : ∀ u x, fl_str.enc u x = [(.string x)] := fun _ _ => rfl
theorem tr_str : fl_str.Tri := fun _ _ _ _ => trivial
def fl_TPlace : Fl TPlace := Fl.flat 6 (fun x => [(.string x.Part), (.string x.Type_), (.int .i64 x.At.X), (.int .i64 x.At.Y), (.int .i64 x.Quarters), (.bool x.Below)]) (fun _ => rfl) (fun _ u h => by
  simp at h
  rcases h with rfl | rfl | rfl | rfl | rfl | rfl <;> rfl)
theorem ef_TPlace : ∀ u x, fl_TPlace.enc u x = [(.string x.Part), (.string x.Type_), (.int .i64 x.At.X), (.int .i64 x.At.Y), (.int .i64 x.Quarters), (.bool x.Below)] := fun _ _ => rfl
theorem tr_TPlace : fl_TPlace.Tri := fun _ _ _ _ => trivial
def fl_TCount : Fl TCount := Fl.flat 2 (fun x => [(.string x.Type_), (.int .i64 x.Many)]) (fun _ => rfl) (fun _ u h => by
  simp at h
  rcases h with rfl | rfl <;> rfl)
theorem ef_TCount : ∀ u x, fl_TCount.enc u x = [(.string x.Type_), (.int .i64 x.Many)] := fun _ _ => rfl
theorem tr_TCount : fl_TCount.Tri := fun _ _ _ _ => trivial
theorem ag_104 : aggOf Tryz.prog 104 = some false := by kernel_rfl
theorem ag_111 : aggOf Tryz.prog 111 = some true := by kernel_rfl
theorem ag_22 : aggOf Tryz.prog 22 = some false := by kernel_rfl
theorem ag_23 : aggOf Tryz.prog 23 = some false := by kernel_rfl
theorem ag_24 : aggOf Tryz.prog 24 = some false := by kernel_rfl
theorem ag_26 : aggOf Tryz.prog 26 = some true := by kernel_rfl
theorem ag_3 : aggOf Tryz.prog 3 = some false := by kernel_rfl
theorem ag_34 : aggOf Tryz.prog 34 = some true := by kernel_rfl
theorem ag_36 : aggOf Tryz.prog 36 = some true := by kernel_rfl
theorem ag_41 : aggOf Tryz.prog 41 = some true := by kernel_rfl
theorem ag_49 : aggOf Tryz.prog 49 = some true := by kernel_rfl
theorem ag_60 : aggOf Tryz.prog 60 = some true := by kernel_rfl
theorem ag_66 : aggOf Tryz.prog 66 = some true := by kernel_rfl
theorem ag_68 : aggOf Tryz.prog 68 = some true := by kernel_rfl
theorem ag_9 : aggOf Tryz.prog 9 = some false := by kernel_rfl
theorem sz_104 : szOf Tryz.prog 104 = some 1 := by kernel_rfl
theorem sz_111 : szOf Tryz.prog 111 = some 3 := by kernel_rfl
theorem sz_26 : szOf Tryz.prog 26 = some 7 := by kernel_rfl
theorem sz_3 : szOf Tryz.prog 3 = some 1 := by kernel_rfl
theorem sz_34 : szOf Tryz.prog 34 = some 2 := by kernel_rfl
theorem sz_36 : szOf Tryz.prog 36 = some 4 := by kernel_rfl
theorem sz_41 : szOf Tryz.prog 41 = some 2 := by kernel_rfl
theorem sz_49 : szOf Tryz.prog 49 = some 4 := by kernel_rfl
theorem sz_60 : szOf Tryz.prog 60 = some 3 := by kernel_rfl
theorem sz_66 : szOf Tryz.prog 66 = some 6 := by kernel_rfl
theorem sz_68 : szOf Tryz.prog 68 = some 5 := by kernel_rfl
theorem ze_104 : zeroOf Tryz.prog 104 = some [(.slice none 0 0)] := by kernel_rfl
theorem ze_111 : zeroOf Tryz.prog 111 = some [(.int .i64 0), (.int .i64 0), (.slice none 0 0)] := by kernel_rfl
theorem ze_3 : zeroOf Tryz.prog 3 = some [(.int .i64 0)] := by kernel_rfl
theorem ze_34 : zeroOf Tryz.prog 34 = some [(.int .i64 0), (.int .i64 0)] := by kernel_rfl
theorem ze_36 : zeroOf Tryz.prog 36 = some [(.string ⟨#[]⟩), (.int .i64 0), (.int .i64 0), (.int .i64 0)] := by kernel_rfl
theorem ze_49 : zeroOf Tryz.prog 49 = some [(.int .i64 0), (.int .i64 0), (.int .i64 0), (.int .i64 0)] := by kernel_rfl
theorem ze_60 : zeroOf Tryz.prog 60 = some [(.string ⟨#[]⟩), (.int .i64 0), (.int .i64 0)] := by kernel_rfl
theorem ze_66 : zeroOf Tryz.prog 66 = some [(.string ⟨#[]⟩), (.string ⟨#[]⟩), (.int .i64 0), (.int .i64 0), (.int .i64 0), (.bool false)] := by kernel_rfl
theorem ze_68 : zeroOf Tryz.prog 68 = some [(.string ⟨#[]⟩), (.int .i64 0), (.int .i64 0), (.int .i64 0), (.string ⟨#[]⟩)] := by kernel_rfl
theorem zl_111 : (zeroOf Tryz.prog 111).map List.length = some 3 := by kernel_rfl
theorem zl_3 : (zeroOf Tryz.prog 3).map List.length = some 1 := by kernel_rfl
theorem zl_41 : (zeroOf Tryz.prog 41).map List.length = some 2 := by kernel_rfl
theorem zl_49 : (zeroOf Tryz.prog 49).map List.length = some 4 := by kernel_rfl
theorem by_111 : (Tryz.prog.info? 111).map (·.bytes) = some 40 := by kernel_rfl
theorem by_3 : (Tryz.prog.info? 3).map (·.bytes) = some 8 := by kernel_rfl
theorem by_41 : (Tryz.prog.info? 41).map (·.bytes) = some 24 := by kernel_rfl
theorem by_49 : (Tryz.prog.info? 49).map (·.bytes) = some 32 := by kernel_rfl
theorem fo_111_0 : fieldOf Tryz.prog 111 0 = some 0 := by kernel_rfl
theorem fo_111_1 : fieldOf Tryz.prog 111 1 = some 1 := by kernel_rfl
theorem fo_111_2 : fieldOf Tryz.prog 111 2 = some 2 := by kernel_rfl
theorem fo_26_0 : fieldOf Tryz.prog 26 0 = some 0 := by kernel_rfl
theorem fo_26_1 : fieldOf Tryz.prog 26 1 = some 1 := by kernel_rfl
theorem fo_26_2 : fieldOf Tryz.prog 26 2 = some 2 := by kernel_rfl
theorem fo_26_3 : fieldOf Tryz.prog 26 3 = some 3 := by kernel_rfl
theorem fo_26_4 : fieldOf Tryz.prog 26 4 = some 4 := by kernel_rfl
theorem fo_26_5 : fieldOf Tryz.prog 26 5 = some 5 := by kernel_rfl
theorem fo_26_6 : fieldOf Tryz.prog 26 6 = some 6 := by kernel_rfl
theorem fo_34_0 : fieldOf Tryz.prog 34 0 = some 0 := by kernel_rfl
theorem fo_34_1 : fieldOf Tryz.prog 34 1 = some 1 := by kernel_rfl
theorem fo_36_0 : fieldOf Tryz.prog 36 0 = some 0 := by kernel_rfl
theorem fo_36_1 : fieldOf Tryz.prog 36 1 = some 1 := by kernel_rfl
theorem fo_36_2 : fieldOf Tryz.prog 36 2 = some 2 := by kernel_rfl
theorem fo_41_0 : fieldOf Tryz.prog 41 0 = some 0 := by kernel_rfl
theorem fo_41_1 : fieldOf Tryz.prog 41 1 = some 1 := by kernel_rfl
theorem fo_49_0 : fieldOf Tryz.prog 49 0 = some 0 := by kernel_rfl
theorem fo_49_1 : fieldOf Tryz.prog 49 1 = some 1 := by kernel_rfl
theorem fo_49_2 : fieldOf Tryz.prog 49 2 = some 2 := by kernel_rfl
theorem fo_49_3 : fieldOf Tryz.prog 49 3 = some 3 := by kernel_rfl
theorem fo_60_0 : fieldOf Tryz.prog 60 0 = some 0 := by kernel_rfl
theorem fo_60_1 : fieldOf Tryz.prog 60 1 = some 1 := by kernel_rfl
theorem fo_60_2 : fieldOf Tryz.prog 60 2 = some 2 := by kernel_rfl
theorem fo_66_0 : fieldOf Tryz.prog 66 0 = some 0 := by kernel_rfl
theorem fo_66_1 : fieldOf Tryz.prog 66 1 = some 1 := by kernel_rfl
theorem fo_66_2 : fieldOf Tryz.prog 66 2 = some 2 := by kernel_rfl
theorem fo_66_3 : fieldOf Tryz.prog 66 3 = some 4 := by kernel_rfl
theorem fo_68_0 : fieldOf Tryz.prog 68 0 = some 0 := by kernel_rfl
theorem fo_68_1 : fieldOf Tryz.prog 68 1 = some 1 := by kernel_rfl
theorem fo_68_2 : fieldOf Tryz.prog 68 2 = some 2 := by kernel_rfl
theorem fo_68_3 : fieldOf Tryz.prog 68 3 = some 3 := by kernel_rfl
theorem fo_68_4 : fieldOf Tryz.prog 68 4 = some 4 := by kernel_rfl
theorem el_104 : elemOf? Tryz.prog 104 = some (3, 1) := by kernel_rfl
theorem el_22 : elemOf? Tryz.prog 22 = some (60, 3) := by kernel_rfl
theorem el_23 : elemOf? Tryz.prog 23 = some (36, 4) := by kernel_rfl
theorem el_24 : elemOf? Tryz.prog 24 = some (34, 2) := by kernel_rfl
theorem el_27 : elemOf? Tryz.prog 27 = some (68, 5) := by kernel_rfl
theorem el_28 : elemOf? Tryz.prog 28 = some (66, 6) := by kernel_rfl
theorem el_37 : elemOf? Tryz.prog 37 = some (41, 2) := by kernel_rfl
theorem el_50 : elemOf? Tryz.prog 50 = some (49, 4) := by kernel_rfl
theorem el_84 : elemOf? Tryz.prog 84 = some (111, 3) := by kernel_rfl
theorem el_91 : elemOf? Tryz.prog 91 = some (9, 1) := by kernel_rfl
theorem zi_3 : (Tryz.prog.info? 3).bind (·.zero) = some (.int .i64 0) := by kernel_rfl
theorem un_104 : Tryz.prog.underlying 104 = some (.slice 3) := by kernel_rfl
theorem un_22 : Tryz.prog.underlying 22 = some (.slice 60) := by kernel_rfl
theorem un_23 : Tryz.prog.underlying 23 = some (.slice 36) := by kernel_rfl
theorem un_24 : Tryz.prog.underlying 24 = some (.slice 34) := by kernel_rfl
theorem un_27 : Tryz.prog.underlying 27 = some (.slice 68) := by kernel_rfl
theorem un_28 : Tryz.prog.underlying 28 = some (.slice 66) := by kernel_rfl
theorem un_3 : Tryz.prog.underlying 3 = some (.int .i64) := by kernel_rfl
theorem un_37 : Tryz.prog.underlying 37 = some (.slice 41) := by kernel_rfl
theorem un_50 : Tryz.prog.underlying 50 = some (.slice 49) := by kernel_rfl
theorem un_54 : Tryz.prog.underlying 54 = some (.map 9 3) := by kernel_rfl
theorem un_84 : Tryz.prog.underlying 84 = some (.slice 111) := by kernel_rfl
theorem un_9 : Tryz.prog.underlying 9 = some (.string) := by kernel_rfl
theorem un_91 : Tryz.prog.underlying 91 = some (.slice 9) := by kernel_rfl
theorem un_95 : Tryz.prog.underlying 95 = some (.int .u64) := by kernel_rfl
def eqTPoint (a b : TPoint) : Bool := (a.X == b.X) && ((a.Y == b.Y) && true)
theorem eqTPoint_iff {a b : TPoint} : eqTPoint a b = true ↔ a = b := by
  cases a; cases b; simp [eqTPoint, sEq_iff]
theorem eqr_34 (a b : TPoint) (d : Nat) (W : World) : (Op.equalIn (d + 2) 34 (.agg #[(.int .i64 a.X), (.int .i64 a.Y)]) (.agg #[(.int .i64 b.X), (.int .i64 b.Y)])).run Tryz.prog W = .ok (eqTPoint a b) W := by
  rw [show d + 2 = (d + 1) + 1 from rfl, run_equalIn_struct W _ 34 _ _ (by kernel_rfl) (by kernel_rfl)]
  simp only [Program.fieldsOf, Tryz.underlying34]
  exact eqF_cons rfl (part1 ag_3 rfl) (part1 ag_3 rfl) (eq_int Tryz.underlying3) (eqF_cons rfl (part1 ag_3 rfl) (part1 ag_3 rfl) (eq_int Tryz.underlying3) (eqF_nil))
theorem run_eql_34 {ρ : Operand → Value} {W : World} {dd : Option Tmp} {ty T' : TypeId} {pos : String} {af : Array Edge} {g : Option (Nat × Bool)} {p q : Operand} (a b : TPoint) (hp : ρ p = .agg #[(.int .i64 a.X), (.int .i64 a.Y)]) (hq : ρ q = .agg #[(.int .i64 b.X), (.int .i64 b.Y)]) : (execOp ρ ⟨dd, .binOp .eql 34 p q T', ty, pos, af, g⟩).run Tryz.prog W = .ok (.value (.bool (eqTPoint a b))) W :=
  run_eqlG (m := 9998 + 2) rfl (by kernel_rfl) (eqr_34 a b 9998 W) hp hq
theorem run_neq_34 {ρ : Operand → Value} {W : World} {dd : Option Tmp} {ty T' : TypeId} {pos : String} {af : Array Edge} {g : Option (Nat × Bool)} {p q : Operand} (a b : TPoint) (hp : ρ p = .agg #[(.int .i64 a.X), (.int .i64 a.Y)]) (hq : ρ q = .agg #[(.int .i64 b.X), (.int .i64 b.Y)]) : (execOp ρ ⟨dd, .binOp .neq 34 p q T', ty, pos, af, g⟩).run Tryz.prog W = .ok (.value (.bool (!eqTPoint a b))) W :=
  run_neqG (m := 9998 + 2) rfl (by kernel_rfl) (eqr_34 a b 9998 W) hp hq
def eqTRect (a b : TRect) : Bool := (a.X0 == b.X0) && ((a.Y0 == b.Y0) && ((a.X1 == b.X1) && ((a.Y1 == b.Y1) && true)))
theorem eqTRect_iff {a b : TRect} : eqTRect a b = true ↔ a = b := by
  cases a; cases b; simp [eqTRect, sEq_iff]
theorem eqr_49 (a b : TRect) (d : Nat) (W : World) : (Op.equalIn (d + 2) 49 (.agg #[(.int .i64 a.X0), (.int .i64 a.Y0), (.int .i64 a.X1), (.int .i64 a.Y1)]) (.agg #[(.int .i64 b.X0), (.int .i64 b.Y0), (.int .i64 b.X1), (.int .i64 b.Y1)])).run Tryz.prog W = .ok (eqTRect a b) W := by
  rw [show d + 2 = (d + 1) + 1 from rfl, run_equalIn_struct W _ 49 _ _ (by kernel_rfl) (by kernel_rfl)]
  simp only [Program.fieldsOf, Tryz.underlying49]
  exact eqF_cons rfl (part1 ag_3 rfl) (part1 ag_3 rfl) (eq_int Tryz.underlying3) (eqF_cons rfl (part1 ag_3 rfl) (part1 ag_3 rfl) (eq_int Tryz.underlying3) (eqF_cons rfl (part1 ag_3 rfl) (part1 ag_3 rfl) (eq_int Tryz.underlying3) (eqF_cons rfl (part1 ag_3 rfl) (part1 ag_3 rfl) (eq_int Tryz.underlying3) (eqF_nil))))
theorem run_eql_49 {ρ : Operand → Value} {W : World} {dd : Option Tmp} {ty T' : TypeId} {pos : String} {af : Array Edge} {g : Option (Nat × Bool)} {p q : Operand} (a b : TRect) (hp : ρ p = .agg #[(.int .i64 a.X0), (.int .i64 a.Y0), (.int .i64 a.X1), (.int .i64 a.Y1)]) (hq : ρ q = .agg #[(.int .i64 b.X0), (.int .i64 b.Y0), (.int .i64 b.X1), (.int .i64 b.Y1)]) : (execOp ρ ⟨dd, .binOp .eql 49 p q T', ty, pos, af, g⟩).run Tryz.prog W = .ok (.value (.bool (eqTRect a b))) W :=
  run_eqlG (m := 9998 + 2) rfl (by kernel_rfl) (eqr_49 a b 9998 W) hp hq
theorem run_neq_49 {ρ : Operand → Value} {W : World} {dd : Option Tmp} {ty T' : TypeId} {pos : String} {af : Array Edge} {g : Option (Nat × Bool)} {p q : Operand} (a b : TRect) (hp : ρ p = .agg #[(.int .i64 a.X0), (.int .i64 a.Y0), (.int .i64 a.X1), (.int .i64 a.Y1)]) (hq : ρ q = .agg #[(.int .i64 b.X0), (.int .i64 b.Y0), (.int .i64 b.X1), (.int .i64 b.Y1)]) : (execOp ρ ⟨dd, .binOp .neq 49 p q T', ty, pos, af, g⟩).run Tryz.prog W = .ok (.value (.bool (!eqTRect a b))) W :=
  run_neqG (m := 9998 + 2) rfl (by kernel_rfl) (eqr_49 a b 9998 W) hp hq
end Go.Proofs.YtejfmgjfdnmmgaaGreatDoor
