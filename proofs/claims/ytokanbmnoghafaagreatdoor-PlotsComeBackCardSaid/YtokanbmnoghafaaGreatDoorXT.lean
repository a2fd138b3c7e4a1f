/- Types of the data, and closed facts of the program's table of types. -/
import Derived.Test.YtokanbmnoghafaaGreatDoorProg
import Derived.Test.YtokanbmnoghafaaGreatDoorJ2
import Derived.Test.YtokanbmnoghafaaGreatDoorSH
namespace Go.Proofs.YtokanbmnoghafaaGreatDoor
open Go.RowKit
set_option maxRecDepth 100000
structure JO where
  X0 : Int
  Y0 : Int
  X1 : Int
  Y1 : Int
structure zS where
  Name : ByteArray
  Rects : (List JO)
structure zU where
  X : Int
  Y : Int
structure zB where
  Kind : Int
  Name : ByteArray
  At : zU
  Points : (List zU)
  NX : Int
  NY : Int
  Steps : (List zB)
structure zBP where
  name : Bool
  at_ : Bool
  points : Bool
  repeat_ : Bool
structure zi where
  Unit : Int
  Tools : (List zS)
  Steps : (List zB)
structure QD where
  p : zi
  unit : Bool
  open_ : (List zB)
  step : Bool
structure zw where
  lines : (List ByteArray)
  ends : (List Bool)
  at_ : Int
  bad : Bool
def KR : Fl JO := Fl.flat 4 (fun x => [(.int .i64 x.X0), (.int .i64 x.Y0), (.int .i64 x.X1), (.int .i64 x.Y1)]) (fun _ => rfl) (fun _ u h => by
  simp at h
  rcases h with rfl | rfl | rfl | rfl <;> rfl)
theorem zEI : ∀ u x, KR.enc u x = [(.int .i64 x.X0), (.int .i64 x.Y0), (.int .i64 x.X1), (.int .i64 x.Y1)] := fun _ _ => rfl
theorem tr_TRect : KR.Tri := fun _ _ _ _ => trivial
def QH : Fl zU := Fl.flat 2 (fun x => [(.int .i64 x.X), (.int .i64 x.Y)]) (fun _ => rfl) (fun _ u h => by
  simp at h
  rcases h with rfl | rfl <;> rfl)
theorem zBK : ∀ u x, QH.enc u x = [(.int .i64 x.X), (.int .i64 x.Y)] := fun _ _ => rfl
theorem tr_TPoint : QH.Tri := fun _ _ _ _ => trivial
def zEq : FlR zB where
  Ad := (Option Addr × Nat) × (Option Addr × Nat)
  sz := 8
  enc u x := [(.int .i64 x.Kind), (.string x.Name), (.int .i64 x.At.X), (.int .i64 x.At.Y), (.slice u.1.1 (x.Points).length u.1.2), (.int .i64 x.NX), (.int .i64 x.NY), (.slice u.2.1 (x.Steps).length u.2.2)]
  okb S W u x := Sl S W QH u.1.1 u.1.2 x.Points
  ua u := u.2
  sub x := x.Steps
  len _ _ := rfl
  one _ _ v h := by
    simp at h
    rcases h with rfl | rfl | rfl | rfl | rfl | rfl | rfl | rfl <;> rfl
  loc h hs hb := h.go hs hb
def zC : Fl zB := zEq.fix
theorem Jn {S : Nat → Prop} {W : World} {u : (Option Addr × Nat) × (Option Addr × Nat)} {x : zB} : zC.ok S W u x ↔ Sl S W QH u.1.1 u.1.2 x.Points ∧ Sl S W zC u.2.1 u.2.2 x.Steps :=
  FlR.fix_ok zEq
def zK : Fl zS where
  Ad := (Option Addr × Nat)
  sz := 2
  enc u x := [(.string x.Name), (.slice u.1 (x.Rects).length u.2)]
  ok S W u x := Sl S W KR u.1 u.2 x.Rects
  len _ _ := rfl
  one _ _ v h := by
    simp at h
    rcases h with rfl | rfl <;> rfl
  loc h hs hb := h.go hs hb
def zAq : Fl ByteArray := Fl.flat 1 (fun x => [(.string x)]) (fun _ => rfl) (fun _ u h => by
  simp at h
  subst h; rfl)
theorem zBj : ∀ u x, zAq.enc u x = [(.string x)] := fun _ _ => rfl
theorem tr_str : zAq.Tri := fun _ _ _ _ => trivial
def Kh : Fl Int := Fl.flat 1 (fun x => [(.int .i64 x)]) (fun _ => rfl) (fun _ u h => by
  simp at h
  subst h; rfl)
theorem zBJ : ∀ u x, Kh.enc u x = [(.int .i64 x)] := fun _ _ => rfl
theorem tr_i64 : Kh.Tri := fun _ _ _ _ => trivial
def fl_bool : Fl Bool := Fl.flat 1 (fun x => [(.bool x)]) (fun _ => rfl) (fun _ u h => by
  simp at h
  subst h; rfl)
theorem ef_bool : ∀ u x, fl_bool.enc u x = [(.bool x)] := fun _ _ => rfl
theorem tr_bool : fl_bool.Tri := fun _ _ _ _ => trivial
def zJ : Lens zC zC where
  get x := x.Steps
  ga u := u.2
  okR S W u x := Sl S W QH u.1.1 u.1.2 x.Points
  ok S W u x h1 h2 := Jn.2 ⟨h1, h2⟩
  locR h hs hb := h.go hs hb
theorem zI5 : WU Tryz.prog 109 = some true := by kernel_rfl
theorem zDB : WU Tryz.prog 22 = some false := by kernel_rfl
theorem zBp : WU Tryz.prog 23 = some false := by kernel_rfl
theorem zBZ : WU Tryz.prog 25 = some true := by kernel_rfl
theorem Ji : WU Tryz.prog 3 = some false := by kernel_rfl
theorem zF9 : WU Tryz.prog 4 = some false := by kernel_rfl
theorem zI4 : WU Tryz.prog 45 = some false := by kernel_rfl
theorem ag_47 : WU Tryz.prog 47 = some true := by kernel_rfl
theorem ag_49 : WU Tryz.prog 49 = some true := by kernel_rfl
theorem zCM : WU Tryz.prog 52 = some true := by kernel_rfl
theorem zF8 : WU Tryz.prog 57 = some false := by kernel_rfl
theorem ag_66 : WU Tryz.prog 66 = some false := by kernel_rfl
theorem ag_67 : WU Tryz.prog 67 = some false := by kernel_rfl
theorem zHO : WU Tryz.prog 78 = some false := by kernel_rfl
theorem zDA : WU Tryz.prog 80 = some true := by kernel_rfl
theorem ag_85 : WU Tryz.prog 85 = some false := by kernel_rfl
theorem zB2 : WU Tryz.prog 9 = some false := by kernel_rfl
theorem zCD : Vt Tryz.prog 109 = some 4 := by kernel_rfl
theorem sz_22 : Vt Tryz.prog 22 = some 1 := by kernel_rfl
theorem sz_23 : Vt Tryz.prog 23 = some 1 := by kernel_rfl
theorem WQ : Vt Tryz.prog 25 = some 3 := by kernel_rfl
theorem sz_3 : Vt Tryz.prog 3 = some 1 := by kernel_rfl
theorem sz_4 : Vt Tryz.prog 4 = some 1 := by kernel_rfl
theorem sz_45 : Vt Tryz.prog 45 = some 1 := by kernel_rfl
theorem zFU : Vt Tryz.prog 47 = some 2 := by kernel_rfl
theorem zIL : Vt Tryz.prog 49 = some 4 := by kernel_rfl
theorem zAZ : Vt Tryz.prog 52 = some 2 := by kernel_rfl
theorem sz_57 : Vt Tryz.prog 57 = some 1 := by kernel_rfl
theorem sz_66 : Vt Tryz.prog 66 = some 1 := by kernel_rfl
theorem sz_67 : Vt Tryz.prog 67 = some 1 := by kernel_rfl
theorem sz_78 : Vt Tryz.prog 78 = some 1 := by kernel_rfl
theorem Vu : Vt Tryz.prog 80 = some 8 := by kernel_rfl
theorem sz_85 : Vt Tryz.prog 85 = some 1 := by kernel_rfl
theorem sz_9 : Vt Tryz.prog 9 = some 1 := by kernel_rfl
theorem ze_109 : zeroOf Tryz.prog 109 = some [(.bool false), (.bool false), (.bool false), (.bool false)] := by kernel_rfl
theorem ze_25 : zeroOf Tryz.prog 25 = some [(.int .i64 0), (.slice none 0 0), (.slice none 0 0)] := by kernel_rfl
theorem ze_4 : zeroOf Tryz.prog 4 = some [(.bool false)] := by kernel_rfl
theorem ze_47 : zeroOf Tryz.prog 47 = some [(.string ⟨#[]⟩), (.slice none 0 0)] := by kernel_rfl
theorem ze_49 : zeroOf Tryz.prog 49 = some [(.int .i64 0), (.int .i64 0), (.int .i64 0), (.int .i64 0)] := by kernel_rfl
theorem ze_52 : zeroOf Tryz.prog 52 = some [(.int .i64 0), (.int .i64 0)] := by kernel_rfl
theorem zFO : zeroOf Tryz.prog 80 = some [(.int .i64 0), (.string ⟨#[]⟩), (.int .i64 0), (.int .i64 0), (.slice none 0 0), (.int .i64 0), (.int .i64 0), (.slice none 0 0)] := by kernel_rfl
theorem zb_39 : zeroOf Tryz.prog 39 = some [.pointer none, .slice none 0 0] := by kernel_rfl
theorem zl_3 : (zeroOf Tryz.prog 3).map List.length = some 1 := by kernel_rfl
theorem zl_4 : (zeroOf Tryz.prog 4).map List.length = some 1 := by kernel_rfl
theorem zl_47 : (zeroOf Tryz.prog 47).map List.length = some 2 := by kernel_rfl
theorem zl_49 : (zeroOf Tryz.prog 49).map List.length = some 4 := by kernel_rfl
theorem zl_52 : (zeroOf Tryz.prog 52).map List.length = some 2 := by kernel_rfl
theorem zl_80 : (zeroOf Tryz.prog 80).map List.length = some 8 := by kernel_rfl
theorem zl_85 : (zeroOf Tryz.prog 85).map List.length = some 1 := by kernel_rfl
theorem zl_9 : (zeroOf Tryz.prog 9).map List.length = some 1 := by kernel_rfl
theorem by_3 : (Tryz.prog.info? 3).map (·.bytes) = some 8 := by kernel_rfl
theorem by_4 : (Tryz.prog.info? 4).map (·.bytes) = some 1 := by kernel_rfl
theorem by_47 : (Tryz.prog.info? 47).map (·.bytes) = some 40 := by kernel_rfl
theorem by_49 : (Tryz.prog.info? 49).map (·.bytes) = some 32 := by kernel_rfl
theorem by_52 : (Tryz.prog.info? 52).map (·.bytes) = some 16 := by kernel_rfl
theorem by_80 : (Tryz.prog.info? 80).map (·.bytes) = some 104 := by kernel_rfl
theorem by_85 : (Tryz.prog.info? 85).map (·.bytes) = some 8 := by kernel_rfl
theorem by_9 : (Tryz.prog.info? 9).map (·.bytes) = some 16 := by kernel_rfl
theorem fo_109_0 : JG Tryz.prog 109 0 = some 0 := by kernel_rfl
theorem fo_109_1 : JG Tryz.prog 109 1 = some 1 := by kernel_rfl
theorem fo_109_2 : JG Tryz.prog 109 2 = some 2 := by kernel_rfl
theorem fo_109_3 : JG Tryz.prog 109 3 = some 3 := by kernel_rfl
theorem zBy : JG Tryz.prog 25 0 = some 0 := by kernel_rfl
theorem Wj : JG Tryz.prog 25 1 = some 1 := by kernel_rfl
theorem zDa : JG Tryz.prog 25 2 = some 2 := by kernel_rfl
theorem zDZ : JG Tryz.prog 47 0 = some 0 := by kernel_rfl
theorem zCb : JG Tryz.prog 47 1 = some 1 := by kernel_rfl
theorem fo_49_0 : JG Tryz.prog 49 0 = some 0 := by kernel_rfl
theorem fo_49_1 : JG Tryz.prog 49 1 = some 1 := by kernel_rfl
theorem fo_49_2 : JG Tryz.prog 49 2 = some 2 := by kernel_rfl
theorem fo_49_3 : JG Tryz.prog 49 3 = some 3 := by kernel_rfl
theorem zHf : JG Tryz.prog 52 0 = some 0 := by kernel_rfl
theorem zHe : JG Tryz.prog 52 1 = some 1 := by kernel_rfl
theorem zDY : JG Tryz.prog 59 0 = some 0 := by kernel_rfl
theorem zFy : JG Tryz.prog 59 1 = some 3 := by kernel_rfl
theorem zAp : JG Tryz.prog 59 2 = some 4 := by kernel_rfl
theorem fo_59_3 : JG Tryz.prog 59 3 = some 5 := by kernel_rfl
theorem fo_69_0 : JG Tryz.prog 69 0 = some 0 := by kernel_rfl
theorem fo_69_1 : JG Tryz.prog 69 1 = some 1 := by kernel_rfl
theorem fo_69_2 : JG Tryz.prog 69 2 = some 2 := by kernel_rfl
theorem fo_69_3 : JG Tryz.prog 69 3 = some 3 := by kernel_rfl
theorem zDX : JG Tryz.prog 80 0 = some 0 := by kernel_rfl
theorem zFx : JG Tryz.prog 80 1 = some 1 := by kernel_rfl
theorem zBx : JG Tryz.prog 80 2 = some 2 := by kernel_rfl
theorem zBw : JG Tryz.prog 80 3 = some 4 := by kernel_rfl
theorem zEe : JG Tryz.prog 80 4 = some 5 := by kernel_rfl
theorem zEd : JG Tryz.prog 80 5 = some 6 := by kernel_rfl
theorem zAS : JG Tryz.prog 80 6 = some 7 := by kernel_rfl
theorem zHJ : elemOf? Tryz.prog 22 = some (47, 2) := by kernel_rfl
theorem zIr : elemOf? Tryz.prog 23 = some (80, 8) := by kernel_rfl
theorem el_45 : elemOf? Tryz.prog 45 = some (49, 4) := by kernel_rfl
theorem el_57 : elemOf? Tryz.prog 57 = some (85, 1) := by kernel_rfl
theorem zCc : elemOf? Tryz.prog 66 = some (9, 1) := by kernel_rfl
theorem el_67 : elemOf? Tryz.prog 67 = some (4, 1) := by kernel_rfl
theorem zC7 : elemOf? Tryz.prog 70 = some (3, 1) := by kernel_rfl
theorem zJv : elemOf? Tryz.prog 78 = some (52, 2) := by kernel_rfl
theorem zG2 : Tryz.prog.underlying 22 = some (.slice 47) := by kernel_rfl
theorem zCU : Tryz.prog.underlying 23 = some (.slice 80) := by kernel_rfl
theorem un_4 : Tryz.prog.underlying 4 = some (.bool) := by kernel_rfl
theorem zG1 : Tryz.prog.underlying 45 = some (.slice 49) := by kernel_rfl
theorem un_57 : Tryz.prog.underlying 57 = some (.slice 85) := by kernel_rfl
theorem un_66 : Tryz.prog.underlying 66 = some (.slice 9) := by kernel_rfl
theorem un_67 : Tryz.prog.underlying 67 = some (.slice 4) := by kernel_rfl
theorem zFS : Tryz.prog.underlying 70 = some (.slice 3) := by kernel_rfl
theorem zD7 : Tryz.prog.underlying 78 = some (.slice 52) := by kernel_rfl
theorem zFR : Tryz.prog.underlying 9 = some (.string) := by kernel_rfl
def zDb (a b : JO) : Bool := (a.X0 == b.X0) && ((a.Y0 == b.Y0) && ((a.X1 == b.X1) && ((a.Y1 == b.Y1) && true)))
theorem eqTRect_iff {a b : JO} : zDb a b = true ↔ a = b := by
  cases a; cases b; simp [zDb, WA]
theorem eqr_49 (a b : JO) (d : Nat) (W : World) : (Op.equalIn (d + 2) 49 (.agg #[(.int .i64 a.X0), (.int .i64 a.Y0), (.int .i64 a.X1), (.int .i64 a.Y1)]) (.agg #[(.int .i64 b.X0), (.int .i64 b.Y0), (.int .i64 b.X1), (.int .i64 b.Y1)])).run Tryz.prog W = .ok (zDb a b) W := by
  rw [show d + 2 = (d + 1) + 1 from rfl, run_equalIn_struct W _ 49 _ _ (by kernel_rfl) (by kernel_rfl)]
  simp only [Program.fieldsOf, Tryz.underlying49]
  exact zC6 rfl (zDr Ji rfl) (zDr Ji rfl) (zGr Tryz.underlying3) (zC6 rfl (zDr Ji rfl) (zDr Ji rfl) (zGr Tryz.underlying3) (zC6 rfl (zDr Ji rfl) (zDr Ji rfl) (zGr Tryz.underlying3) (zC6 rfl (zDr Ji rfl) (zDr Ji rfl) (zGr Tryz.underlying3) (eqF_nil))))
theorem run_eql_49 {ρ : Operand → Value} {W : World} {dd : Option Tmp} {ty T' : TypeId} {pos : String} {af : Array Edge} {g : Option (Nat × Bool)} {p q : Operand} (a b : JO) (hp : ρ p = .agg #[(.int .i64 a.X0), (.int .i64 a.Y0), (.int .i64 a.X1), (.int .i64 a.Y1)]) (hq : ρ q = .agg #[(.int .i64 b.X0), (.int .i64 b.Y0), (.int .i64 b.X1), (.int .i64 b.Y1)]) : (execOp ρ ⟨dd, .binOp .eql 49 p q T', ty, pos, af, g⟩).run Tryz.prog W = .ok (.value (.bool (zDb a b))) W :=
  run_eqlG (m := 9998 + 2) rfl (by kernel_rfl) (eqr_49 a b 9998 W) hp hq
theorem run_neq_49 {ρ : Operand → Value} {W : World} {dd : Option Tmp} {ty T' : TypeId} {pos : String} {af : Array Edge} {g : Option (Nat × Bool)} {p q : Operand} (a b : JO) (hp : ρ p = .agg #[(.int .i64 a.X0), (.int .i64 a.Y0), (.int .i64 a.X1), (.int .i64 a.Y1)]) (hq : ρ q = .agg #[(.int .i64 b.X0), (.int .i64 b.Y0), (.int .i64 b.X1), (.int .i64 b.Y1)]) : (execOp ρ ⟨dd, .binOp .neq 49 p q T', ty, pos, af, g⟩).run Tryz.prog W = .ok (.value (.bool (!zDb a b))) W :=
  run_neqG (m := 9998 + 2) rfl (by kernel_rfl) (eqr_49 a b 9998 W) hp hq
def JN (a b : zU) : Bool := (a.X == b.X) && ((a.Y == b.Y) && true)
theorem zDc {a b : zU} : JN a b = true ↔ a = b := by
  cases a; cases b; simp [JN, WA]
theorem eqr_52 (a b : zU) (d : Nat) (W : World) : (Op.equalIn (d + 2) 52 (.agg #[(.int .i64 a.X), (.int .i64 a.Y)]) (.agg #[(.int .i64 b.X), (.int .i64 b.Y)])).run Tryz.prog W = .ok (JN a b) W := by
  rw [show d + 2 = (d + 1) + 1 from rfl, run_equalIn_struct W _ 52 _ _ (by kernel_rfl) (by kernel_rfl)]
  simp only [Program.fieldsOf, Tryz.underlying52]
  exact zC6 rfl (zDr Ji rfl) (zDr Ji rfl) (zGr Tryz.underlying3) (zC6 rfl (zDr Ji rfl) (zDr Ji rfl) (zGr Tryz.underlying3) (eqF_nil))
theorem run_eql_52 {ρ : Operand → Value} {W : World} {dd : Option Tmp} {ty T' : TypeId} {pos : String} {af : Array Edge} {g : Option (Nat × Bool)} {p q : Operand} (a b : zU) (hp : ρ p = .agg #[(.int .i64 a.X), (.int .i64 a.Y)]) (hq : ρ q = .agg #[(.int .i64 b.X), (.int .i64 b.Y)]) : (execOp ρ ⟨dd, .binOp .eql 52 p q T', ty, pos, af, g⟩).run Tryz.prog W = .ok (.value (.bool (JN a b))) W :=
  run_eqlG (m := 9998 + 2) rfl (by kernel_rfl) (eqr_52 a b 9998 W) hp hq
theorem zE2 {ρ : Operand → Value} {W : World} {dd : Option Tmp} {ty T' : TypeId} {pos : String} {af : Array Edge} {g : Option (Nat × Bool)} {p q : Operand} (a b : zU) (hp : ρ p = .agg #[(.int .i64 a.X), (.int .i64 a.Y)]) (hq : ρ q = .agg #[(.int .i64 b.X), (.int .i64 b.Y)]) : (execOp ρ ⟨dd, .binOp .neq 52 p q T', ty, pos, af, g⟩).run Tryz.prog W = .ok (.value (.bool (!JN a b))) W :=
  run_neqG (m := 9998 + 2) rfl (by kernel_rfl) (eqr_52 a b 9998 W) hp hq
end Go.Proofs.YtokanbmnoghafaaGreatDoor
