/- Types of the data, and closed facts of the program's table of types. -/
import Derived.Test.YtokanbmnoghafaaGreatDoorProg
import Derived.Test.YtokanbmnoghafaaGreatDoorJ2
import Derived.Test.YtokanbmnoghafaaGreatDoorSH
namespace Go.Proofs.YtokanbmnoghafaaGreatDoor
open Go.RowKit
set_option maxRecDepth 100000
structure VS where
  X0 : Int
  Y0 : Int
  X1 : Int
  Y1 : Int
structure zt where
  Name : ByteArray
  Rects : (List VS)
structure zf where
  X : Int
  Y : Int
structure zD where
  Kind : Int
  Name : ByteArray
  At : zf
  Points : (List zf)
  NX : Int
  NY : Int
  Steps : (List zD)
structure QN where
  Unit : Int
  Tools : (List zt)
  Steps : (List zD)
structure QZ where
  p : QN
  unit : Bool
  open_ : (List zD)
  step : Bool
structure zCi where
  name : Bool
  at_ : Bool
  points : Bool
  repeat_ : Bool
structure zh where
  lines : (List ByteArray)
  ends : (List Bool)
  at_ : Int
  bad : Bool
def JG : Fl ByteArray := Fl.flat 1 (fun x => [(.string x)]) (fun _ => rfl) (fun _ u h => by
  simp at h
  subst h; rfl)
theorem Wq : ∀ u x, JG.enc u x = [(.string x)] := fun _ _ => rfl
theorem zJZ : JG.Tri := fun _ _ _ _ => trivial
def QT : Fl Int := Fl.flat 1 (fun x => [(.int .i64 x)]) (fun _ => rfl) (fun _ u h => by
  simp at h
  subst h; rfl)
theorem Vy : ∀ u x, QT.enc u x = [(.int .i64 x)] := fun _ _ => rfl
theorem zFb : QT.Tri := fun _ _ _ _ => trivial
def KW : Fl VS := Fl.flat 4 (fun x => [(.int .i64 x.X0), (.int .i64 x.Y0), (.int .i64 x.X1), (.int .i64 x.Y1)]) (fun _ => rfl) (fun _ u h => by
  simp at h
  rcases h with rfl | rfl | rfl | rfl <;> rfl)
theorem zFn : ∀ u x, KW.enc u x = [(.int .i64 x.X0), (.int .i64 x.Y0), (.int .i64 x.X1), (.int .i64 x.Y1)] := fun _ _ => rfl
theorem tr_TRect : KW.Tri := fun _ _ _ _ => trivial
def zQ : Fl zt where
  Ad := (Option Addr × Nat)
  sz := 2
  enc u x := [(.string x.Name), (.slice u.1 (x.Rects).length u.2)]
  ok S W u x := Sl S W KW u.1 u.2 x.Rects
  len _ _ := rfl
  one _ _ v h := by
    simp at h
    rcases h with rfl | rfl <;> rfl
  loc h hs hb := h.go hs hb
def QM : Fl zf := Fl.flat 2 (fun x => [(.int .i64 x.X), (.int .i64 x.Y)]) (fun _ => rfl) (fun _ u h => by
  simp at h
  rcases h with rfl | rfl <;> rfl)
theorem zBJ : ∀ u x, QM.enc u x = [(.int .i64 x.X), (.int .i64 x.Y)] := fun _ _ => rfl
theorem tr_TPoint : QM.Tri := fun _ _ _ _ => trivial
def zGJ : FlR zD where
  Ad := (Option Addr × Nat) × (Option Addr × Nat)
  sz := 8
  enc u x := [(.int .i64 x.Kind), (.string x.Name), (.int .i64 x.At.X), (.int .i64 x.At.Y), (.slice u.1.1 (x.Points).length u.1.2), (.int .i64 x.NX), (.int .i64 x.NY), (.slice u.2.1 (x.Steps).length u.2.2)]
  okb S W u x := Sl S W QM u.1.1 u.1.2 x.Points
  ua u := u.2
  sub x := x.Steps
  len _ _ := rfl
  one _ _ v h := by
    simp at h
    rcases h with rfl | rfl | rfl | rfl | rfl | rfl | rfl | rfl <;> rfl
  loc h hs hb := h.go hs hb
def zC : Fl zD := zGJ.fix
theorem Jc {S : Nat → Prop} {W : World} {u : (Option Addr × Nat) × (Option Addr × Nat)} {x : zD} : zC.ok S W u x ↔ Sl S W QM u.1.1 u.1.2 x.Points ∧ Sl S W zC u.2.1 u.2.2 x.Steps :=
  FlR.fix_ok zGJ
def VX : Fl Bool := Fl.flat 1 (fun x => [(.bool x)]) (fun _ => rfl) (fun _ u h => by
  simp at h
  subst h; rfl)
theorem ef_bool : ∀ u x, VX.enc u x = [(.bool x)] := fun _ _ => rfl
theorem tr_bool : VX.Tri := fun _ _ _ _ => trivial
def zS : Lens zC zC where
  get x := x.Steps
  ga u := u.2
  okR S W u x := Sl S W QM u.1.1 u.1.2 x.Points
  ok S W u x h1 h2 := Jc.2 ⟨h1, h2⟩
  locR h hs hb := h.go hs hb
theorem ag_109 : zAp Tryz.prog 109 = some true := by kernel_rfl
theorem zBp : zAp Tryz.prog 22 = some false := by kernel_rfl
theorem zBR : zAp Tryz.prog 23 = some false := by kernel_rfl
theorem WY : zAp Tryz.prog 25 = some true := by kernel_rfl
theorem Qu : zAp Tryz.prog 3 = some false := by kernel_rfl
theorem zFt : zAp Tryz.prog 4 = some false := by kernel_rfl
theorem zHZ : zAp Tryz.prog 45 = some false := by kernel_rfl
theorem ag_47 : zAp Tryz.prog 47 = some true := by kernel_rfl
theorem ag_49 : zAp Tryz.prog 49 = some true := by kernel_rfl
theorem zBo : zAp Tryz.prog 52 = some true := by kernel_rfl
theorem zHY : zAp Tryz.prog 57 = some false := by kernel_rfl
theorem ag_66 : zAp Tryz.prog 66 = some false := by kernel_rfl
theorem ag_67 : zAp Tryz.prog 67 = some false := by kernel_rfl
theorem zFs : zAp Tryz.prog 78 = some false := by kernel_rfl
theorem zDA : zAp Tryz.prog 80 = some true := by kernel_rfl
theorem ag_85 : zAp Tryz.prog 85 = some false := by kernel_rfl
theorem zAR : zAp Tryz.prog 9 = some false := by kernel_rfl
theorem zDR : zAa Tryz.prog 109 = some 4 := by kernel_rfl
theorem sz_22 : zAa Tryz.prog 22 = some 1 := by kernel_rfl
theorem sz_23 : zAa Tryz.prog 23 = some 1 := by kernel_rfl
theorem Kb : zAa Tryz.prog 25 = some 3 := by kernel_rfl
theorem zJa : zAa Tryz.prog 3 = some 1 := by kernel_rfl
theorem sz_4 : zAa Tryz.prog 4 = some 1 := by kernel_rfl
theorem sz_45 : zAa Tryz.prog 45 = some 1 := by kernel_rfl
theorem zDo : zAa Tryz.prog 47 = some 2 := by kernel_rfl
theorem zGH : zAa Tryz.prog 49 = some 4 := by kernel_rfl
theorem Wx : zAa Tryz.prog 52 = some 2 := by kernel_rfl
theorem sz_57 : zAa Tryz.prog 57 = some 1 := by kernel_rfl
theorem sz_66 : zAa Tryz.prog 66 = some 1 := by kernel_rfl
theorem sz_67 : zAa Tryz.prog 67 = some 1 := by kernel_rfl
theorem sz_78 : zAa Tryz.prog 78 = some 1 := by kernel_rfl
theorem Wo : zAa Tryz.prog 80 = some 8 := by kernel_rfl
theorem sz_85 : zAa Tryz.prog 85 = some 1 := by kernel_rfl
theorem sz_9 : zAa Tryz.prog 9 = some 1 := by kernel_rfl
theorem ze_109 : zeroOf Tryz.prog 109 = some [(.bool false), (.bool false), (.bool false), (.bool false)] := by kernel_rfl
theorem ze_25 : zeroOf Tryz.prog 25 = some [(.int .i64 0), (.slice none 0 0), (.slice none 0 0)] := by kernel_rfl
theorem ze_4 : zeroOf Tryz.prog 4 = some [(.bool false)] := by kernel_rfl
theorem ze_47 : zeroOf Tryz.prog 47 = some [(.string ⟨#[]⟩), (.slice none 0 0)] := by kernel_rfl
theorem ze_49 : zeroOf Tryz.prog 49 = some [(.int .i64 0), (.int .i64 0), (.int .i64 0), (.int .i64 0)] := by kernel_rfl
theorem zJQ : zeroOf Tryz.prog 52 = some [(.int .i64 0), (.int .i64 0)] := by kernel_rfl
theorem zGG : zeroOf Tryz.prog 80 = some [(.int .i64 0), (.string ⟨#[]⟩), (.int .i64 0), (.int .i64 0), (.slice none 0 0), (.int .i64 0), (.int .i64 0), (.slice none 0 0)] := by kernel_rfl
theorem zb_39 : zeroOf Tryz.prog 39 = some [.pointer none, .slice none 0 0] := by kernel_rfl
theorem zl_3 : (zeroOf Tryz.prog 3).map List.length = some 1 := by kernel_rfl
theorem zl_4 : (zeroOf Tryz.prog 4).map List.length = some 1 := by kernel_rfl
theorem zl_47 : (zeroOf Tryz.prog 47).map List.length = some 2 := by kernel_rfl
theorem zl_49 : (zeroOf Tryz.prog 49).map List.length = some 4 := by kernel_rfl
theorem zl_52 : (zeroOf Tryz.prog 52).map List.length = some 2 := by kernel_rfl
theorem zl_80 : (zeroOf Tryz.prog 80).map List.length = some 8 := by kernel_rfl
theorem zl_85 : (zeroOf Tryz.prog 85).map List.length = some 1 := by kernel_rfl
theorem zl_9 : (zeroOf Tryz.prog 9).map List.length = some 1 := by kernel_rfl
theorem by_3 : (Tryz.prog.info? 3).map (·.bytes) = some 8 := by kernel_rfl
theorem by_4 : (Tryz.prog.info? 4).map (·.bytes) = some 1 := by kernel_rfl
theorem by_47 : (Tryz.prog.info? 47).map (·.bytes) = some 40 := by kernel_rfl
theorem by_49 : (Tryz.prog.info? 49).map (·.bytes) = some 32 := by kernel_rfl
theorem by_52 : (Tryz.prog.info? 52).map (·.bytes) = some 16 := by kernel_rfl
theorem by_80 : (Tryz.prog.info? 80).map (·.bytes) = some 104 := by kernel_rfl
theorem by_85 : (Tryz.prog.info? 85).map (·.bytes) = some 8 := by kernel_rfl
theorem by_9 : (Tryz.prog.info? 9).map (·.bytes) = some 16 := by kernel_rfl
theorem fo_109_0 : KM Tryz.prog 109 0 = some 0 := by kernel_rfl
theorem fo_109_1 : KM Tryz.prog 109 1 = some 1 := by kernel_rfl
theorem fo_109_2 : KM Tryz.prog 109 2 = some 2 := by kernel_rfl
theorem fo_109_3 : KM Tryz.prog 109 3 = some 3 := by kernel_rfl
theorem zBe : KM Tryz.prog 25 0 = some 0 := by kernel_rfl
theorem Vl : KM Tryz.prog 25 1 = some 1 := by kernel_rfl
theorem zCg : KM Tryz.prog 25 2 = some 2 := by kernel_rfl
theorem zCA : KM Tryz.prog 47 0 = some 0 := by kernel_rfl
theorem zB9 : KM Tryz.prog 47 1 = some 1 := by kernel_rfl
theorem zHL : KM Tryz.prog 49 0 = some 0 := by kernel_rfl
theorem zHK : KM Tryz.prog 49 1 = some 1 := by kernel_rfl
theorem zHJ : KM Tryz.prog 49 2 = some 2 := by kernel_rfl
theorem zHI : KM Tryz.prog 49 3 = some 3 := by kernel_rfl
theorem zE4 : KM Tryz.prog 52 0 = some 0 := by kernel_rfl
theorem zE3 : KM Tryz.prog 52 1 = some 1 := by kernel_rfl
theorem zE2 : KM Tryz.prog 59 0 = some 0 := by kernel_rfl
theorem zHH : KM Tryz.prog 59 1 = some 3 := by kernel_rfl
theorem zB8 : KM Tryz.prog 59 2 = some 4 := by kernel_rfl
theorem fo_59_3 : KM Tryz.prog 59 3 = some 5 := by kernel_rfl
theorem zF6 : KM Tryz.prog 69 0 = some 0 := by kernel_rfl
theorem fo_69_1 : KM Tryz.prog 69 1 = some 1 := by kernel_rfl
theorem zBI : KM Tryz.prog 69 2 = some 2 := by kernel_rfl
theorem zIt : KM Tryz.prog 69 3 = some 3 := by kernel_rfl
theorem zBd : KM Tryz.prog 80 0 = some 0 := by kernel_rfl
theorem zE1 : KM Tryz.prog 80 1 = some 1 := by kernel_rfl
theorem zBH : KM Tryz.prog 80 2 = some 2 := by kernel_rfl
theorem zBG : KM Tryz.prog 80 3 = some 4 := by kernel_rfl
theorem zB7 : KM Tryz.prog 80 4 = some 5 := by kernel_rfl
theorem zB6 : KM Tryz.prog 80 5 = some 6 := by kernel_rfl
theorem zAB : KM Tryz.prog 80 6 = some 7 := by kernel_rfl
theorem zFm : elemOf? Tryz.prog 22 = some (47, 2) := by kernel_rfl
theorem zDt : elemOf? Tryz.prog 23 = some (80, 8) := by kernel_rfl
theorem el_45 : elemOf? Tryz.prog 45 = some (49, 4) := by kernel_rfl
theorem el_57 : elemOf? Tryz.prog 57 = some (85, 1) := by kernel_rfl
theorem zAP : elemOf? Tryz.prog 66 = some (9, 1) := by kernel_rfl
theorem el_67 : elemOf? Tryz.prog 67 = some (4, 1) := by kernel_rfl
theorem zAb : elemOf? Tryz.prog 70 = some (3, 1) := by kernel_rfl
theorem zHN : elemOf? Tryz.prog 78 = some (52, 2) := by kernel_rfl
theorem zFJ : Tryz.prog.underlying 22 = some (.slice 47) := by kernel_rfl
theorem zBx : Tryz.prog.underlying 23 = some (.slice 80) := by kernel_rfl
theorem un_4 : Tryz.prog.underlying 4 = some (.bool) := by kernel_rfl
theorem zFI : Tryz.prog.underlying 45 = some (.slice 49) := by kernel_rfl
theorem un_57 : Tryz.prog.underlying 57 = some (.slice 85) := by kernel_rfl
theorem zFZ : Tryz.prog.underlying 66 = some (.slice 9) := by kernel_rfl
theorem un_67 : Tryz.prog.underlying 67 = some (.slice 4) := by kernel_rfl
theorem zEH : Tryz.prog.underlying 70 = some (.slice 3) := by kernel_rfl
theorem zCM : Tryz.prog.underlying 78 = some (.slice 52) := by kernel_rfl
theorem zBw : Tryz.prog.underlying 9 = some (.string) := by kernel_rfl
def zE5 (a b : VS) : Bool := (a.X0 == b.X0) && ((a.Y0 == b.Y0) && ((a.X1 == b.X1) && ((a.Y1 == b.Y1) && true)))
theorem eqTRect_iff {a b : VS} : zE5 a b = true ↔ a = b := by
  cases a; cases b; simp [zE5, zBE]
theorem eqr_49 (a b : VS) (d : Nat) (W : World) : (Op.equalIn (d + 2) 49 (.agg #[(.int .i64 a.X0), (.int .i64 a.Y0), (.int .i64 a.X1), (.int .i64 a.Y1)]) (.agg #[(.int .i64 b.X0), (.int .i64 b.Y0), (.int .i64 b.X1), (.int .i64 b.Y1)])).run Tryz.prog W = .ok (zE5 a b) W := by
  rw [show d + 2 = (d + 1) + 1 from rfl, run_equalIn_struct W _ 49 _ _ (by kernel_rfl) (by kernel_rfl)]
  simp only [Program.fieldsOf, Tryz.underlying49]
  exact zEU rfl (zFK Qu rfl) (zFK Qu rfl) (zIH Tryz.underlying3) (zEU rfl (zFK Qu rfl) (zFK Qu rfl) (zIH Tryz.underlying3) (zEU rfl (zFK Qu rfl) (zFK Qu rfl) (zIH Tryz.underlying3) (zEU rfl (zFK Qu rfl) (zFK Qu rfl) (zIH Tryz.underlying3) (eqF_nil))))
theorem run_eql_49 {ρ : Operand → Value} {W : World} {dd : Option Tmp} {ty T' : TypeId} {pos : String} {af : Array Edge} {g : Option (Nat × Bool)} {p q : Operand} (a b : VS) (hp : ρ p = .agg #[(.int .i64 a.X0), (.int .i64 a.Y0), (.int .i64 a.X1), (.int .i64 a.Y1)]) (hq : ρ q = .agg #[(.int .i64 b.X0), (.int .i64 b.Y0), (.int .i64 b.X1), (.int .i64 b.Y1)]) : (execOp ρ ⟨dd, .binOp .eql 49 p q T', ty, pos, af, g⟩).run Tryz.prog W = .ok (.value (.bool (zE5 a b))) W :=
  run_eqlG (m := 9998 + 2) rfl (by kernel_rfl) (eqr_49 a b 9998 W) hp hq
theorem run_neq_49 {ρ : Operand → Value} {W : World} {dd : Option Tmp} {ty T' : TypeId} {pos : String} {af : Array Edge} {g : Option (Nat × Bool)} {p q : Operand} (a b : VS) (hp : ρ p = .agg #[(.int .i64 a.X0), (.int .i64 a.Y0), (.int .i64 a.X1), (.int .i64 a.Y1)]) (hq : ρ q = .agg #[(.int .i64 b.X0), (.int .i64 b.Y0), (.int .i64 b.X1), (.int .i64 b.Y1)]) : (execOp ρ ⟨dd, .binOp .neq 49 p q T', ty, pos, af, g⟩).run Tryz.prog W = .ok (.value (.bool (!zE5 a b))) W :=
  run_neqG (m := 9998 + 2) rfl (by kernel_rfl) (eqr_49 a b 9998 W) hp hq
def JP (a b : zf) : Bool := (a.X == b.X) && ((a.Y == b.Y) && true)
theorem zHM {a b : zf} : JP a b = true ↔ a = b := by
  cases a; cases b; simp [JP, zBE]
theorem eqr_52 (a b : zf) (d : Nat) (W : World) : (Op.equalIn (d + 2) 52 (.agg #[(.int .i64 a.X), (.int .i64 a.Y)]) (.agg #[(.int .i64 b.X), (.int .i64 b.Y)])).run Tryz.prog W = .ok (JP a b) W := by
  rw [show d + 2 = (d + 1) + 1 from rfl, run_equalIn_struct W _ 52 _ _ (by kernel_rfl) (by kernel_rfl)]
  simp only [Program.fieldsOf, Tryz.underlying52]
  exact zEU rfl (zFK Qu rfl) (zFK Qu rfl) (zIH Tryz.underlying3) (zEU rfl (zFK Qu rfl) (zFK Qu rfl) (zIH Tryz.underlying3) (eqF_nil))
theorem run_eql_52 {ρ : Operand → Value} {W : World} {dd : Option Tmp} {ty T' : TypeId} {pos : String} {af : Array Edge} {g : Option (Nat × Bool)} {p q : Operand} (a b : zf) (hp : ρ p = .agg #[(.int .i64 a.X), (.int .i64 a.Y)]) (hq : ρ q = .agg #[(.int .i64 b.X), (.int .i64 b.Y)]) : (execOp ρ ⟨dd, .binOp .eql 52 p q T', ty, pos, af, g⟩).run Tryz.prog W = .ok (.value (.bool (JP a b))) W :=
  run_eqlG (m := 9998 + 2) rfl (by kernel_rfl) (eqr_52 a b 9998 W) hp hq
theorem zGa {ρ : Operand → Value} {W : World} {dd : Option Tmp} {ty T' : TypeId} {pos : String} {af : Array Edge} {g : Option (Nat × Bool)} {p q : Operand} (a b : zf) (hp : ρ p = .agg #[(.int .i64 a.X), (.int .i64 a.Y)]) (hq : ρ q = .agg #[(.int .i64 b.X), (.int .i64 b.Y)]) : (execOp ρ ⟨dd, .binOp .neq 52 p q T', ty, pos, af, g⟩).run Tryz.prog W = .ok (.value (.bool (!JP a b))) W :=
  run_neqG (m := 9998 + 2) rfl (by kernel_rfl) (eqr_52 a b 9998 W) hp hq
end Go.Proofs.YtokanbmnoghafaaGreatDoor
