/- Types of the data, and closed facts of the program's table of types. -/
import Derived.Test.YtoageaoknnnfbaaGreatDoorProg
import Derived.Test.YtoageaoknnnfbaaGreatDoorJ2
import Derived.Test.YtoageaoknnnfbaaGreatDoorSH
namespace Go.Proofs.YtoageaoknnnfbaaGreatDoor
open Go.RowKit
set_option maxRecDepth 100000
structure zT where
  X0 : Int
  Y0 : Int
  X1 : Int
  Y1 : Int
structure zS where
  Name : ByteArray
  Rects : (List zT)
structure zI where
  X : Int
  Y : Int
structure zD where
  Kind : Int
  Name : ByteArray
  At : zI
  Points : (List zI)
  NX : Int
  NY : Int
  Steps : (List zD)
structure zDf where
  name : Bool
  at_ : Bool
  points : Bool
  repeat_ : Bool
structure zt where
  Unit : Int
  Tools : (List zS)
  Steps : (List zD)
structure zV where
  Y0 : Int
  Y1 : Int
  Xs : (List Int)
structure zAA where
  p : zt
  tools : (List (List zV))
  image : (List zV)
  clear : Bool
  tool : Int
  place : zI
  placed : Bool
  off : Int
  on : Int
def zN : Fl zT := Fl.flat 4 (fun x => [(.int .i64 x.X0), (.int .i64 x.Y0), (.int .i64 x.X1), (.int .i64 x.Y1)]) (fun _ => rfl) (fun _ u h => by
  simp at h
  rcases h with rfl | rfl | rfl | rfl <;> rfl)
theorem VM : ∀ u x, zN.enc u x = [(.int .i64 x.X0), (.int .i64 x.Y0), (.int .i64 x.X1), (.int .i64 x.Y1)] := fun _ _ => rfl
theorem zBl : zN.Tri := fun _ _ _ _ => trivial
def zy : Fl zI := Fl.flat 2 (fun x => [(.int .i64 x.X), (.int .i64 x.Y)]) (fun _ => rfl) (fun _ u h => by
  simp at h
  rcases h with rfl | rfl <;> rfl)
theorem zAm : ∀ u x, zy.enc u x = [(.int .i64 x.X), (.int .i64 x.Y)] := fun _ _ => rfl
theorem zIK : zy.Tri := fun _ _ _ _ => trivial
def zJB : FlR zD where
  Ad := (Option Addr × Nat) × (Option Addr × Nat)
  sz := 8
  enc u x := [(.int .i64 x.Kind), (.string x.Name), (.int .i64 x.At.X), (.int .i64 x.At.Y), (.slice u.1.1 (x.Points).length u.1.2), (.int .i64 x.NX), (.int .i64 x.NY), (.slice u.2.1 (x.Steps).length u.2.2)]
  okb S W u x := Sl S W zy u.1.1 u.1.2 x.Points
  ua u := u.2
  sub x := x.Steps
  len _ _ := rfl
  one _ _ v h := by
    simp at h
    rcases h with rfl | rfl | rfl | rfl | rfl | rfl | rfl | rfl <;> rfl
  loc h hs hb := h.go hs hb
def zG : Fl zD := zJB.fix
theorem Vh {S : Nat → Prop} {W : World} {u : (Option Addr × Nat) × (Option Addr × Nat)} {x : zD} : zG.ok S W u x ↔ Sl S W zy u.1.1 u.1.2 x.Points ∧ Sl S W zG u.2.1 u.2.2 x.Steps :=
  FlR.fix_ok zJB
def zK : Fl zS where
  Ad := (Option Addr × Nat)
  sz := 2
  enc u x := [(.string x.Name), (.slice u.1 (x.Rects).length u.2)]
  ok S W u x := Sl S W zN u.1 u.2 x.Rects
  len _ _ := rfl
  one _ _ v h := by
    simp at h
    rcases h with rfl | rfl <;> rfl
  loc h hs hb := h.go hs hb
def zn : Fl Int := Fl.flat 1 (fun x => [(.int .i64 x)]) (fun _ => rfl) (fun _ u h => by
  simp at h
  subst h; rfl)
theorem VZ : ∀ u x, zn.enc u x = [(.int .i64 x)] := fun _ _ => rfl
theorem tr_i64 : zn.Tri := fun _ _ _ _ => trivial
def zJ : Fl zV where
  Ad := (Option Addr × Nat)
  sz := 3
  enc u x := [(.int .i64 x.Y0), (.int .i64 x.Y1), (.slice u.1 (x.Xs).length u.2)]
  ok S W u x := Sl S W zn u.1 u.2 x.Xs
  len _ _ := rfl
  one _ _ v h := by
    simp at h
    rcases h with rfl | rfl | rfl <;> rfl
  loc h hs hb := h.go hs hb
def Qe : Fl (List zV) where
  Ad := (Option Addr × Nat)
  sz := 1
  enc u x := [(.slice u.1 (x).length u.2)]
  ok S W u x := Sl S W zJ u.1 u.2 x
  len _ _ := rfl
  one _ _ v h := by
    simp at h
    subst h; rfl
  loc h hs hb := h.go hs hb
def fl_LTPoint : Fl (List zI) where
  Ad := (Option Addr × Nat)
  sz := 1
  enc u x := [(.slice u.1 (x).length u.2)]
  ok S W u x := Sl S W zy u.1 u.2 x
  len _ _ := rfl
  one _ _ v h := by
    simp at h
    subst h; rfl
  loc h hs hb := h.go hs hb
theorem ag_107 : zAp Tryz.prog 107 = some true := by kernel_rfl
theorem ag_123 : zAp Tryz.prog 123 = some false := by kernel_rfl
theorem ag_149 : zAp Tryz.prog 149 = some true := by kernel_rfl
theorem zFn : zAp Tryz.prog 22 = some false := by kernel_rfl
theorem zDu : zAp Tryz.prog 23 = some false := by kernel_rfl
theorem WK : zAp Tryz.prog 25 = some true := by kernel_rfl
theorem QO : zAp Tryz.prog 3 = some false := by kernel_rfl
theorem zJG : zAp Tryz.prog 31 = some false := by kernel_rfl
theorem zCD : zAp Tryz.prog 36 = some true := by kernel_rfl
theorem zCT : zAp Tryz.prog 38 = some false := by kernel_rfl
theorem ag_4 : zAp Tryz.prog 4 = some false := by kernel_rfl
theorem KF : zAp Tryz.prog 43 = some true := by kernel_rfl
theorem zGU : zAp Tryz.prog 44 = some false := by kernel_rfl
theorem zKY : zAp Tryz.prog 46 = some true := by kernel_rfl
theorem ag_64 : zAp Tryz.prog 64 = some true := by kernel_rfl
theorem ag_66 : zAp Tryz.prog 66 = some false := by kernel_rfl
theorem ag_75 : zAp Tryz.prog 75 = some false := by kernel_rfl
theorem ag_88 : zAp Tryz.prog 88 = some false := by kernel_rfl
theorem zKX : zAp Tryz.prog 9 = some false := by kernel_rfl
theorem zHk : zA7 Tryz.prog 107 = some 3 := by kernel_rfl
theorem sz_123 : zA7 Tryz.prog 123 = some 1 := by kernel_rfl
theorem zEv : zA7 Tryz.prog 149 = some 4 := by kernel_rfl
theorem sz_23 : zA7 Tryz.prog 23 = some 1 := by kernel_rfl
theorem KR : zA7 Tryz.prog 25 = some 3 := by kernel_rfl
theorem zIz : zA7 Tryz.prog 3 = some 1 := by kernel_rfl
theorem sz_31 : zA7 Tryz.prog 31 = some 1 := by kernel_rfl
theorem Kv : zA7 Tryz.prog 36 = some 4 := by kernel_rfl
theorem sz_38 : zA7 Tryz.prog 38 = some 1 := by kernel_rfl
theorem sz_4 : zA7 Tryz.prog 4 = some 1 := by kernel_rfl
theorem JB : zA7 Tryz.prog 43 = some 2 := by kernel_rfl
theorem sz_44 : zA7 Tryz.prog 44 = some 1 := by kernel_rfl
theorem zEH : zA7 Tryz.prog 46 = some 8 := by kernel_rfl
theorem zJq : zA7 Tryz.prog 64 = some 2 := by kernel_rfl
theorem sz_66 : zA7 Tryz.prog 66 = some 1 := by kernel_rfl
theorem sz_75 : zA7 Tryz.prog 75 = some 1 := by kernel_rfl
theorem ze_107 : zeroOf Tryz.prog 107 = some [(.int .i64 0), (.int .i64 0), (.slice none 0 0)] := by kernel_rfl
theorem ze_123 : zeroOf Tryz.prog 123 = some [.nilFunc] := by kernel_rfl
theorem ze_149 : zeroOf Tryz.prog 149 = some [(.bool false), (.bool false), (.bool false), (.bool false)] := by kernel_rfl
theorem ze_25 : zeroOf Tryz.prog 25 = some [(.int .i64 0), (.slice none 0 0), (.slice none 0 0)] := by kernel_rfl
theorem ze_3 : zeroOf Tryz.prog 3 = some [(.int .i64 0)] := by kernel_rfl
theorem zF7 : zeroOf Tryz.prog 36 = some [(.int .i64 0), (.int .i64 0), (.int .i64 0), (.int .i64 0)] := by kernel_rfl
theorem ze_38 : zeroOf Tryz.prog 38 = some [(.slice none 0 0)] := by kernel_rfl
theorem ze_4 : zeroOf Tryz.prog 4 = some [(.bool false)] := by kernel_rfl
theorem zHe : zeroOf Tryz.prog 43 = some [(.int .i64 0), (.int .i64 0)] := by kernel_rfl
theorem ze_46 : zeroOf Tryz.prog 46 = some [(.int .i64 0), (.string ⟨#[]⟩), (.int .i64 0), (.int .i64 0), (.slice none 0 0), (.int .i64 0), (.int .i64 0), (.slice none 0 0)] := by kernel_rfl
theorem ze_64 : zeroOf Tryz.prog 64 = some [(.string ⟨#[]⟩), (.slice none 0 0)] := by kernel_rfl
theorem zb_95 : zeroOf Tryz.prog 95 = some [.pointer none, .slice none 0 0] := by kernel_rfl
theorem zl_107 : (zeroOf Tryz.prog 107).map List.length = some 3 := by kernel_rfl
theorem zl_3 : (zeroOf Tryz.prog 3).map List.length = some 1 := by kernel_rfl
theorem zl_36 : (zeroOf Tryz.prog 36).map List.length = some 4 := by kernel_rfl
theorem zl_43 : (zeroOf Tryz.prog 43).map List.length = some 2 := by kernel_rfl
theorem zl_46 : (zeroOf Tryz.prog 46).map List.length = some 8 := by kernel_rfl
theorem zl_64 : (zeroOf Tryz.prog 64).map List.length = some 2 := by kernel_rfl
theorem zl_66 : (zeroOf Tryz.prog 66).map List.length = some 1 := by kernel_rfl
theorem by_107 : (Tryz.prog.info? 107).map (·.bytes) = some 40 := by kernel_rfl
theorem by_3 : (Tryz.prog.info? 3).map (·.bytes) = some 8 := by kernel_rfl
theorem by_36 : (Tryz.prog.info? 36).map (·.bytes) = some 32 := by kernel_rfl
theorem by_43 : (Tryz.prog.info? 43).map (·.bytes) = some 16 := by kernel_rfl
theorem by_46 : (Tryz.prog.info? 46).map (·.bytes) = some 104 := by kernel_rfl
theorem by_64 : (Tryz.prog.info? 64).map (·.bytes) = some 40 := by kernel_rfl
theorem by_66 : (Tryz.prog.info? 66).map (·.bytes) = some 24 := by kernel_rfl
theorem zDt : JP Tryz.prog 107 0 = some 0 := by kernel_rfl
theorem zBr : JP Tryz.prog 107 1 = some 1 := by kernel_rfl
theorem zAk : JP Tryz.prog 107 2 = some 2 := by kernel_rfl
theorem fo_149_0 : JP Tryz.prog 149 0 = some 0 := by kernel_rfl
theorem fo_149_1 : JP Tryz.prog 149 1 = some 1 := by kernel_rfl
theorem fo_149_2 : JP Tryz.prog 149 2 = some 2 := by kernel_rfl
theorem fo_149_3 : JP Tryz.prog 149 3 = some 3 := by kernel_rfl
theorem Vg : JP Tryz.prog 25 0 = some 0 := by kernel_rfl
theorem zBZ : JP Tryz.prog 25 1 = some 1 := by kernel_rfl
theorem zGx : JP Tryz.prog 25 2 = some 2 := by kernel_rfl
theorem Wz : JP Tryz.prog 36 0 = some 0 := by kernel_rfl
theorem zCa : JP Tryz.prog 36 1 = some 1 := by kernel_rfl
theorem zC2 : JP Tryz.prog 36 2 = some 2 := by kernel_rfl
theorem zDX : JP Tryz.prog 36 3 = some 3 := by kernel_rfl
theorem VL : JP Tryz.prog 43 0 = some 0 := by kernel_rfl
theorem Kt : JP Tryz.prog 43 1 = some 1 := by kernel_rfl
theorem zGw : JP Tryz.prog 46 0 = some 0 := by kernel_rfl
theorem zIg : JP Tryz.prog 46 1 = some 1 := by kernel_rfl
theorem zB6 : JP Tryz.prog 46 2 = some 2 := by kernel_rfl
theorem zB5 : JP Tryz.prog 46 3 = some 4 := by kernel_rfl
theorem zGv : JP Tryz.prog 46 4 = some 5 := by kernel_rfl
theorem zGu : JP Tryz.prog 46 5 = some 6 := by kernel_rfl
theorem zC1 : JP Tryz.prog 46 6 = some 7 := by kernel_rfl
theorem zGt : JP Tryz.prog 64 0 = some 0 := by kernel_rfl
theorem zC0 : JP Tryz.prog 64 1 = some 1 := by kernel_rfl
theorem zKM : JP Tryz.prog 77 0 = some 0 := by kernel_rfl
theorem fo_77_1 : JP Tryz.prog 77 1 = some 3 := by kernel_rfl
theorem zIf : JP Tryz.prog 77 2 = some 4 := by kernel_rfl
theorem fo_77_3 : JP Tryz.prog 77 3 = some 5 := by kernel_rfl
theorem zKL : JP Tryz.prog 77 4 = some 6 := by kernel_rfl
theorem zGs : JP Tryz.prog 77 5 = some 7 := by kernel_rfl
theorem zKK : JP Tryz.prog 77 6 = some 9 := by kernel_rfl
theorem fo_77_7 : JP Tryz.prog 77 7 = some 10 := by kernel_rfl
theorem fo_77_8 : JP Tryz.prog 77 8 = some 11 := by kernel_rfl
theorem el_205 : elemOf? Tryz.prog 205 = some (44, 1) := by kernel_rfl
theorem zGQ : elemOf? Tryz.prog 22 = some (64, 2) := by kernel_rfl
theorem zH0 : elemOf? Tryz.prog 23 = some (46, 8) := by kernel_rfl
theorem zCR : elemOf? Tryz.prog 31 = some (36, 4) := by kernel_rfl
theorem zAR : elemOf? Tryz.prog 38 = some (3, 1) := by kernel_rfl
theorem zHz : elemOf? Tryz.prog 44 = some (43, 2) := by kernel_rfl
theorem zCB : elemOf? Tryz.prog 66 = some (107, 3) := by kernel_rfl
theorem el_75 : elemOf? Tryz.prog 75 = some (66, 1) := by kernel_rfl
theorem un_205 : Tryz.prog.underlying 205 = some (.slice 44) := by kernel_rfl
theorem zHi : Tryz.prog.underlying 22 = some (.slice 64) := by kernel_rfl
theorem zGC : Tryz.prog.underlying 23 = some (.slice 46) := by kernel_rfl
theorem zA0 : Tryz.prog.underlying 31 = some (.slice 36) := by kernel_rfl
theorem zCA : Tryz.prog.underlying 38 = some (.slice 3) := by kernel_rfl
theorem un_4 : Tryz.prog.underlying 4 = some (.bool) := by kernel_rfl
theorem zDn : Tryz.prog.underlying 44 = some (.slice 43) := by kernel_rfl
theorem zEE : Tryz.prog.underlying 66 = some (.slice 107) := by kernel_rfl
theorem un_75 : Tryz.prog.underlying 75 = some (.slice 66) := by kernel_rfl
theorem un_9 : Tryz.prog.underlying 9 = some (.string) := by kernel_rfl
def zEW (a b : zT) : Bool := (a.X0 == b.X0) && ((a.Y0 == b.Y0) && ((a.X1 == b.X1) && ((a.Y1 == b.Y1) && true)))
theorem zFe {a b : zT} : zEW a b = true ↔ a = b := by
  cases a; cases b; simp [zEW, zFX]
theorem eqr_36 (a b : zT) (d : Nat) (W : World) : (Op.equalIn (d + 2) 36 (.agg #[(.int .i64 a.X0), (.int .i64 a.Y0), (.int .i64 a.X1), (.int .i64 a.Y1)]) (.agg #[(.int .i64 b.X0), (.int .i64 b.Y0), (.int .i64 b.X1), (.int .i64 b.Y1)])).run Tryz.prog W = .ok (zEW a b) W := by
  rw [show d + 2 = (d + 1) + 1 from rfl, run_equalIn_struct W _ 36 _ _ (by kernel_rfl) (by kernel_rfl)]
  simp only [Program.fieldsOf, Tryz.underlying36]
  exact zGP rfl (zHH QO rfl) (zHH QO rfl) (eq_int Tryz.underlying3) (zGP rfl (zHH QO rfl) (zHH QO rfl) (eq_int Tryz.underlying3) (zGP rfl (zHH QO rfl) (zHH QO rfl) (eq_int Tryz.underlying3) (zGP rfl (zHH QO rfl) (zHH QO rfl) (eq_int Tryz.underlying3) (eqF_nil))))
theorem run_eql_36 {ρ : Operand → Value} {W : World} {dd : Option Tmp} {ty T' : TypeId} {pos : String} {af : Array Edge} {g : Option (Nat × Bool)} {p q : Operand} (a b : zT) (hp : ρ p = .agg #[(.int .i64 a.X0), (.int .i64 a.Y0), (.int .i64 a.X1), (.int .i64 a.Y1)]) (hq : ρ q = .agg #[(.int .i64 b.X0), (.int .i64 b.Y0), (.int .i64 b.X1), (.int .i64 b.Y1)]) : (execOp ρ ⟨dd, .binOp .eql 36 p q T', ty, pos, af, g⟩).run Tryz.prog W = .ok (.value (.bool (zEW a b))) W :=
  run_eqlG (m := 9998 + 2) rfl (by kernel_rfl) (eqr_36 a b 9998 W) hp hq
theorem run_neq_36 {ρ : Operand → Value} {W : World} {dd : Option Tmp} {ty T' : TypeId} {pos : String} {af : Array Edge} {g : Option (Nat × Bool)} {p q : Operand} (a b : zT) (hp : ρ p = .agg #[(.int .i64 a.X0), (.int .i64 a.Y0), (.int .i64 a.X1), (.int .i64 a.Y1)]) (hq : ρ q = .agg #[(.int .i64 b.X0), (.int .i64 b.Y0), (.int .i64 b.X1), (.int .i64 b.Y1)]) : (execOp ρ ⟨dd, .binOp .neq 36 p q T', ty, pos, af, g⟩).run Tryz.prog W = .ok (.value (.bool (!zEW a b))) W :=
  run_neqG (m := 9998 + 2) rfl (by kernel_rfl) (eqr_36 a b 9998 W) hp hq
def KD (a b : zI) : Bool := (a.X == b.X) && ((a.Y == b.Y) && true)
theorem zGy {a b : zI} : KD a b = true ↔ a = b := by
  cases a; cases b; simp [KD, zFX]
theorem eqr_43 (a b : zI) (d : Nat) (W : World) : (Op.equalIn (d + 2) 43 (.agg #[(.int .i64 a.X), (.int .i64 a.Y)]) (.agg #[(.int .i64 b.X), (.int .i64 b.Y)])).run Tryz.prog W = .ok (KD a b) W := by
  rw [show d + 2 = (d + 1) + 1 from rfl, run_equalIn_struct W _ 43 _ _ (by kernel_rfl) (by kernel_rfl)]
  simp only [Program.fieldsOf, Tryz.underlying43]
  exact zGP rfl (zHH QO rfl) (zHH QO rfl) (eq_int Tryz.underlying3) (zGP rfl (zHH QO rfl) (zHH QO rfl) (eq_int Tryz.underlying3) (eqF_nil))
theorem run_eql_43 {ρ : Operand → Value} {W : World} {dd : Option Tmp} {ty T' : TypeId} {pos : String} {af : Array Edge} {g : Option (Nat × Bool)} {p q : Operand} (a b : zI) (hp : ρ p = .agg #[(.int .i64 a.X), (.int .i64 a.Y)]) (hq : ρ q = .agg #[(.int .i64 b.X), (.int .i64 b.Y)]) : (execOp ρ ⟨dd, .binOp .eql 43 p q T', ty, pos, af, g⟩).run Tryz.prog W = .ok (.value (.bool (KD a b))) W :=
  run_eqlG (m := 9998 + 2) rfl (by kernel_rfl) (eqr_43 a b 9998 W) hp hq
theorem zJN {ρ : Operand → Value} {W : World} {dd : Option Tmp} {ty T' : TypeId} {pos : String} {af : Array Edge} {g : Option (Nat × Bool)} {p q : Operand} (a b : zI) (hp : ρ p = .agg #[(.int .i64 a.X), (.int .i64 a.Y)]) (hq : ρ q = .agg #[(.int .i64 b.X), (.int .i64 b.Y)]) : (execOp ρ ⟨dd, .binOp .neq 43 p q T', ty, pos, af, g⟩).run Tryz.prog W = .ok (.value (.bool (!KD a b))) W :=
  run_neqG (m := 9998 + 2) rfl (by kernel_rfl) (eqr_43 a b 9998 W) hp hq
end Go.Proofs.YtoageaoknnnfbaaGreatDoor
