/- Types of the data, and closed facts of the program's table of types. -/
import Derived.Test.YtoageaoknnnfbaaGreatDoorProg
import Derived.Test.YtoageaoknnnfbaaGreatDoorJ2
import Derived.Test.YtoageaoknnnfbaaGreatDoorSH
namespace Go.Proofs.YtoageaoknnnfbaaGreatDoor
open Go.RowKit
set_option maxRecDepth 100000
structure zS where
  X0 : Int
  Y0 : Int
  X1 : Int
  Y1 : Int
structure zV where
  Name : ByteArray
  Rects : (List zS)
structure zJ where
  X : Int
  Y : Int
structure zG where
  Kind : Int
  Name : ByteArray
  At : zJ
  Points : (List zJ)
  NX : Int
  NY : Int
  Steps : (List zG)
structure zEU where
  name : Bool
  at_ : Bool
  points : Bool
  repeat_ : Bool
structure zm where
  Unit : Int
  Tools : (List zV)
  Steps : (List zG)
structure ze where
  Y0 : Int
  Y1 : Int
  Xs : (List Int)
structure QQ where
  p : zm
  tools : (List (List ze))
  image : (List ze)
  clear : Bool
  tool : Int
  place : zJ
  placed : Bool
  off : Int
  on : Int
def zK : Fl zS := Fl.flat 4 (fun x => [(.int .i64 x.X0), (.int .i64 x.Y0), (.int .i64 x.X1), (.int .i64 x.Y1)]) (fun _ => rfl) (fun _ u h => by
  simp at h
  rcases h with rfl | rfl | rfl | rfl <;> rfl)
theorem Vg : ∀ u x, zK.enc u x = [(.int .i64 x.X0), (.int .i64 x.Y0), (.int .i64 x.X1), (.int .i64 x.Y1)] := fun _ _ => rfl
theorem WI : zK.Tri := fun _ _ _ _ => trivial
def QU : Fl zJ := Fl.flat 2 (fun x => [(.int .i64 x.X), (.int .i64 x.Y)]) (fun _ => rfl) (fun _ u h => by
  simp at h
  rcases h with rfl | rfl <;> rfl)
theorem zCY : ∀ u x, QU.enc u x = [(.int .i64 x.X), (.int .i64 x.Y)] := fun _ _ => rfl
theorem zJg : QU.Tri := fun _ _ _ _ => trivial
def zKZ : FlR zG where
  Ad := (Option Addr × Nat) × (Option Addr × Nat)
  sz := 8
  enc u x := [(.int .i64 x.Kind), (.string x.Name), (.int .i64 x.At.X), (.int .i64 x.At.Y), (.slice u.1.1 (x.Points).length u.1.2), (.int .i64 x.NX), (.int .i64 x.NY), (.slice u.2.1 (x.Steps).length u.2.2)]
  okb S W u x := Sl S W QU u.1.1 u.1.2 x.Points
  ua u := u.2
  sub x := x.Steps
  len _ _ := rfl
  one _ _ v h := by
    simp at h
    rcases h with rfl | rfl | rfl | rfl | rfl | rfl | rfl | rfl <;> rfl
  loc h hs hb := h.go hs hb
def zH : Fl zG := zKZ.fix
theorem Kn {S : Nat → Prop} {W : World} {u : (Option Addr × Nat) × (Option Addr × Nat)} {x : zG} : zH.ok S W u x ↔ Sl S W QU u.1.1 u.1.2 x.Points ∧ Sl S W zH u.2.1 u.2.2 x.Steps :=
  FlR.zgz zKZ
def zP : Fl zV where
  Ad := (Option Addr × Nat)
  sz := 2
  enc u x := [(.string x.Name), (.slice u.1 (x.Rects).length u.2)]
  ok S W u x := Sl S W zK u.1 u.2 x.Rects
  len _ _ := rfl
  one _ _ v h := by
    simp at h
    rcases h with rfl | rfl <;> rfl
  loc h hs hb := h.go hs hb
def QG : Fl Int := Fl.flat 1 (fun x => [(.int .i64 x)]) (fun _ => rfl) (fun _ u h => by
  simp at h
  subst h; rfl)
theorem Vx : ∀ u x, QG.enc u x = [(.int .i64 x)] := fun _ _ => rfl
theorem zRf : QG.Tri := fun _ _ _ _ => trivial
def zL : Fl ze where
  Ad := (Option Addr × Nat)
  sz := 3
  enc u x := [(.int .i64 x.Y0), (.int .i64 x.Y1), (.slice u.1 (x.Xs).length u.2)]
  ok S W u x := Sl S W QG u.1 u.2 x.Xs
  len _ _ := rfl
  one _ _ v h := by
    simp at h
    rcases h with rfl | rfl | rfl <;> rfl
  loc h hs hb := h.go hs hb
def Qy : Fl (List ze) where
  Ad := (Option Addr × Nat)
  sz := 1
  enc u x := [(.slice u.1 (x).length u.2)]
  ok S W u x := Sl S W zL u.1 u.2 x
  len _ _ := rfl
  one _ _ v h := by
    simp at h
    subst h; rfl
  loc h hs hb := h.go hs hb
def zPo : Fl (List zJ) where
  Ad := (Option Addr × Nat)
  sz := 1
  enc u x := [(.slice u.1 (x).length u.2)]
  ok S W u x := Sl S W QU u.1 u.2 x
  len _ _ := rfl
  one _ _ v h := by
    simp at h
    subst h; rfl
  loc h hs hb := h.go hs hb
def zCu : Fl zm where
  Ad := (Option Addr × Nat) × (Option Addr × Nat)
  sz := 3
  enc u x := [(.int .i64 x.Unit), (.slice u.1.1 (x.Tools).length u.1.2), (.slice u.2.1 (x.Steps).length u.2.2)]
  ok S W u x := Sl S W zP u.1.1 u.1.2 x.Tools ∧ Sl S W zH u.2.1 u.2.2 x.Steps
  len _ _ := rfl
  one _ _ v h := by
    simp at h
    rcases h with rfl | rfl | rfl <;> rfl
  loc h hs hb := ⟨h.1.go hs hb, h.2.go hs hb⟩
def zVs : Fl ByteArray := Fl.flat 1 (fun x => [(.string x)]) (fun _ => rfl) (fun _ u h => by
  simp at h
  subst h; rfl)
theorem zg2 : ∀ u x, zVs.enc u x = [(.string x)] := fun _ _ => rfl
theorem zme : zVs.Tri := fun _ _ _ _ => trivial
theorem zSa : zBF Tryz.prog 107 = some true := by kernel_rfl
theorem zbE : zBF Tryz.prog 123 = some false := by kernel_rfl
theorem zP7 : zBF Tryz.prog 149 = some true := by kernel_rfl
theorem zLu : zBF Tryz.prog 22 = some false := by kernel_rfl
theorem zDp : zBF Tryz.prog 23 = some false := by kernel_rfl
theorem WU : zBF Tryz.prog 25 = some true := by kernel_rfl
theorem QH : zBF Tryz.prog 3 = some false := by kernel_rfl
theorem zNX : zBF Tryz.prog 31 = some false := by kernel_rfl
theorem zBz : zBF Tryz.prog 36 = some true := by kernel_rfl
theorem zCx : zBF Tryz.prog 38 = some false := by kernel_rfl
theorem zM3 : zBF Tryz.prog 4 = some false := by kernel_rfl
theorem VP : zBF Tryz.prog 43 = some true := by kernel_rfl
theorem zIW : zBF Tryz.prog 44 = some false := by kernel_rfl
theorem zP6 : zBF Tryz.prog 46 = some true := by kernel_rfl
theorem zP5 : zBF Tryz.prog 64 = some true := by kernel_rfl
theorem zP4 : zBF Tryz.prog 66 = some false := by kernel_rfl
theorem zbD : zBF Tryz.prog 75 = some false := by kernel_rfl
theorem zRR : zBF Tryz.prog 88 = some false := by kernel_rfl
theorem zKy : zBF Tryz.prog 9 = some false := by kernel_rfl
theorem zIt : zA9 Tryz.prog 107 = some 3 := by kernel_rfl
theorem zdy : zA9 Tryz.prog 123 = some 1 := by kernel_rfl
theorem zFq : zA9 Tryz.prog 149 = some 4 := by kernel_rfl
theorem zhs : zA9 Tryz.prog 22 = some 1 := by kernel_rfl
theorem zV6 : zA9 Tryz.prog 23 = some 1 := by kernel_rfl
theorem VD : zA9 Tryz.prog 25 = some 3 := by kernel_rfl
theorem zKQ : zA9 Tryz.prog 3 = some 1 := by kernel_rfl
theorem zhr : zA9 Tryz.prog 31 = some 1 := by kernel_rfl
theorem Ku : zA9 Tryz.prog 36 = some 4 := by kernel_rfl
theorem zc5 : zA9 Tryz.prog 38 = some 1 := by kernel_rfl
theorem zYm : zA9 Tryz.prog 4 = some 1 := by kernel_rfl
theorem Js : zA9 Tryz.prog 43 = some 2 := by kernel_rfl
theorem zc4 : zA9 Tryz.prog 44 = some 1 := by kernel_rfl
theorem zGW : zA9 Tryz.prog 46 = some 8 := by kernel_rfl
theorem zG8 : zA9 Tryz.prog 64 = some 2 := by kernel_rfl
theorem zYl : zA9 Tryz.prog 66 = some 1 := by kernel_rfl
theorem zhq : zA9 Tryz.prog 75 = some 1 := by kernel_rfl
theorem zdx : zA9 Tryz.prog 9 = some 1 := by kernel_rfl
theorem zUq : zeroOf Tryz.prog 107 = some [(.int .i64 0), (.int .i64 0), (.slice none 0 0)] := by kernel_rfl
theorem zdo : zeroOf Tryz.prog 123 = some [.nilFunc] := by kernel_rfl
theorem zYO : zeroOf Tryz.prog 149 = some [(.bool false), (.bool false), (.bool false), (.bool false)] := by kernel_rfl
theorem zNB : zeroOf Tryz.prog 25 = some [(.int .i64 0), (.slice none 0 0), (.slice none 0 0)] := by kernel_rfl
theorem zhV : zeroOf Tryz.prog 3 = some [(.int .i64 0)] := by kernel_rfl
theorem zD3 : zeroOf Tryz.prog 36 = some [(.int .i64 0), (.int .i64 0), (.int .i64 0), (.int .i64 0)] := by kernel_rfl
theorem zhU : zeroOf Tryz.prog 38 = some [(.slice none 0 0)] := by kernel_rfl
theorem zl5 : zeroOf Tryz.prog 4 = some [(.bool false)] := by kernel_rfl
theorem zIo : zeroOf Tryz.prog 43 = some [(.int .i64 0), (.int .i64 0)] := by kernel_rfl
theorem zV4 : zeroOf Tryz.prog 46 = some [(.int .i64 0), (.string ⟨#[]⟩), (.int .i64 0), (.int .i64 0), (.slice none 0 0), (.int .i64 0), (.int .i64 0), (.slice none 0 0)] := by kernel_rfl
theorem zV3 : zeroOf Tryz.prog 64 = some [(.string ⟨#[]⟩), (.slice none 0 0)] := by kernel_rfl
theorem zl4 : zeroOf Tryz.prog 9 = some [(.string ⟨#[]⟩)] := by kernel_rfl
theorem zhW : zeroOf Tryz.prog 95 = some [.pointer none, .slice none 0 0] := by kernel_rfl
theorem zdn : (zeroOf Tryz.prog 107).map List.length = some 3 := by kernel_rfl
theorem zYN : (zeroOf Tryz.prog 3).map List.length = some 1 := by kernel_rfl
theorem zSo : (zeroOf Tryz.prog 36).map List.length = some 4 := by kernel_rfl
theorem zc0 : (zeroOf Tryz.prog 43).map List.length = some 2 := by kernel_rfl
theorem zYM : (zeroOf Tryz.prog 46).map List.length = some 8 := by kernel_rfl
theorem zcz : (zeroOf Tryz.prog 64).map List.length = some 2 := by kernel_rfl
theorem zhT : (zeroOf Tryz.prog 66).map List.length = some 1 := by kernel_rfl
theorem zg9 : (Tryz.prog.info? 107).map (·.bytes) = some 40 := by kernel_rfl
theorem za5 : (Tryz.prog.info? 3).map (·.bytes) = some 8 := by kernel_rfl
theorem zUc : (Tryz.prog.info? 36).map (·.bytes) = some 32 := by kernel_rfl
theorem zdj : (Tryz.prog.info? 43).map (·.bytes) = some 16 := by kernel_rfl
theorem za4 : (Tryz.prog.info? 46).map (·.bytes) = some 104 := by kernel_rfl
theorem zdi : (Tryz.prog.info? 64).map (·.bytes) = some 40 := by kernel_rfl
theorem zlE : (Tryz.prog.info? 66).map (·.bytes) = some 24 := by kernel_rfl
theorem zEn : Ju Tryz.prog 107 0 = some 0 := by kernel_rfl
theorem zCD : Ju Tryz.prog 107 1 = some 1 := by kernel_rfl
theorem zBB : Ju Tryz.prog 107 2 = some 2 := by kernel_rfl
theorem zUN : Ju Tryz.prog 149 0 = some 0 := by kernel_rfl
theorem zaf : Ju Tryz.prog 149 1 = some 1 := by kernel_rfl
theorem zUM : Ju Tryz.prog 149 2 = some 2 := by kernel_rfl
theorem zUL : Ju Tryz.prog 149 3 = some 3 := by kernel_rfl
theorem WS : Ju Tryz.prog 25 0 = some 0 := by kernel_rfl
theorem zEO : Ju Tryz.prog 25 1 = some 1 := by kernel_rfl
theorem zDj : Ju Tryz.prog 25 2 = some 2 := by kernel_rfl
theorem WR : Ju Tryz.prog 36 0 = some 0 := by kernel_rfl
theorem zAk : Ju Tryz.prog 36 1 = some 1 := by kernel_rfl
theorem zC5 : Ju Tryz.prog 36 2 = some 2 := by kernel_rfl
theorem zDi : Ju Tryz.prog 36 3 = some 3 := by kernel_rfl
theorem Vm : Ju Tryz.prog 43 0 = some 0 := by kernel_rfl
theorem VZ : Ju Tryz.prog 43 1 = some 1 := by kernel_rfl
theorem zHv : Ju Tryz.prog 46 0 = some 0 := by kernel_rfl
theorem zJ4 : Ju Tryz.prog 46 1 = some 1 := by kernel_rfl
theorem zDh : Ju Tryz.prog 46 2 = some 2 := by kernel_rfl
theorem zCW : Ju Tryz.prog 46 3 = some 4 := by kernel_rfl
theorem zLg : Ju Tryz.prog 46 4 = some 5 := by kernel_rfl
theorem zLf : Ju Tryz.prog 46 5 = some 6 := by kernel_rfl
theorem zC4 : Ju Tryz.prog 46 6 = some 7 := by kernel_rfl
theorem zHu : Ju Tryz.prog 64 0 = some 0 := by kernel_rfl
theorem zFS : Ju Tryz.prog 64 1 = some 1 := by kernel_rfl
theorem zLe : Ju Tryz.prog 77 0 = some 0 := by kernel_rfl
theorem zNt : Ju Tryz.prog 77 1 = some 3 := by kernel_rfl
theorem zJ3 : Ju Tryz.prog 77 2 = some 4 := by kernel_rfl
theorem zWm : Ju Tryz.prog 77 3 = some 5 := by kernel_rfl
theorem zLd : Ju Tryz.prog 77 4 = some 6 := by kernel_rfl
theorem zHt : Ju Tryz.prog 77 5 = some 7 := by kernel_rfl
theorem zLc : Ju Tryz.prog 77 6 = some 9 := by kernel_rfl
theorem zWl : Ju Tryz.prog 77 7 = some 10 := by kernel_rfl
theorem zcg : Ju Tryz.prog 77 8 = some 11 := by kernel_rfl
theorem zg1 : elemOf? Tryz.prog 205 = some (44, 1) := by kernel_rfl
theorem zKa : elemOf? Tryz.prog 22 = some (64, 2) := by kernel_rfl
theorem zFH : elemOf? Tryz.prog 23 = some (46, 8) := by kernel_rfl
theorem zCj : elemOf? Tryz.prog 31 = some (36, 4) := by kernel_rfl
theorem zAl : elemOf? Tryz.prog 38 = some (3, 1) := by kernel_rfl
theorem zLi : elemOf? Tryz.prog 44 = some (43, 2) := by kernel_rfl
theorem zCi : elemOf? Tryz.prog 66 = some (107, 3) := by kernel_rfl
theorem zal : elemOf? Tryz.prog 75 = some (66, 1) := by kernel_rfl
theorem zk3 : elemOf? Tryz.prog 78 = some (25, 3) := by kernel_rfl
theorem zk2 : elemOf? Tryz.prog 79 = some (9, 1) := by kernel_rfl
theorem zdp : Tryz.prog.underlying 205 = some (.slice 44) := by kernel_rfl
theorem zKW : Tryz.prog.underlying 22 = some (.slice 64) := by kernel_rfl
theorem zGV : Tryz.prog.underlying 23 = some (.slice 46) := by kernel_rfl
theorem zA8 : Tryz.prog.underlying 31 = some (.slice 36) := by kernel_rfl
theorem zCg : Tryz.prog.underlying 38 = some (.slice 3) := by kernel_rfl
theorem zhg : Tryz.prog.underlying 4 = some (.bool) := by kernel_rfl
theorem zGU : Tryz.prog.underlying 44 = some (.slice 43) := by kernel_rfl
theorem zFD : Tryz.prog.underlying 66 = some (.slice 107) := by kernel_rfl
theorem zc2 : Tryz.prog.underlying 75 = some (.slice 66) := by kernel_rfl
theorem zhf : Tryz.prog.underlying 78 = some (.slice 25) := by kernel_rfl
theorem zbd : Tryz.prog.underlying 9 = some (.string) := by kernel_rfl
def zHx (a b : zS) : Bool := (a.X0 == b.X0) && ((a.Y0 == b.Y0) && ((a.X1 == b.X1) && ((a.Y1 == b.Y1) && true)))
theorem zJH {a b : zS} : zHx a b = true ↔ a = b := by
  cases a; cases b; simp [zHx, zFM]
theorem zak (a b : zS) (d : Nat) (W : World) : (Op.equalIn (d + 2) 36 (.agg #[(.int .i64 a.X0), (.int .i64 a.Y0), (.int .i64 a.X1), (.int .i64 a.Y1)]) (.agg #[(.int .i64 b.X0), (.int .i64 b.Y0), (.int .i64 b.X1), (.int .i64 b.Y1)])).run Tryz.prog W = .ok (zHx a b) W := by
  rw [show d + 2 = (d + 1) + 1 from rfl, run_equalIn_struct W _ 36 _ _ (by kernel_rfl) (by kernel_rfl)]
  simp only [Program.fieldsOf, Tryz.underlying36]
  exact zHQ rfl (zIP QH rfl) (zIP QH rfl) (zMt Tryz.underlying3) (zHQ rfl (zIP QH rfl) (zIP QH rfl) (zMt Tryz.underlying3) (zHQ rfl (zIP QH rfl) (zIP QH rfl) (zMt Tryz.underlying3) (zHQ rfl (zIP QH rfl) (zIP QH rfl) (zMt Tryz.underlying3) (zWr))))
theorem zd6 {ρ : Operand → Value} {W : World} {dd : Option Tmp} {ty T' : TypeId} {pos : String} {af : Array Edge} {g : Option (Nat × Bool)} {p q : Operand} (a b : zS) (hp : ρ p = .agg #[(.int .i64 a.X0), (.int .i64 a.Y0), (.int .i64 a.X1), (.int .i64 a.Y1)]) (hq : ρ q = .agg #[(.int .i64 b.X0), (.int .i64 b.Y0), (.int .i64 b.X1), (.int .i64 b.Y1)]) : (execOp ρ ⟨dd, .binOp .eql 36 p q T', ty, pos, af, g⟩).run Tryz.prog W = .ok (.value (.bool (zHx a b))) W :=
  zTI (m := 9998 + 2) rfl (by kernel_rfl) (zak a b 9998 W) hp hq
theorem zVJ {ρ : Operand → Value} {W : World} {dd : Option Tmp} {ty T' : TypeId} {pos : String} {af : Array Edge} {g : Option (Nat × Bool)} {p q : Operand} (a b : zS) (hp : ρ p = .agg #[(.int .i64 a.X0), (.int .i64 a.Y0), (.int .i64 a.X1), (.int .i64 a.Y1)]) (hq : ρ q = .agg #[(.int .i64 b.X0), (.int .i64 b.Y0), (.int .i64 b.X1), (.int .i64 b.Y1)]) : (execOp ρ ⟨dd, .binOp .neq 36 p q T', ty, pos, af, g⟩).run Tryz.prog W = .ok (.value (.bool (!zHx a b))) W :=
  zTG (m := 9998 + 2) rfl (by kernel_rfl) (zak a b 9998 W) hp hq
def zBg (a b : zJ) : Bool := (a.X == b.X) && ((a.Y == b.Y) && true)
theorem zSG {a b : zJ} : zBg a b = true ↔ a = b := by
  cases a; cases b; simp [zBg, zFM]
theorem zaj (a b : zJ) (d : Nat) (W : World) : (Op.equalIn (d + 2) 43 (.agg #[(.int .i64 a.X), (.int .i64 a.Y)]) (.agg #[(.int .i64 b.X), (.int .i64 b.Y)])).run Tryz.prog W = .ok (zBg a b) W := by
  rw [show d + 2 = (d + 1) + 1 from rfl, run_equalIn_struct W _ 43 _ _ (by kernel_rfl) (by kernel_rfl)]
  simp only [Program.fieldsOf, Tryz.underlying43]
  exact zHQ rfl (zIP QH rfl) (zIP QH rfl) (zMt Tryz.underlying3) (zHQ rfl (zIP QH rfl) (zIP QH rfl) (zMt Tryz.underlying3) (zWr))
theorem zd5 {ρ : Operand → Value} {W : World} {dd : Option Tmp} {ty T' : TypeId} {pos : String} {af : Array Edge} {g : Option (Nat × Bool)} {p q : Operand} (a b : zJ) (hp : ρ p = .agg #[(.int .i64 a.X), (.int .i64 a.Y)]) (hq : ρ q = .agg #[(.int .i64 b.X), (.int .i64 b.Y)]) : (execOp ρ ⟨dd, .binOp .eql 43 p q T', ty, pos, af, g⟩).run Tryz.prog W = .ok (.value (.bool (zBg a b))) W :=
  zTI (m := 9998 + 2) rfl (by kernel_rfl) (zaj a b 9998 W) hp hq
theorem zVI {ρ : Operand → Value} {W : World} {dd : Option Tmp} {ty T' : TypeId} {pos : String} {af : Array Edge} {g : Option (Nat × Bool)} {p q : Operand} (a b : zJ) (hp : ρ p = .agg #[(.int .i64 a.X), (.int .i64 a.Y)]) (hq : ρ q = .agg #[(.int .i64 b.X), (.int .i64 b.Y)]) : (execOp ρ ⟨dd, .binOp .neq 43 p q T', ty, pos, af, g⟩).run Tryz.prog W = .ok (.value (.bool (!zBg a b))) W :=
  zTG (m := 9998 + 2) rfl (by kernel_rfl) (zaj a b 9998 W) hp hq
end Go.Proofs.YtoageaoknnnfbaaGreatDoor
