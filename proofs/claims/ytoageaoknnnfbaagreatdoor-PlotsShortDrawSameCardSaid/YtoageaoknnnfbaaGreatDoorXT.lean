/- Types of the data, and closed facts of the program's table of types. -/
import Derived.Test.YtoageaoknnnfbaaGreatDoorProg
import Derived.Test.YtoageaoknnnfbaaGreatDoorJ2
import Derived.Test.YtoageaoknnnfbaaGreatDoorSH
namespace Go.Proofs.YtoageaoknnnfbaaGreatDoor
open Go.RowKit
set_option maxRecDepth 100000
structure zQ where
  X0 : Int
  Y0 : Int
  X1 : Int
  Y1 : Int
structure zZ where
  Name : ByteArray
  Rects : (List zQ)
structure zJ where
  X : Int
  Y : Int
structure zC where
  Kind : Int
  Name : ByteArray
  At : zJ
  Points : (List zJ)
  NX : Int
  NY : Int
  Steps : (List zC)
structure zEz where
  name : Bool
  at_ : Bool
  points : Bool
  repeat_ : Bool
structure QB where
  Unit : Int
  Tools : (List zZ)
  Steps : (List zC)
structure ze where
  Y0 : Int
  Y1 : Int
  Xs : (List Int)
structure QU where
  p : QB
  tools : (List (List ze))
  image : (List ze)
  clear : Bool
  tool : Int
  place : zJ
  placed : Bool
  off : Int
  on : Int
structure VK where
  dark : Int
  tool : ByteArray
  place : zJ
  placed : Bool
  last : zC
def zY : Fl zQ := Fl.flat 4 (fun x => [(.int .i64 x.X0), (.int .i64 x.Y0), (.int .i64 x.X1), (.int .i64 x.Y1)]) (fun _ => rfl) (fun _ u h => by
  simp at h
  rcases h with rfl | rfl | rfl | rfl <;> rfl)
theorem WA : ∀ u x, zY.enc u x = [(.int .i64 x.X0), (.int .i64 x.Y0), (.int .i64 x.X1), (.int .i64 x.Y1)] := fun _ _ => rfl
theorem zCd : zY.Tri := fun _ _ _ _ => trivial
def QD : Fl zJ := Fl.flat 2 (fun x => [(.int .i64 x.X), (.int .i64 x.Y)]) (fun _ => rfl) (fun _ u h => by
  simp at h
  rcases h with rfl | rfl <;> rfl)
theorem zAj : ∀ u x, QD.enc u x = [(.int .i64 x.X), (.int .i64 x.Y)] := fun _ _ => rfl
theorem zJ4 : QD.Tri := fun _ _ _ _ => trivial
def zKi : FlR zC where
  Ad := (Option Addr × Nat) × (Option Addr × Nat)
  sz := 8
  enc u x := [(.int .i64 x.Kind), (.string x.Name), (.int .i64 x.At.X), (.int .i64 x.At.Y), (.slice u.1.1 (x.Points).length u.1.2), (.int .i64 x.NX), (.int .i64 x.NY), (.slice u.2.1 (x.Steps).length u.2.2)]
  okb S W u x := Sl S W QD u.1.1 u.1.2 x.Points
  ua u := u.2
  sub x := x.Steps
  len _ _ := rfl
  one _ _ v h := by
    simp at h
    rcases h with rfl | rfl | rfl | rfl | rfl | rfl | rfl | rfl <;> rfl
  loc h hs hb := h.go hs hb
def zH : Fl zC := zKi.fix
theorem Kj {S : Nat → Prop} {W : World} {u : (Option Addr × Nat) × (Option Addr × Nat)} {x : zC} : zH.ok S W u x ↔ Sl S W QD u.1.1 u.1.2 x.Points ∧ Sl S W zH u.2.1 u.2.2 x.Steps :=
  FlR.zi0 zKi
def zN : Fl zZ where
  Ad := (Option Addr × Nat)
  sz := 2
  enc u x := [(.string x.Name), (.slice u.1 (x.Rects).length u.2)]
  ok S W u x := Sl S W zY u.1 u.2 x.Rects
  len _ _ := rfl
  one _ _ v h := by
    simp at h
    rcases h with rfl | rfl <;> rfl
  loc h hs hb := h.go hs hb
def QO : Fl Int := Fl.flat 1 (fun x => [(.int .i64 x)]) (fun _ => rfl) (fun _ u h => by
  simp at h
  subst h; rfl)
theorem We : ∀ u x, QO.enc u x = [(.int .i64 x)] := fun _ _ => rfl
theorem zRq : QO.Tri := fun _ _ _ _ => trivial
def zW : Fl ze where
  Ad := (Option Addr × Nat)
  sz := 3
  enc u x := [(.int .i64 x.Y0), (.int .i64 x.Y1), (.slice u.1 (x.Xs).length u.2)]
  ok S W u x := Sl S W QO u.1 u.2 x.Xs
  len _ _ := rfl
  one _ _ v h := by
    simp at h
    rcases h with rfl | rfl | rfl <;> rfl
  loc h hs hb := h.go hs hb
def JU : Fl (List ze) where
  Ad := (Option Addr × Nat)
  sz := 1
  enc u x := [(.slice u.1 (x).length u.2)]
  ok S W u x := Sl S W zW u.1 u.2 x
  len _ _ := rfl
  one _ _ v h := by
    simp at h
    subst h; rfl
  loc h hs hb := h.go hs hb
def zPk : Fl (List zJ) where
  Ad := (Option Addr × Nat)
  sz := 1
  enc u x := [(.slice u.1 (x).length u.2)]
  ok S W u x := Sl S W QD u.1 u.2 x
  len _ _ := rfl
  one _ _ v h := by
    simp at h
    subst h; rfl
  loc h hs hb := h.go hs hb
theorem zSi : zBI Tryz.prog 107 = some true := by kernel_rfl
theorem zcY : zBI Tryz.prog 123 = some false := by kernel_rfl
theorem zSh : zBI Tryz.prog 125 = some true := by kernel_rfl
theorem zP3 : zBI Tryz.prog 149 = some true := by kernel_rfl
theorem zGQ : zBI Tryz.prog 22 = some false := by kernel_rfl
theorem zCn : zBI Tryz.prog 23 = some false := by kernel_rfl
theorem zAJ : zBI Tryz.prog 25 = some true := by kernel_rfl
theorem QH : zBI Tryz.prog 3 = some false := by kernel_rfl
theorem zHh : zBI Tryz.prog 31 = some false := by kernel_rfl
theorem zBr : zBI Tryz.prog 36 = some true := by kernel_rfl
theorem zDP : zBI Tryz.prog 38 = some false := by kernel_rfl
theorem zNR : zBI Tryz.prog 4 = some false := by kernel_rfl
theorem KT : zBI Tryz.prog 43 = some true := by kernel_rfl
theorem zFI : zBI Tryz.prog 44 = some false := by kernel_rfl
theorem zGP : zBI Tryz.prog 46 = some true := by kernel_rfl
theorem zUj : zBI Tryz.prog 64 = some true := by kernel_rfl
theorem zP2 : zBI Tryz.prog 66 = some false := by kernel_rfl
theorem zcX : zBI Tryz.prog 75 = some false := by kernel_rfl
theorem zRb : zBI Tryz.prog 88 = some false := by kernel_rfl
theorem zHF : zBI Tryz.prog 9 = some false := by kernel_rfl
theorem zJN : zA0 Tryz.prog 107 = some 3 := by kernel_rfl
theorem zf0 : zA0 Tryz.prog 123 = some 1 := by kernel_rfl
theorem zJM : zA0 Tryz.prog 125 = some 13 := by kernel_rfl
theorem zGA : zA0 Tryz.prog 149 = some 4 := by kernel_rfl
theorem zeq : zA0 Tryz.prog 23 = some 1 := by kernel_rfl
theorem VQ : zA0 Tryz.prog 25 = some 3 := by kernel_rfl
theorem zJB : zA0 Tryz.prog 3 = some 1 := by kernel_rfl
theorem zep : zA0 Tryz.prog 31 = some 1 := by kernel_rfl
theorem VE : zA0 Tryz.prog 36 = some 4 := by kernel_rfl
theorem zeo : zA0 Tryz.prog 38 = some 1 := by kernel_rfl
theorem zZi : zA0 Tryz.prog 4 = some 1 := by kernel_rfl
theorem JL : zA0 Tryz.prog 43 = some 2 := by kernel_rfl
theorem zen : zA0 Tryz.prog 44 = some 1 := by kernel_rfl
theorem zA2 : zA0 Tryz.prog 46 = some 8 := by kernel_rfl
theorem zLQ : zA0 Tryz.prog 64 = some 2 := by kernel_rfl
theorem zZh : zA0 Tryz.prog 66 = some 1 := by kernel_rfl
theorem zjt : zA0 Tryz.prog 75 = some 1 := by kernel_rfl
theorem zoH : zA0 Tryz.prog 9 = some 1 := by kernel_rfl
theorem zUw : zeroOf Tryz.prog 107 = some [(.int .i64 0), (.int .i64 0), (.slice none 0 0)] := by kernel_rfl
theorem zfh : zeroOf Tryz.prog 123 = some [.nilFunc] := by kernel_rfl
theorem zZN : zeroOf Tryz.prog 125 = some [(.int .i64 0), (.string ⟨#[]⟩), (.int .i64 0), (.int .i64 0), (.bool false), (.int .i64 0), (.string ⟨#[]⟩), (.int .i64 0), (.int .i64 0), (.slice none 0 0), (.int .i64 0), (.int .i64 0), (.slice none 0 0)] := by kernel_rfl
theorem zZM : zeroOf Tryz.prog 149 = some [(.bool false), (.bool false), (.bool false), (.bool false)] := by kernel_rfl
theorem zLK : zeroOf Tryz.prog 25 = some [(.int .i64 0), (.slice none 0 0), (.slice none 0 0)] := by kernel_rfl
theorem zjY : zeroOf Tryz.prog 3 = some [(.int .i64 0)] := by kernel_rfl
theorem zF5 : zeroOf Tryz.prog 36 = some [(.int .i64 0), (.int .i64 0), (.int .i64 0), (.int .i64 0)] := by kernel_rfl
theorem zjX : zeroOf Tryz.prog 38 = some [(.slice none 0 0)] := by kernel_rfl
theorem zJJ : zeroOf Tryz.prog 43 = some [(.int .i64 0), (.int .i64 0)] := by kernel_rfl
theorem zIn : zeroOf Tryz.prog 46 = some [(.int .i64 0), (.string ⟨#[]⟩), (.int .i64 0), (.int .i64 0), (.slice none 0 0), (.int .i64 0), (.int .i64 0), (.slice none 0 0)] := by kernel_rfl
theorem zZL : zeroOf Tryz.prog 64 = some [(.string ⟨#[]⟩), (.slice none 0 0)] := by kernel_rfl
theorem zjZ : zeroOf Tryz.prog 95 = some [.pointer none, .slice none 0 0] := by kernel_rfl
theorem zfg : (zeroOf Tryz.prog 107).map List.length = some 3 := by kernel_rfl
theorem zZK : (zeroOf Tryz.prog 3).map List.length = some 1 := by kernel_rfl
theorem zSu : (zeroOf Tryz.prog 36).map List.length = some 4 := by kernel_rfl
theorem zej : (zeroOf Tryz.prog 43).map List.length = some 2 := by kernel_rfl
theorem zZJ : (zeroOf Tryz.prog 46).map List.length = some 8 := by kernel_rfl
theorem zjW : (zeroOf Tryz.prog 64).map List.length = some 2 := by kernel_rfl
theorem zjV : (zeroOf Tryz.prog 66).map List.length = some 1 := by kernel_rfl
theorem zi8 : (Tryz.prog.info? 107).map (·.bytes) = some 40 := by kernel_rfl
theorem zcL : (Tryz.prog.info? 3).map (·.bytes) = some 8 := by kernel_rfl
theorem zUf : (Tryz.prog.info? 36).map (·.bytes) = some 32 := by kernel_rfl
theorem zfX : (Tryz.prog.info? 43).map (·.bytes) = some 16 := by kernel_rfl
theorem zcK : (Tryz.prog.info? 46).map (·.bytes) = some 104 := by kernel_rfl
theorem zm4 : (Tryz.prog.info? 64).map (·.bytes) = some 40 := by kernel_rfl
theorem zm3 : (Tryz.prog.info? 66).map (·.bytes) = some 24 := by kernel_rfl
theorem zFE : JV Tryz.prog 107 0 = some 0 := by kernel_rfl
theorem zCk : JV Tryz.prog 107 1 = some 1 := by kernel_rfl
theorem zBb : JV Tryz.prog 107 2 = some 2 := by kernel_rfl
theorem zJk : JV Tryz.prog 125 0 = some 0 := by kernel_rfl
theorem zJj : JV Tryz.prog 125 1 = some 1 := by kernel_rfl
theorem zPi : JV Tryz.prog 125 2 = some 2 := by kernel_rfl
theorem zPh : JV Tryz.prog 125 3 = some 4 := by kernel_rfl
theorem zHc : JV Tryz.prog 125 4 = some 5 := by kernel_rfl
theorem zUM : JV Tryz.prog 149 0 = some 0 := by kernel_rfl
theorem zbz : JV Tryz.prog 149 1 = some 1 := by kernel_rfl
theorem zUL : JV Tryz.prog 149 2 = some 2 := by kernel_rfl
theorem zUK : JV Tryz.prog 149 3 = some 3 := by kernel_rfl
theorem zBH : JV Tryz.prog 25 0 = some 0 := by kernel_rfl
theorem zBy : JV Tryz.prog 25 1 = some 1 := by kernel_rfl
theorem zC3 : JV Tryz.prog 25 2 = some 2 := by kernel_rfl
theorem zBG : JV Tryz.prog 36 0 = some 0 := by kernel_rfl
theorem zDX : JV Tryz.prog 36 1 = some 1 := by kernel_rfl
theorem zD9 : JV Tryz.prog 36 2 = some 2 := by kernel_rfl
theorem zEp : JV Tryz.prog 36 3 = some 3 := by kernel_rfl
theorem Kq : JV Tryz.prog 43 0 = some 0 := by kernel_rfl
theorem KY : JV Tryz.prog 43 1 = some 1 := by kernel_rfl
theorem zBF : JV Tryz.prog 46 0 = some 0 := by kernel_rfl
theorem zFn : JV Tryz.prog 46 1 = some 1 := by kernel_rfl
theorem WK : JV Tryz.prog 46 2 = some 2 := by kernel_rfl
theorem zAu : JV Tryz.prog 46 3 = some 4 := by kernel_rfl
theorem zFm : JV Tryz.prog 46 4 = some 5 := by kernel_rfl
theorem zGu : JV Tryz.prog 46 5 = some 6 := by kernel_rfl
theorem zDW : JV Tryz.prog 46 6 = some 7 := by kernel_rfl
theorem zIG : JV Tryz.prog 64 0 = some 0 := by kernel_rfl
theorem zBx : JV Tryz.prog 64 1 = some 1 := by kernel_rfl
theorem zL1 : JV Tryz.prog 77 0 = some 0 := by kernel_rfl
theorem zOE : JV Tryz.prog 77 1 = some 3 := by kernel_rfl
theorem zKQ : JV Tryz.prog 77 2 = some 4 := by kernel_rfl
theorem zXQ : JV Tryz.prog 77 3 = some 5 := by kernel_rfl
theorem zL0 : JV Tryz.prog 77 4 = some 6 := by kernel_rfl
theorem zIF : JV Tryz.prog 77 5 = some 7 := by kernel_rfl
theorem zLz : JV Tryz.prog 77 6 = some 9 := by kernel_rfl
theorem zXP : JV Tryz.prog 77 7 = some 10 := by kernel_rfl
theorem zd9 : JV Tryz.prog 77 8 = some 11 := by kernel_rfl
theorem zb2 : zPl Tryz.prog 149 1 = some (1, 4) := by kernel_rfl
theorem zi1 : elemOf? Tryz.prog 205 = some (44, 1) := by kernel_rfl
theorem zFF : elemOf? Tryz.prog 22 = some (64, 2) := by kernel_rfl
theorem zEC : elemOf? Tryz.prog 23 = some (46, 8) := by kernel_rfl
theorem zCl : elemOf? Tryz.prog 31 = some (36, 4) := by kernel_rfl
theorem zA3 : elemOf? Tryz.prog 38 = some (3, 1) := by kernel_rfl
theorem zGN : elemOf? Tryz.prog 44 = some (43, 2) := by kernel_rfl
theorem zDB : elemOf? Tryz.prog 66 = some (107, 3) := by kernel_rfl
theorem zb7 : elemOf? Tryz.prog 75 = some (66, 1) := by kernel_rfl
theorem zfq : Tryz.prog.underlying 205 = some (.slice 44) := by kernel_rfl
theorem zIo : Tryz.prog.underlying 22 = some (.slice 64) := by kernel_rfl
theorem zB8 : Tryz.prog.underlying 23 = some (.slice 46) := by kernel_rfl
theorem zBQ : Tryz.prog.underlying 31 = some (.slice 36) := by kernel_rfl
theorem zCc : Tryz.prog.underlying 38 = some (.slice 3) := by kernel_rfl
theorem zji : Tryz.prog.underlying 4 = some (.bool) := by kernel_rfl
theorem zEQ : Tryz.prog.underlying 44 = some (.slice 43) := by kernel_rfl
theorem zFa : Tryz.prog.underlying 66 = some (.slice 107) := by kernel_rfl
theorem zel : Tryz.prog.underlying 75 = some (.slice 66) := by kernel_rfl
theorem zc1 : Tryz.prog.underlying 9 = some (.string) := by kernel_rfl
def zFo (a b : zQ) : Bool := (a.X0 == b.X0) && ((a.Y0 == b.Y0) && ((a.X1 == b.X1) && ((a.Y1 == b.Y1) && true)))
theorem zGw {a b : zQ} : zFo a b = true ↔ a = b := by
  cases a; cases b; simp [zFo, zEn]
theorem zb6 (a b : zQ) (d : Nat) (W : World) : (Op.equalIn (d + 2) 36 (.agg #[(.int .i64 a.X0), (.int .i64 a.Y0), (.int .i64 a.X1), (.int .i64 a.Y1)]) (.agg #[(.int .i64 b.X0), (.int .i64 b.Y0), (.int .i64 b.X1), (.int .i64 b.Y1)])).run Tryz.prog W = .ok (zFo a b) W := by
  rw [show d + 2 = (d + 1) + 1 from rfl, run_equalIn_struct W _ 36 _ _ (by kernel_rfl) (by kernel_rfl)]
  simp only [Program.fieldsOf, Tryz.underlying36]
  exact zHd rfl (zHQ QH rfl) (zHQ QH rfl) (zNJ Tryz.underlying3) (zHd rfl (zHQ QH rfl) (zHQ QH rfl) (zNJ Tryz.underlying3) (zHd rfl (zHQ QH rfl) (zHQ QH rfl) (zNJ Tryz.underlying3) (zHd rfl (zHQ QH rfl) (zHQ QH rfl) (zNJ Tryz.underlying3) (zXX))))
theorem zf7 {ρ : Operand → Value} {W : World} {dd : Option Tmp} {ty T' : TypeId} {pos : String} {af : Array Edge} {g : Option (Nat × Bool)} {p q : Operand} (a b : zQ) (hp : ρ p = .agg #[(.int .i64 a.X0), (.int .i64 a.Y0), (.int .i64 a.X1), (.int .i64 a.Y1)]) (hq : ρ q = .agg #[(.int .i64 b.X0), (.int .i64 b.Y0), (.int .i64 b.X1), (.int .i64 b.Y1)]) : (execOp ρ ⟨dd, .binOp .eql 36 p q T', ty, pos, af, g⟩).run Tryz.prog W = .ok (.value (.bool (zFo a b))) W :=
  zTM (m := 9998 + 2) rfl (by kernel_rfl) (zb6 a b 9998 W) hp hq
theorem zOz {ρ : Operand → Value} {W : World} {dd : Option Tmp} {ty T' : TypeId} {pos : String} {af : Array Edge} {g : Option (Nat × Bool)} {p q : Operand} (a b : zQ) (hp : ρ p = .agg #[(.int .i64 a.X0), (.int .i64 a.Y0), (.int .i64 a.X1), (.int .i64 a.Y1)]) (hq : ρ q = .agg #[(.int .i64 b.X0), (.int .i64 b.Y0), (.int .i64 b.X1), (.int .i64 b.Y1)]) : (execOp ρ ⟨dd, .binOp .neq 36 p q T', ty, pos, af, g⟩).run Tryz.prog W = .ok (.value (.bool (!zFo a b))) W :=
  zTL (m := 9998 + 2) rfl (by kernel_rfl) (zb6 a b 9998 W) hp hq
def QQ (a b : zJ) : Bool := (a.X == b.X) && ((a.Y == b.Y) && true)
theorem zFp {a b : zJ} : QQ a b = true ↔ a = b := by
  cases a; cases b; simp [QQ, zEn]
theorem zb5 (a b : zJ) (d : Nat) (W : World) : (Op.equalIn (d + 2) 43 (.agg #[(.int .i64 a.X), (.int .i64 a.Y)]) (.agg #[(.int .i64 b.X), (.int .i64 b.Y)])).run Tryz.prog W = .ok (QQ a b) W := by
  rw [show d + 2 = (d + 1) + 1 from rfl, run_equalIn_struct W _ 43 _ _ (by kernel_rfl) (by kernel_rfl)]
  simp only [Program.fieldsOf, Tryz.underlying43]
  exact zHd rfl (zHQ QH rfl) (zHQ QH rfl) (zNJ Tryz.underlying3) (zHd rfl (zHQ QH rfl) (zHQ QH rfl) (zNJ Tryz.underlying3) (zXX))
theorem zO1 {ρ : Operand → Value} {W : World} {dd : Option Tmp} {ty T' : TypeId} {pos : String} {af : Array Edge} {g : Option (Nat × Bool)} {p q : Operand} (a b : zJ) (hp : ρ p = .agg #[(.int .i64 a.X), (.int .i64 a.Y)]) (hq : ρ q = .agg #[(.int .i64 b.X), (.int .i64 b.Y)]) : (execOp ρ ⟨dd, .binOp .eql 43 p q T', ty, pos, af, g⟩).run Tryz.prog W = .ok (.value (.bool (QQ a b))) W :=
  zTM (m := 9998 + 2) rfl (by kernel_rfl) (zb5 a b 9998 W) hp hq
theorem zKx {ρ : Operand → Value} {W : World} {dd : Option Tmp} {ty T' : TypeId} {pos : String} {af : Array Edge} {g : Option (Nat × Bool)} {p q : Operand} (a b : zJ) (hp : ρ p = .agg #[(.int .i64 a.X), (.int .i64 a.Y)]) (hq : ρ q = .agg #[(.int .i64 b.X), (.int .i64 b.Y)]) : (execOp ρ ⟨dd, .binOp .neq 43 p q T', ty, pos, af, g⟩).run Tryz.prog W = .ok (.value (.bool (!QQ a b))) W :=
  zTL (m := 9998 + 2) rfl (by kernel_rfl) (zb5 a b 9998 W) hp hq
end Go.Proofs.YtoageaoknnnfbaaGreatDoor
