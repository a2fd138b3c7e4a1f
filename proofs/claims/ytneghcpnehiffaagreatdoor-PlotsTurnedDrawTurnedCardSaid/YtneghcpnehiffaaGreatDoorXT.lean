/- Types of the data, and closed facts of the program's table of types. -/
import Derived.Test.YtneghcpnehiffaaGreatDoorProg
import Derived.Test.YtneghcpnehiffaaGreatDoorJ2
import Derived.Test.YtneghcpnehiffaaGreatDoorSH
namespace Go.Proofs.YtneghcpnehiffaaGreatDoor
open Go.RowKit
set_option maxRecDepth 100000
structure zK where
  X0 : Int
  Y0 : Int
  X1 : Int
  Y1 : Int
structure zg where
  Name : ByteArray
  Rects : (List zK)
structure zI where
  X : Int
  Y : Int
structure zC where
  Kind : Int
  Name : ByteArray
  At : zI
  Points : (List zI)
  NX : Int
  NY : Int
  Steps : (List zC)
structure zEN where
  name : Bool
  at_ : Bool
  points : Bool
  repeat_ : Bool
structure zt where
  Unit : Int
  Tools : (List zg)
  Steps : (List zC)
structure zZ where
  Y0 : Int
  Y1 : Int
  Xs : (List Int)
structure QM where
  p : zt
  tools : (List (List zZ))
  image : (List zZ)
  clear : Bool
  tool : Int
  place : zI
  placed : Bool
  off : Int
  on : Int
structure Qf where
  Flip : Bool
  Quarters : Int
  At : zI
def zR : Fl zK := Fl.flat 4 (fun x => [(.int .i64 x.X0), (.int .i64 x.Y0), (.int .i64 x.X1), (.int .i64 x.Y1)]) (fun _ => rfl) (fun _ u h => by
  simp at h
  rcases h with rfl | rfl | rfl | rfl <;> rfl)
theorem VP : ∀ u x, zR.enc u x = [(.int .i64 x.X0), (.int .i64 x.Y0), (.int .i64 x.X1), (.int .i64 x.Y1)] := fun _ _ => rfl
theorem WN : zR.Tri := fun _ _ _ _ => trivial
def zz : Fl zI := Fl.flat 2 (fun x => [(.int .i64 x.X), (.int .i64 x.Y)]) (fun _ => rfl) (fun _ u h => by
  simp at h
  rcases h with rfl | rfl <;> rfl)
theorem zAL : ∀ u x, zz.enc u x = [(.int .i64 x.X), (.int .i64 x.Y)] := fun _ _ => rfl
theorem zJD : zz.Tri := fun _ _ _ _ => trivial
def zJx : FlR zC where
  Ad := (Option Addr × Nat) × (Option Addr × Nat)
  sz := 8
  enc u x := [(.int .i64 x.Kind), (.string x.Name), (.int .i64 x.At.X), (.int .i64 x.At.Y), (.slice u.1.1 (x.Points).length u.1.2), (.int .i64 x.NX), (.int .i64 x.NY), (.slice u.2.1 (x.Steps).length u.2.2)]
  okb S W u x := Sl S W zz u.1.1 u.1.2 x.Points
  ua u := u.2
  sub x := x.Steps
  len _ _ := rfl
  one _ _ v h := by
    simp at h
    rcases h with rfl | rfl | rfl | rfl | rfl | rfl | rfl | rfl <;> rfl
  loc h hs hb := h.go hs hb
def zJ : Fl zC := zJx.fix
theorem WI {S : Nat → Prop} {W : World} {u : (Option Addr × Nat) × (Option Addr × Nat)} {x : zC} : zJ.ok S W u x ↔ Sl S W zz u.1.1 u.1.2 x.Points ∧ Sl S W zJ u.2.1 u.2.2 x.Steps :=
  FlR.zii zJx
def zW : Fl zg where
  Ad := (Option Addr × Nat)
  sz := 2
  enc u x := [(.string x.Name), (.slice u.1 (x.Rects).length u.2)]
  ok S W u x := Sl S W zR u.1 u.2 x.Rects
  len _ _ := rfl
  one _ _ v h := by
    simp at h
    rcases h with rfl | rfl <;> rfl
  loc h hs hb := h.go hs hb
def QR : Fl Int := Fl.flat 1 (fun x => [(.int .i64 x)]) (fun _ => rfl) (fun _ u h => by
  simp at h
  subst h; rfl)
theorem WF : ∀ u x, QR.enc u x = [(.int .i64 x)] := fun _ _ => rfl
theorem zRM : QR.Tri := fun _ _ _ _ => trivial
def zS : Fl zZ where
  Ad := (Option Addr × Nat)
  sz := 3
  enc u x := [(.int .i64 x.Y0), (.int .i64 x.Y1), (.slice u.1 (x.Xs).length u.2)]
  ok S W u x := Sl S W QR u.1 u.2 x.Xs
  len _ _ := rfl
  one _ _ v h := by
    simp at h
    rcases h with rfl | rfl | rfl <;> rfl
  loc h hs hb := h.go hs hb
def JJ : Fl (List zZ) where
  Ad := (Option Addr × Nat)
  sz := 1
  enc u x := [(.slice u.1 (x).length u.2)]
  ok S W u x := Sl S W zS u.1 u.2 x
  len _ _ := rfl
  one _ _ v h := by
    simp at h
    subst h; rfl
  loc h hs hb := h.go hs hb
def zO7 : Fl (List zI) where
  Ad := (Option Addr × Nat)
  sz := 1
  enc u x := [(.slice u.1 (x).length u.2)]
  ok S W u x := Sl S W zz u.1 u.2 x
  len _ _ := rfl
  one _ _ v h := by
    simp at h
    subst h; rfl
  loc h hs hb := h.go hs hb
def QO : Lens zJ zz where
  get x := x.Points
  ga u := u.1
  okR S W u x := Sl S W zJ u.2.1 u.2.2 x.Steps
  ok S W u x h1 h2 := WI.2 ⟨h2, h1⟩
  locR h hs hb := h.go hs hb
theorem zLc : zBJ Tryz.prog 22 = some false := by kernel_rfl
theorem zEg : zBJ Tryz.prog 23 = some false := by kernel_rfl
theorem Wt : zBJ Tryz.prog 25 = some true := by kernel_rfl
theorem Kk : zBJ Tryz.prog 27 = some true := by kernel_rfl
theorem zIz : zBJ Tryz.prog 29 = some true := by kernel_rfl
theorem zm : zBJ Tryz.prog 3 = some false := by kernel_rfl
theorem zNC : zBJ Tryz.prog 30 = some false := by kernel_rfl
theorem zJr : zBJ Tryz.prog 4 = some false := by kernel_rfl
theorem zAu : zBJ Tryz.prog 40 = some true := by kernel_rfl
theorem zPO : zBJ Tryz.prog 44 = some false := by kernel_rfl
theorem zUH : zBJ Tryz.prog 55 = some true := by kernel_rfl
theorem zEf : zBJ Tryz.prog 57 = some false := by kernel_rfl
theorem zLb : zBJ Tryz.prog 59 = some true := by kernel_rfl
theorem zbX : zBJ Tryz.prog 75 = some false := by kernel_rfl
theorem zCt : zBJ Tryz.prog 78 = some false := by kernel_rfl
theorem zXA : zBJ Tryz.prog 80 = some true := by kernel_rfl
theorem zPv : zBJ Tryz.prog 9 = some false := by kernel_rfl
theorem zUG : zBJ Tryz.prog 91 = some true := by kernel_rfl
theorem zjd : zA4 Tryz.prog 22 = some 1 := by kernel_rfl
theorem zjc : zA4 Tryz.prog 23 = some 1 := by kernel_rfl
theorem Kn : zA4 Tryz.prog 25 = some 3 := by kernel_rfl
theorem JG : zA4 Tryz.prog 27 = some 2 := by kernel_rfl
theorem zIB : zA4 Tryz.prog 29 = some 4 := by kernel_rfl
theorem zE8 : zA4 Tryz.prog 3 = some 1 := by kernel_rfl
theorem zjb : zA4 Tryz.prog 30 = some 1 := by kernel_rfl
theorem ze7 : zA4 Tryz.prog 4 = some 1 := by kernel_rfl
theorem KM : zA4 Tryz.prog 40 = some 4 := by kernel_rfl
theorem zYq : zA4 Tryz.prog 44 = some 1 := by kernel_rfl
theorem zIZ : zA4 Tryz.prog 55 = some 4 := by kernel_rfl
theorem zdy : zA4 Tryz.prog 57 = some 1 := by kernel_rfl
theorem zET : zA4 Tryz.prog 59 = some 8 := by kernel_rfl
theorem zja : zA4 Tryz.prog 75 = some 1 := by kernel_rfl
theorem zdx : zA4 Tryz.prog 78 = some 1 := by kernel_rfl
theorem zMl : zA4 Tryz.prog 80 = some 3 := by kernel_rfl
theorem zKi : zA4 Tryz.prog 91 = some 2 := by kernel_rfl
theorem zNz : zeroOf Tryz.prog 25 = some [(.int .i64 0), (.slice none 0 0), (.slice none 0 0)] := by kernel_rfl
theorem zF7 : zeroOf Tryz.prog 27 = some [(.int .i64 0), (.int .i64 0)] := by kernel_rfl
theorem zjF : zeroOf Tryz.prog 29 = some [(.bool false), (.int .i64 0), (.int .i64 0), (.int .i64 0)] := by kernel_rfl
theorem zXa : zeroOf Tryz.prog 3 = some [(.int .i64 0)] := by kernel_rfl
theorem zDE : zeroOf Tryz.prog 40 = some [(.int .i64 0), (.int .i64 0), (.int .i64 0), (.int .i64 0)] := by kernel_rfl
theorem zdr : zeroOf Tryz.prog 55 = some [(.bool false), (.bool false), (.bool false), (.bool false)] := by kernel_rfl
theorem zSP : zeroOf Tryz.prog 59 = some [(.int .i64 0), (.string ⟨#[]⟩), (.int .i64 0), (.int .i64 0), (.slice none 0 0), (.int .i64 0), (.int .i64 0), (.slice none 0 0)] := by kernel_rfl
theorem zjE : zeroOf Tryz.prog 78 = some [(.slice none 0 0)] := by kernel_rfl
theorem zYM : zeroOf Tryz.prog 80 = some [(.int .i64 0), (.int .i64 0), (.slice none 0 0)] := by kernel_rfl
theorem zYL : zeroOf Tryz.prog 91 = some [(.string ⟨#[]⟩), (.slice none 0 0)] := by kernel_rfl
theorem zjG : zeroOf Tryz.prog 84 = some [.pointer none, .slice none 0 0] := by kernel_rfl
theorem zdq : (zeroOf Tryz.prog 27).map List.length = some 2 := by kernel_rfl
theorem zYK : (zeroOf Tryz.prog 3).map List.length = some 1 := by kernel_rfl
theorem zSO : (zeroOf Tryz.prog 40).map List.length = some 4 := by kernel_rfl
theorem zjD : (zeroOf Tryz.prog 44).map List.length = some 1 := by kernel_rfl
theorem zYJ : (zeroOf Tryz.prog 59).map List.length = some 8 := by kernel_rfl
theorem zjC : (zeroOf Tryz.prog 80).map List.length = some 3 := by kernel_rfl
theorem zjB : (zeroOf Tryz.prog 91).map List.length = some 2 := by kernel_rfl
theorem zeh : (Tryz.prog.info? 27).map (·.bytes) = some 16 := by kernel_rfl
theorem zbI : (Tryz.prog.info? 3).map (·.bytes) = some 8 := by kernel_rfl
theorem zUC : (Tryz.prog.info? 40).map (·.bytes) = some 32 := by kernel_rfl
theorem znE : (Tryz.prog.info? 44).map (·.bytes) = some 24 := by kernel_rfl
theorem zbH : (Tryz.prog.info? 59).map (·.bytes) = some 104 := by kernel_rfl
theorem znD : (Tryz.prog.info? 80).map (·.bytes) = some 40 := by kernel_rfl
theorem znC : (Tryz.prog.info? 91).map (·.bytes) = some 40 := by kernel_rfl
theorem Vg : JQ Tryz.prog 25 0 = some 0 := by kernel_rfl
theorem zEH : JQ Tryz.prog 25 1 = some 1 := by kernel_rfl
theorem zGH : JQ Tryz.prog 25 2 = some 2 := by kernel_rfl
theorem Qy : JQ Tryz.prog 27 0 = some 0 := by kernel_rfl
theorem Qx : JQ Tryz.prog 27 1 = some 1 := by kernel_rfl
theorem zWW : JQ Tryz.prog 29 0 = some 0 := by kernel_rfl
theorem zRt : JQ Tryz.prog 29 1 = some 1 := by kernel_rfl
theorem zGG : JQ Tryz.prog 29 2 = some 2 := by kernel_rfl
theorem WX : JQ Tryz.prog 40 0 = some 0 := by kernel_rfl
theorem zAq : JQ Tryz.prog 40 1 = some 1 := by kernel_rfl
theorem zC0 : JQ Tryz.prog 40 2 = some 2 := by kernel_rfl
theorem zDe : JQ Tryz.prog 40 3 = some 3 := by kernel_rfl
theorem zWV : JQ Tryz.prog 55 0 = some 0 := by kernel_rfl
theorem zdB : JQ Tryz.prog 55 1 = some 1 := by kernel_rfl
theorem zWU : JQ Tryz.prog 55 2 = some 2 := by kernel_rfl
theorem zWT : JQ Tryz.prog 55 3 = some 3 := by kernel_rfl
theorem zEG : JQ Tryz.prog 59 0 = some 0 := by kernel_rfl
theorem zNZ : JQ Tryz.prog 59 1 = some 1 := by kernel_rfl
theorem zAD : JQ Tryz.prog 59 2 = some 2 := by kernel_rfl
theorem zAY : JQ Tryz.prog 59 3 = some 4 := by kernel_rfl
theorem zJZ : JQ Tryz.prog 59 4 = some 5 := by kernel_rfl
theorem zJY : JQ Tryz.prog 59 5 = some 6 := by kernel_rfl
theorem zEF : JQ Tryz.prog 59 6 = some 7 := by kernel_rfl
theorem zLH : JQ Tryz.prog 77 0 = some 0 := by kernel_rfl
theorem zNY : JQ Tryz.prog 77 1 = some 3 := by kernel_rfl
theorem zJX : JQ Tryz.prog 77 2 = some 4 := by kernel_rfl
theorem zWS : JQ Tryz.prog 77 3 = some 5 := by kernel_rfl
theorem zLG : JQ Tryz.prog 77 4 = some 6 := by kernel_rfl
theorem zHe : JQ Tryz.prog 77 5 = some 7 := by kernel_rfl
theorem zLF : JQ Tryz.prog 77 6 = some 9 := by kernel_rfl
theorem zWR : JQ Tryz.prog 77 7 = some 10 := by kernel_rfl
theorem zdA : JQ Tryz.prog 77 8 = some 11 := by kernel_rfl
theorem zGF : JQ Tryz.prog 80 0 = some 0 := by kernel_rfl
theorem zDd : JQ Tryz.prog 80 1 = some 1 := by kernel_rfl
theorem zCa : JQ Tryz.prog 80 2 = some 2 := by kernel_rfl
theorem zLE : JQ Tryz.prog 91 0 = some 0 := by kernel_rfl
theorem zFE : JQ Tryz.prog 91 1 = some 1 := by kernel_rfl
theorem zRv : zO9 Tryz.prog 55 1 = some (1, 4) := by kernel_rfl
theorem zij : elemOf? Tryz.prog 186 = some (57, 1) := by kernel_rfl
theorem zLL : elemOf? Tryz.prog 22 = some (91, 2) := by kernel_rfl
theorem zIs : elemOf? Tryz.prog 23 = some (59, 8) := by kernel_rfl
theorem zB5 : elemOf? Tryz.prog 30 = some (40, 4) := by kernel_rfl
theorem zCh : elemOf? Tryz.prog 44 = some (80, 3) := by kernel_rfl
theorem zEc : elemOf? Tryz.prog 57 = some (27, 2) := by kernel_rfl
theorem za2 : elemOf? Tryz.prog 75 = some (44, 1) := by kernel_rfl
theorem zAr : elemOf? Tryz.prog 78 = some (3, 1) := by kernel_rfl
theorem zey : Tryz.prog.underlying 186 = some (.slice 57) := by kernel_rfl
theorem zMi : Tryz.prog.underlying 22 = some (.slice 91) := by kernel_rfl
theorem zF8 : Tryz.prog.underlying 23 = some (.slice 59) := by kernel_rfl
theorem zA7 : Tryz.prog.underlying 30 = some (.slice 40) := by kernel_rfl
theorem zjP : Tryz.prog.underlying 4 = some (.bool) := by kernel_rfl
theorem zEz : Tryz.prog.underlying 44 = some (.slice 80) := by kernel_rfl
theorem zEy : Tryz.prog.underlying 57 = some (.slice 27) := by kernel_rfl
theorem zdt : Tryz.prog.underlying 75 = some (.slice 44) := by kernel_rfl
theorem zCe : Tryz.prog.underlying 78 = some (.slice 3) := by kernel_rfl
theorem zbz : Tryz.prog.underlying 9 = some (.string) := by kernel_rfl
def zBq (a b : zI) : Bool := (a.X == b.X) && ((a.Y == b.Y) && true)
theorem zRw {a b : zI} : zBq a b = true ↔ a = b := by
  cases a; cases b; simp [zBq, zJE]
theorem za0 (a b : zI) (d : Nat) (W : World) : (Op.equalIn (d + 2) 27 (.agg #[(.int .i64 a.X), (.int .i64 a.Y)]) (.agg #[(.int .i64 b.X), (.int .i64 b.Y)])).run Tryz.prog W = .ok (zBq a b) W := by
  rw [show d + 2 = (d + 1) + 1 from rfl, run_equalIn_struct W _ 27 _ _ (by kernel_rfl) (by kernel_rfl)]
  simp only [Program.fieldsOf, Tryz.underlying27]
  exact zG4 rfl (zGt zm rfl) (zGt zm rfl) (zMX Tryz.underlying3) (zG4 rfl (zGt zm rfl) (zGt zm rfl) (zMX Tryz.underlying3) (zWd))
theorem zfF {ρ : Operand → Value} {W : World} {dd : Option Tmp} {ty T' : TypeId} {pos : String} {af : Array Edge} {g : Option (Nat × Bool)} {p q : Operand} (a b : zI) (hp : ρ p = .agg #[(.int .i64 a.X), (.int .i64 a.Y)]) (hq : ρ q = .agg #[(.int .i64 b.X), (.int .i64 b.Y)]) : (execOp ρ ⟨dd, .binOp .eql 27 p q T', ty, pos, af, g⟩).run Tryz.prog W = .ok (.value (.bool (zBq a b))) W :=
  zSq (m := 9998 + 2) rfl (by kernel_rfl) (za0 a b 9998 W) hp hq
theorem zUr {ρ : Operand → Value} {W : World} {dd : Option Tmp} {ty T' : TypeId} {pos : String} {af : Array Edge} {g : Option (Nat × Bool)} {p q : Operand} (a b : zI) (hp : ρ p = .agg #[(.int .i64 a.X), (.int .i64 a.Y)]) (hq : ρ q = .agg #[(.int .i64 b.X), (.int .i64 b.Y)]) : (execOp ρ ⟨dd, .binOp .neq 27 p q T', ty, pos, af, g⟩).run Tryz.prog W = .ok (.value (.bool (!zBq a b))) W :=
  zSo (m := 9998 + 2) rfl (by kernel_rfl) (za0 a b 9998 W) hp hq
def zHf (a b : zK) : Bool := (a.X0 == b.X0) && ((a.Y0 == b.Y0) && ((a.X1 == b.X1) && ((a.Y1 == b.Y1) && true)))
theorem zIr {a b : zK} : zHf a b = true ↔ a = b := by
  cases a; cases b; simp [zHf, zJE]
theorem zaz (a b : zK) (d : Nat) (W : World) : (Op.equalIn (d + 2) 40 (.agg #[(.int .i64 a.X0), (.int .i64 a.Y0), (.int .i64 a.X1), (.int .i64 a.Y1)]) (.agg #[(.int .i64 b.X0), (.int .i64 b.Y0), (.int .i64 b.X1), (.int .i64 b.Y1)])).run Tryz.prog W = .ok (zHf a b) W := by
  rw [show d + 2 = (d + 1) + 1 from rfl, run_equalIn_struct W _ 40 _ _ (by kernel_rfl) (by kernel_rfl)]
  simp only [Program.fieldsOf, Tryz.underlying40]
  exact zG4 rfl (zGt zm rfl) (zGt zm rfl) (zMX Tryz.underlying3) (zG4 rfl (zGt zm rfl) (zGt zm rfl) (zMX Tryz.underlying3) (zG4 rfl (zGt zm rfl) (zGt zm rfl) (zMX Tryz.underlying3) (zG4 rfl (zGt zm rfl) (zGt zm rfl) (zMX Tryz.underlying3) (zWd))))
theorem zfE {ρ : Operand → Value} {W : World} {dd : Option Tmp} {ty T' : TypeId} {pos : String} {af : Array Edge} {g : Option (Nat × Bool)} {p q : Operand} (a b : zK) (hp : ρ p = .agg #[(.int .i64 a.X0), (.int .i64 a.Y0), (.int .i64 a.X1), (.int .i64 a.Y1)]) (hq : ρ q = .agg #[(.int .i64 b.X0), (.int .i64 b.Y0), (.int .i64 b.X1), (.int .i64 b.Y1)]) : (execOp ρ ⟨dd, .binOp .eql 40 p q T', ty, pos, af, g⟩).run Tryz.prog W = .ok (.value (.bool (zHf a b))) W :=
  zSq (m := 9998 + 2) rfl (by kernel_rfl) (zaz a b 9998 W) hp hq
theorem zUq {ρ : Operand → Value} {W : World} {dd : Option Tmp} {ty T' : TypeId} {pos : String} {af : Array Edge} {g : Option (Nat × Bool)} {p q : Operand} (a b : zK) (hp : ρ p = .agg #[(.int .i64 a.X0), (.int .i64 a.Y0), (.int .i64 a.X1), (.int .i64 a.Y1)]) (hq : ρ q = .agg #[(.int .i64 b.X0), (.int .i64 b.Y0), (.int .i64 b.X1), (.int .i64 b.Y1)]) : (execOp ρ ⟨dd, .binOp .neq 40 p q T', ty, pos, af, g⟩).run Tryz.prog W = .ok (.value (.bool (!zHf a b))) W :=
  zSo (m := 9998 + 2) rfl (by kernel_rfl) (zaz a b 9998 W) hp hq
end Go.Proofs.YtneghcpnehiffaaGreatDoor
