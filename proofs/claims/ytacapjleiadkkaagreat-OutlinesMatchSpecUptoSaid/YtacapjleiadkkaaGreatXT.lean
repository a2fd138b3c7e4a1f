/- Types of the data, and closed facts of the program's table of types. -/
import Derived.Test.YtacapjleiadkkaaGreatProg
import Derived.Test.YtacapjleiadkkaaGreatJ2
import Derived.Test.YtacapjleiadkkaaGreatSH
namespace Go.Proofs.YtacapjleiadkkaaGreat
open Go.RowKit
set_option maxRecDepth 100000
structure zJ where
  X0 : Int
  Y0 : Int
  X1 : Int
  Y1 : Int
structure JD where
  Y0 : Int
  Y1 : Int
  Xs : (List Int)
structure zG where
  X : Int
  Y : Int
structure Qw where
  from_ : zG
  to_ : zG
structure KH where
  from_ : Int
  to_ : Int
structure zk where
  from_ : Int
  to_ : Int
  spans : (List KH)
structure zCq where
  xs : (List Int)
  ys : (List Int)
  in_ : (List (List Bool))
structure zM where
  from_ : zG
  to_ : zG
def zL : Fl zJ := Fl.flat 4 (fun x => [(.int .i64 x.X0), (.int .i64 x.Y0), (.int .i64 x.X1), (.int .i64 x.Y1)]) (fun _ => rfl) (fun _ u h => by
  simp at h
  rcases h with rfl | rfl | rfl | rfl <;> rfl)
theorem KL : ∀ u x, zL.enc u x = [(.int .i64 x.X0), (.int .i64 x.Y0), (.int .i64 x.X1), (.int .i64 x.Y1)] := fun _ _ => rfl
theorem WW : zL.Tri := fun _ _ _ _ => trivial
def zW : Fl Int := Fl.flat 1 (fun x => [(.int .i64 x)]) (fun _ => rfl) (fun _ u h => by
  simp at h
  subst h; rfl)
theorem Jd : ∀ u x, zW.enc u x = [(.int .i64 x)] := fun _ _ => rfl
theorem zH6 : zW.Tri := fun _ _ _ _ => trivial
def Qi : Fl JD where
  Ad := (Option Addr × Nat)
  sz := 3
  enc u x := [(.int .i64 x.Y0), (.int .i64 x.Y1), (.slice u.1 (x.Xs).length u.2)]
  ok S W u x := Sl S W zW u.1 u.2 x.Xs
  len _ _ := rfl
  one _ _ v h := by
    simp at h
    rcases h with rfl | rfl | rfl <;> rfl
  loc h hs hb := h.go hs hb
def QJ : Fl Qw := Fl.flat 4 (fun x => [(.int .i64 x.from_.X), (.int .i64 x.from_.Y), (.int .i64 x.to_.X), (.int .i64 x.to_.Y)]) (fun _ => rfl) (fun _ u h => by
  simp at h
  rcases h with rfl | rfl | rfl | rfl <;> rfl)
theorem zCu : ∀ u x, QJ.enc u x = [(.int .i64 x.from_.X), (.int .i64 x.from_.Y), (.int .i64 x.to_.X), (.int .i64 x.to_.Y)] := fun _ _ => rfl
theorem zNh : QJ.Tri := fun _ _ _ _ => trivial
def VQ : Fl Bool := Fl.flat 1 (fun x => [(.bool x)]) (fun _ => rfl) (fun _ u h => by
  simp at h
  subst h; rfl)
theorem zI1 : ∀ u x, VQ.enc u x = [(.bool x)] := fun _ _ => rfl
theorem zRi : VQ.Tri := fun _ _ _ _ => trivial
def zz : Fl zG := Fl.flat 2 (fun x => [(.int .i64 x.X), (.int .i64 x.Y)]) (fun _ => rfl) (fun _ u h => by
  simp at h
  rcases h with rfl | rfl <;> rfl)
theorem Jb : ∀ u x, zz.enc u x = [(.int .i64 x.X), (.int .i64 x.Y)] := fun _ _ => rfl
theorem zDB : zz.Tri := fun _ _ _ _ => trivial
def zS : Fl (List zG) where
  Ad := (Option Addr × Nat)
  sz := 1
  enc u x := [(.slice u.1 (x).length u.2)]
  ok S W u x := Sl S W zz u.1 u.2 x
  len _ _ := rfl
  one _ _ v h := by
    simp at h
    subst h; rfl
  loc h hs hb := h.go hs hb
def Qm : Fl KH := Fl.flat 2 (fun x => [(.int .i64 x.from_), (.int .i64 x.to_)]) (fun _ => rfl) (fun _ u h => by
  simp at h
  rcases h with rfl | rfl <;> rfl)
theorem zCa : ∀ u x, Qm.enc u x = [(.int .i64 x.from_), (.int .i64 x.to_)] := fun _ _ => rfl
theorem zJ7 : Qm.Tri := fun _ _ _ _ => trivial
def zm : Fl zk where
  Ad := (Option Addr × Nat)
  sz := 3
  enc u x := [(.int .i64 x.from_), (.int .i64 x.to_), (.slice u.1 (x.spans).length u.2)]
  ok S W u x := Sl S W Qm u.1 u.2 x.spans
  len _ _ := rfl
  one _ _ v h := by
    simp at h
    rcases h with rfl | rfl | rfl <;> rfl
  loc h hs hb := h.go hs hb
def Ve : Fl (List Bool) where
  Ad := (Option Addr × Nat)
  sz := 1
  enc u x := [(.slice u.1 (x).length u.2)]
  ok S W u x := Sl S W VQ u.1 u.2 x
  len _ _ := rfl
  one _ _ v h := by
    simp at h
    subst h; rfl
  loc h hs hb := h.go hs hb
def za : Fl zM := Fl.flat 4 (fun x => [(.int .i64 x.from_.X), (.int .i64 x.from_.Y), (.int .i64 x.to_.X), (.int .i64 x.to_.Y)]) (fun _ => rfl) (fun _ u h => by
  simp at h
  rcases h with rfl | rfl | rfl | rfl <;> rfl)
theorem Va : ∀ u x, za.enc u x = [(.int .i64 x.from_.X), (.int .i64 x.from_.Y), (.int .i64 x.to_.X), (.int .i64 x.to_.Y)] := fun _ _ => rfl
theorem zHr : za.Tri := fun _ _ _ _ => trivial
theorem zSe : zBV Tryz.prog 107 = some false := by kernel_rfl
theorem zPI : zBV Tryz.prog 115 = some false := by kernel_rfl
theorem zLs : zBV Tryz.prog 117 = some true := by kernel_rfl
theorem zSd : zBV Tryz.prog 125 = some true := by kernel_rfl
theorem QA : zBV Tryz.prog 3 = some false := by kernel_rfl
theorem zDJ : zBV Tryz.prog 30 = some false := by kernel_rfl
theorem WP : zBV Tryz.prog 33 = some true := by kernel_rfl
theorem zCw : zBV Tryz.prog 36 = some true := by kernel_rfl
theorem zY8 : zBV Tryz.prog 4 = some false := by kernel_rfl
theorem zAA : zBV Tryz.prog 59 = some false := by kernel_rfl
theorem zX2 : zBV Tryz.prog 67 = some true := by kernel_rfl
theorem zHk : zBV Tryz.prog 68 = some false := by kernel_rfl
theorem zb2 : zBV Tryz.prog 70 = some false := by kernel_rfl
theorem zGv : zBV Tryz.prog 72 = some true := by kernel_rfl
theorem zUc : zBV Tryz.prog 73 = some false := by kernel_rfl
theorem zpw : zBV Tryz.prog 75 = some false := by kernel_rfl
theorem zew : zBV Tryz.prog 76 = some false := by kernel_rfl
theorem zPH : zBV Tryz.prog 87 = some true := by kernel_rfl
theorem zRO : zBV Tryz.prog 95 = some false := by kernel_rfl
theorem zpv : zBV Tryz.prog 98 = some true := by kernel_rfl
theorem zfG : zBB Tryz.prog 107 = some 1 := by kernel_rfl
theorem zfF : zBB Tryz.prog 115 = some 1 := by kernel_rfl
theorem zH7 : zBB Tryz.prog 117 = some 3 := by kernel_rfl
theorem zJh : zBB Tryz.prog 125 = some 2 := by kernel_rfl
theorem zGN : zBB Tryz.prog 3 = some 1 := by kernel_rfl
theorem zWe : zBB Tryz.prog 30 = some 1 := by kernel_rfl
theorem KI : zBB Tryz.prog 33 = some 2 := by kernel_rfl
theorem zAK : zBB Tryz.prog 36 = some 4 := by kernel_rfl
theorem zYY : zBB Tryz.prog 4 = some 1 := by kernel_rfl
theorem zWd : zBB Tryz.prog 59 = some 1 := by kernel_rfl
theorem zLw : zBB Tryz.prog 67 = some 3 := by kernel_rfl
theorem zeC : zBB Tryz.prog 68 = some 1 := by kernel_rfl
theorem zli : zBB Tryz.prog 70 = some 1 := by kernel_rfl
theorem zER : zBB Tryz.prog 72 = some 4 := by kernel_rfl
theorem zeB : zBB Tryz.prog 73 = some 1 := by kernel_rfl
theorem zlh : zBB Tryz.prog 75 = some 1 := by kernel_rfl
theorem zlg : zBB Tryz.prog 76 = some 1 := by kernel_rfl
theorem zGX : zBB Tryz.prog 87 = some 4 := by kernel_rfl
theorem zeA : zBB Tryz.prog 98 = some 3 := by kernel_rfl
theorem zez : zeroOf Tryz.prog 107 = some [.nilFunc] := by kernel_rfl
theorem zUu : zeroOf Tryz.prog 117 = some [(.slice none 0 0), (.slice none 0 0), (.slice none 0 0)] := by kernel_rfl
theorem zlM : zeroOf Tryz.prog 3 = some [(.int .i64 0)] := by kernel_rfl
theorem zDS : zeroOf Tryz.prog 33 = some [(.int .i64 0), (.int .i64 0)] := by kernel_rfl
theorem zHY : zeroOf Tryz.prog 36 = some [(.int .i64 0), (.int .i64 0), (.int .i64 0), (.int .i64 0)] := by kernel_rfl
theorem zey : zeroOf Tryz.prog 4 = some [(.bool false)] := by kernel_rfl
theorem zlL : zeroOf Tryz.prog 59 = some [(.slice none 0 0)] := by kernel_rfl
theorem zZE : zeroOf Tryz.prog 67 = some [(.int .i64 0), (.int .i64 0), (.slice none 0 0)] := by kernel_rfl
theorem zd3 : zeroOf Tryz.prog 68 = some [(.slice none 0 0)] := by kernel_rfl
theorem zlK : zeroOf Tryz.prog 70 = some [(.map none)] := by kernel_rfl
theorem zd2 : zeroOf Tryz.prog 72 = some [(.int .i64 0), (.int .i64 0), (.int .i64 0), (.int .i64 0)] := by kernel_rfl
theorem zlJ : zeroOf Tryz.prog 73 = some [(.slice none 0 0)] := by kernel_rfl
theorem zlI : zeroOf Tryz.prog 75 = some [.nilFunc] := by kernel_rfl
theorem zlH : zeroOf Tryz.prog 76 = some [.nilFunc] := by kernel_rfl
theorem zlG : zeroOf Tryz.prog 87 = some [(.int .i64 0), (.int .i64 0), (.int .i64 0), (.int .i64 0)] := by kernel_rfl
theorem zUt : (zeroOf Tryz.prog 125).map List.length = some 2 := by kernel_rfl
theorem zK9 : (zeroOf Tryz.prog 3).map List.length = some 1 := by kernel_rfl
theorem zWY : (zeroOf Tryz.prog 30).map List.length = some 1 := by kernel_rfl
theorem zPv : (zeroOf Tryz.prog 33).map List.length = some 2 := by kernel_rfl
theorem zSs : (zeroOf Tryz.prog 36).map List.length = some 4 := by kernel_rfl
theorem zlF : (zeroOf Tryz.prog 67).map List.length = some 3 := by kernel_rfl
theorem zd1 : (zeroOf Tryz.prog 72).map List.length = some 4 := by kernel_rfl
theorem zlE : (zeroOf Tryz.prog 73).map List.length = some 1 := by kernel_rfl
theorem zSr : (zeroOf Tryz.prog 87).map List.length = some 4 := by kernel_rfl
theorem zlD : (zeroOf Tryz.prog 98).map List.length = some 3 := by kernel_rfl
theorem zWK : (Tryz.prog.info? 125).map (·.bytes) = some 16 := by kernel_rfl
theorem zLq : (Tryz.prog.info? 3).map (·.bytes) = some 8 := by kernel_rfl
theorem zX1 : (Tryz.prog.info? 30).map (·.bytes) = some 24 := by kernel_rfl
theorem zRL : (Tryz.prog.info? 33).map (·.bytes) = some 16 := by kernel_rfl
theorem zUW : (Tryz.prog.info? 36).map (·.bytes) = some 32 := by kernel_rfl
theorem zkx : (Tryz.prog.info? 4).map (·.bytes) = some 1 := by kernel_rfl
theorem zps : (Tryz.prog.info? 67).map (·.bytes) = some 40 := by kernel_rfl
theorem zeu : (Tryz.prog.info? 72).map (·.bytes) = some 32 := by kernel_rfl
theorem zpr : (Tryz.prog.info? 73).map (·.bytes) = some 24 := by kernel_rfl
theorem zUV : (Tryz.prog.info? 87).map (·.bytes) = some 32 := by kernel_rfl
theorem zpq : (Tryz.prog.info? 98).map (·.bytes) = some 40 := by kernel_rfl
theorem zDh : Wp Tryz.prog 117 0 = some 0 := by kernel_rfl
theorem zGp : Wp Tryz.prog 117 1 = some 1 := by kernel_rfl
theorem zGo : Wp Tryz.prog 117 2 = some 2 := by kernel_rfl
theorem zFd : Wp Tryz.prog 125 0 = some 0 := by kernel_rfl
theorem zFc : Wp Tryz.prog 125 1 = some 1 := by kernel_rfl
theorem Wo : Wp Tryz.prog 33 0 = some 0 := by kernel_rfl
theorem VP : Wp Tryz.prog 33 1 = some 1 := by kernel_rfl
theorem zAo : Wp Tryz.prog 36 0 = some 0 := by kernel_rfl
theorem zAL : Wp Tryz.prog 36 1 = some 1 := by kernel_rfl
theorem zE2 : Wp Tryz.prog 36 2 = some 2 := by kernel_rfl
theorem zDg : Wp Tryz.prog 36 3 = some 3 := by kernel_rfl
theorem zE1 : Wp Tryz.prog 67 0 = some 0 := by kernel_rfl
theorem zEN : Wp Tryz.prog 67 1 = some 1 := by kernel_rfl
theorem zBe : Wp Tryz.prog 67 2 = some 2 := by kernel_rfl
theorem zKa : Wp Tryz.prog 72 0 = some 0 := by kernel_rfl
theorem zKZ : Wp Tryz.prog 72 1 = some 2 := by kernel_rfl
theorem zMo : Wp Tryz.prog 87 0 = some 0 := by kernel_rfl
theorem zSO : Wp Tryz.prog 87 1 = some 2 := by kernel_rfl
theorem zXX : Wp Tryz.prog 98 0 = some 0 := by kernel_rfl
theorem zMn : Wp Tryz.prog 98 1 = some 1 := by kernel_rfl
theorem zI0 : Wp Tryz.prog 98 2 = some 2 := by kernel_rfl
theorem zbl : elemOf? Tryz.prog 115 = some (73, 1) := by kernel_rfl
theorem zA3 : elemOf? Tryz.prog 22 = some (36, 4) := by kernel_rfl
theorem zCl : elemOf? Tryz.prog 23 = some (30, 1) := by kernel_rfl
theorem zAh : elemOf? Tryz.prog 30 = some (33, 2) := by kernel_rfl
theorem zKd : elemOf? Tryz.prog 41 = some (67, 3) := by kernel_rfl
theorem Kb : elemOf? Tryz.prog 59 = some (3, 1) := by kernel_rfl
theorem zJP : elemOf? Tryz.prog 68 = some (72, 4) := by kernel_rfl
theorem zKc : elemOf? Tryz.prog 73 = some (4, 1) := by kernel_rfl
theorem zO5 : elemOf? Tryz.prog 83 = some (87, 4) := by kernel_rfl
theorem zMA : elemOf? Tryz.prog 93 = some (98, 3) := by kernel_rfl
theorem zHg : elemOf? Tryz.prog 95 = some (125, 2) := by kernel_rfl
theorem zZD : (Tryz.prog.info? 59).bind (·.zero) = some (.slice none 0 0) := by kernel_rfl
theorem zaG : zb4 Tryz.prog 33 zPo okP := zrF (IT := 3) (by kernel_rfl) (of_decide_eq_true (by kernel_rfl)) ⟨179, by kernel_rfl⟩ (of_decide_eq_true (by kernel_rfl)) (by kernel_rfl) ⟨_, Tryz.underlying33, by kernel_rfl⟩ (by kernel_rfl) (by kernel_rfl) Tryz.underlying3
theorem zVB : Tryz.prog.underlying 115 = some (.slice 73) := by kernel_rfl
theorem zA9 : Tryz.prog.underlying 22 = some (.slice 36) := by kernel_rfl
theorem zDX : Tryz.prog.underlying 23 = some (.slice 30) := by kernel_rfl
theorem zBI : Tryz.prog.underlying 30 = some (.slice 33) := by kernel_rfl
theorem ze9 : Tryz.prog.underlying 4 = some (.bool) := by kernel_rfl
theorem zPx : Tryz.prog.underlying 41 = some (.slice 67) := by kernel_rfl
theorem Vu : Tryz.prog.underlying 59 = some (.slice 3) := by kernel_rfl
theorem zLu : Tryz.prog.underlying 68 = some (.slice 72) := by kernel_rfl
theorem zZY : Tryz.prog.underlying 70 = some (.map 33 59) := by kernel_rfl
theorem zZX : Tryz.prog.underlying 73 = some (.slice 4) := by kernel_rfl
theorem zH4 : Tryz.prog.underlying 83 = some (.slice 87) := by kernel_rfl
theorem zZW : Tryz.prog.underlying 93 = some (.slice 98) := by kernel_rfl
theorem zH3 : Tryz.prog.underlying 95 = some (.slice 125) := by kernel_rfl
def Vo (a b : zG) : Bool := (a.X == b.X) && ((a.Y == b.Y) && true)
theorem zHN {a b : zG} : Vo a b = true ↔ a = b := by
  cases a; cases b; simp [Vo, zRp]
theorem zbi (a b : zG) (d : Nat) (W : World) : (Op.equalIn (d + 2) 33 (.agg #[(.int .i64 a.X), (.int .i64 a.Y)]) (.agg #[(.int .i64 b.X), (.int .i64 b.Y)])).run Tryz.prog W = .ok (Vo a b) W := by
  rw [show d + 2 = (d + 1) + 1 from rfl, run_equalIn_struct W _ 33 _ _ (by kernel_rfl) (by kernel_rfl)]
  simp only [Program.fieldsOf, Tryz.underlying33]
  exact zEZ rfl (zEt QA rfl) (zEt QA rfl) (zIO Tryz.underlying3) (zEZ rfl (zEt QA rfl) (zEt QA rfl) (zIO Tryz.underlying3) (zSQ))
theorem zHB {ρ : Operand → Value} {W : World} {dd : Option Tmp} {ty T' : TypeId} {pos : String} {af : Array Edge} {g : Option (Nat × Bool)} {p q : Operand} (a b : zG) (hp : ρ p = .agg #[(.int .i64 a.X), (.int .i64 a.Y)]) (hq : ρ q = .agg #[(.int .i64 b.X), (.int .i64 b.Y)]) : (execOp ρ ⟨dd, .binOp .eql 33 p q T', ty, pos, af, g⟩).run Tryz.prog W = .ok (.value (.bool (Vo a b))) W :=
  zNy (m := 9998 + 2) rfl (by kernel_rfl) (zbi a b 9998 W) hp hq
theorem zHA {ρ : Operand → Value} {W : World} {dd : Option Tmp} {ty T' : TypeId} {pos : String} {af : Array Edge} {g : Option (Nat × Bool)} {p q : Operand} (a b : zG) (hp : ρ p = .agg #[(.int .i64 a.X), (.int .i64 a.Y)]) (hq : ρ q = .agg #[(.int .i64 b.X), (.int .i64 b.Y)]) : (execOp ρ ⟨dd, .binOp .neq 33 p q T', ty, pos, af, g⟩).run Tryz.prog W = .ok (.value (.bool (!Vo a b))) W :=
  zNx (m := 9998 + 2) rfl (by kernel_rfl) (zbi a b 9998 W) hp hq
def zE3 (a b : zJ) : Bool := (a.X0 == b.X0) && ((a.Y0 == b.Y0) && ((a.X1 == b.X1) && ((a.Y1 == b.Y1) && true)))
theorem zEY {a b : zJ} : zE3 a b = true ↔ a = b := by
  cases a; cases b; simp [zE3, zRp]
theorem zbh (a b : zJ) (d : Nat) (W : World) : (Op.equalIn (d + 2) 36 (.agg #[(.int .i64 a.X0), (.int .i64 a.Y0), (.int .i64 a.X1), (.int .i64 a.Y1)]) (.agg #[(.int .i64 b.X0), (.int .i64 b.Y0), (.int .i64 b.X1), (.int .i64 b.Y1)])).run Tryz.prog W = .ok (zE3 a b) W := by
  rw [show d + 2 = (d + 1) + 1 from rfl, run_equalIn_struct W _ 36 _ _ (by kernel_rfl) (by kernel_rfl)]
  simp only [Program.fieldsOf, Tryz.underlying36]
  exact zEZ rfl (zEt QA rfl) (zEt QA rfl) (zIO Tryz.underlying3) (zEZ rfl (zEt QA rfl) (zEt QA rfl) (zIO Tryz.underlying3) (zEZ rfl (zEt QA rfl) (zEt QA rfl) (zIO Tryz.underlying3) (zEZ rfl (zEt QA rfl) (zEt QA rfl) (zIO Tryz.underlying3) (zSQ))))
theorem zfM {ρ : Operand → Value} {W : World} {dd : Option Tmp} {ty T' : TypeId} {pos : String} {af : Array Edge} {g : Option (Nat × Bool)} {p q : Operand} (a b : zJ) (hp : ρ p = .agg #[(.int .i64 a.X0), (.int .i64 a.Y0), (.int .i64 a.X1), (.int .i64 a.Y1)]) (hq : ρ q = .agg #[(.int .i64 b.X0), (.int .i64 b.Y0), (.int .i64 b.X1), (.int .i64 b.Y1)]) : (execOp ρ ⟨dd, .binOp .eql 36 p q T', ty, pos, af, g⟩).run Tryz.prog W = .ok (.value (.bool (zE3 a b))) W :=
  zNy (m := 9998 + 2) rfl (by kernel_rfl) (zbh a b 9998 W) hp hq
theorem zNw {ρ : Operand → Value} {W : World} {dd : Option Tmp} {ty T' : TypeId} {pos : String} {af : Array Edge} {g : Option (Nat × Bool)} {p q : Operand} (a b : zJ) (hp : ρ p = .agg #[(.int .i64 a.X0), (.int .i64 a.Y0), (.int .i64 a.X1), (.int .i64 a.Y1)]) (hq : ρ q = .agg #[(.int .i64 b.X0), (.int .i64 b.Y0), (.int .i64 b.X1), (.int .i64 b.Y1)]) : (execOp ρ ⟨dd, .binOp .neq 36 p q T', ty, pos, af, g⟩).run Tryz.prog W = .ok (.value (.bool (!zE3 a b))) W :=
  zNx (m := 9998 + 2) rfl (by kernel_rfl) (zbh a b 9998 W) hp hq
def zHM (a b : KH) : Bool := (a.from_ == b.from_) && ((a.to_ == b.to_) && true)
theorem zL9 {a b : KH} : zHM a b = true ↔ a = b := by
  cases a; cases b; simp [zHM, zRp]
theorem zXf (a b : KH) (d : Nat) (W : World) : (Op.equalIn (d + 2) 125 (.agg #[(.int .i64 a.from_), (.int .i64 a.to_)]) (.agg #[(.int .i64 b.from_), (.int .i64 b.to_)])).run Tryz.prog W = .ok (zHM a b) W := by
  rw [show d + 2 = (d + 1) + 1 from rfl, run_equalIn_struct W _ 125 _ _ (by kernel_rfl) (by kernel_rfl)]
  simp only [Program.fieldsOf, Tryz.underlying125]
  exact zEZ rfl (zEt QA rfl) (zEt QA rfl) (zIO Tryz.underlying3) (zEZ rfl (zEt QA rfl) (zEt QA rfl) (zIO Tryz.underlying3) (zSQ))
theorem zeE {ρ : Operand → Value} {W : World} {dd : Option Tmp} {ty T' : TypeId} {pos : String} {af : Array Edge} {g : Option (Nat × Bool)} {p q : Operand} (a b : KH) (hp : ρ p = .agg #[(.int .i64 a.from_), (.int .i64 a.to_)]) (hq : ρ q = .agg #[(.int .i64 b.from_), (.int .i64 b.to_)]) : (execOp ρ ⟨dd, .binOp .eql 125 p q T', ty, pos, af, g⟩).run Tryz.prog W = .ok (.value (.bool (zHM a b))) W :=
  zNy (m := 9998 + 2) rfl (by kernel_rfl) (zXf a b 9998 W) hp hq
theorem zTB {ρ : Operand → Value} {W : World} {dd : Option Tmp} {ty T' : TypeId} {pos : String} {af : Array Edge} {g : Option (Nat × Bool)} {p q : Operand} (a b : KH) (hp : ρ p = .agg #[(.int .i64 a.from_), (.int .i64 a.to_)]) (hq : ρ q = .agg #[(.int .i64 b.from_), (.int .i64 b.to_)]) : (execOp ρ ⟨dd, .binOp .neq 125 p q T', ty, pos, af, g⟩).run Tryz.prog W = .ok (.value (.bool (!zHM a b))) W :=
  zNx (m := 9998 + 2) rfl (by kernel_rfl) (zXf a b 9998 W) hp hq
end Go.Proofs.YtacapjleiadkkaaGreat
