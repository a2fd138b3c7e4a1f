/- Types of the data, and closed facts of the program's table of types. -/
import Derived.Test.YtcjeebkoafonpaaGreatDoorProg
import Derived.Test.YtcjeebkoafonpaaGreatDoorJ2
import Derived.Test.YtcjeebkoafonpaaGreatDoorJ3
import Derived.Test.YtcjeebkoafonpaaGreatDoorSH
namespace Go.Proofs.YtcjeebkoafonpaaGreatDoor
open Go.RowKit
set_option maxRecDepth 100000
structure aQ where
  X0 : Int
  Y0 : Int
  X1 : Int
  Y1 : Int
structure aV where
  Y0 : Int
  Y1 : Int
  Xs : (List Int)
structure au where
  X : Int
  Y : Int
structure fE where
  from_ : au
  to_ : au
structure dK where
  points : (List au)
  area : Int
structure ic where
  Name : ByteArray
  Rects : (List aQ)
structure av where
  Kind : Int
  Name : ByteArray
  At : au
  Points : (List au)
  NX : Int
  NY : Int
  Steps : (List av)
structure gu where
  Unit : Int
  Tools : (List ic)
  Steps : (List av)
structure zI where
  name : Bool
  at_ : Bool
  points : Bool
  repeat_ : Bool
structure eT where
  p : gu
  tools : (List (List aV))
  image : (List aV)
  clear : Bool
  tool : Int
  place : au
  placed : Bool
  off : Int
  on : Int
structure lw where
  dark : Int
  tool : ByteArray
  place : au
  placed : Bool
  last : av
def bq : Fl aQ := Fl.flat 4 (fun x => [(.int .i64 x.X0), (.int .i64 x.Y0), (.int .i64 x.X1), (.int .i64 x.Y1)]) (fun _ => rfl) (fun _ u h => by
  simp at h
  rcases h with rfl | rfl | rfl | rfl <;> rfl)
theorem mK : ∀ u x, bq.enc u x = [(.int .i64 x.X0), (.int .i64 x.Y0), (.int .i64 x.X1), (.int .i64 x.Y1)] := fun _ _ => rfl
theorem qd : bq.PK := fun _ _ _ _ => trivial
def bK : Fl Int := Fl.flat 1 (fun x => [(.int .i64 x)]) (fun _ => rfl) (fun _ u h => by
  simp at h
  subst h; rfl)
theorem je : ∀ u x, bK.enc u x = [(.int .i64 x)] := fun _ _ => rfl
theorem Gy : bK.PK := fun _ _ _ _ => trivial
def aS : Fl aV where
  Ad := (Option Addr × Nat)
  sz := 3
  enc u x := [(.int .i64 x.Y0), (.int .i64 x.Y1), (.slice u.1 (x.Xs).length u.2)]
  ok S W u x := Sl S W bK u.1 u.2 x.Xs
  len _ _ := rfl
  one _ _ v h := by
    simp at h
    rcases h with rfl | rfl | rfl <;> rfl
  loc h hs hb := h.go hs hb
def eO : Fl fE := Fl.flat 4 (fun x => [(.int .i64 x.from_.X), (.int .i64 x.from_.Y), (.int .i64 x.to_.X), (.int .i64 x.to_.Y)]) (fun _ => rfl) (fun _ u h => by
  simp at h
  rcases h with rfl | rfl | rfl | rfl <;> rfl)
theorem qU : ∀ u x, eO.enc u x = [(.int .i64 x.from_.X), (.int .i64 x.from_.Y), (.int .i64 x.to_.X), (.int .i64 x.to_.Y)] := fun _ _ => rfl
theorem DC : eO.PK := fun _ _ _ _ => trivial
def tq : Fl Bool := Fl.flat 1 (fun x => [(.bool x)]) (fun _ => rfl) (fun _ u h => by
  simp at h
  subst h; rfl)
theorem Mi : ∀ u x, tq.enc u x = [(.bool x)] := fun _ _ => rfl
theorem Qk : tq.PK := fun _ _ _ _ => trivial
def aX : Fl au := Fl.flat 2 (fun x => [(.int .i64 x.X), (.int .i64 x.Y)]) (fun _ => rfl) (fun _ u h => by
  simp at h
  rcases h with rfl | rfl <;> rfl)
theorem jF : ∀ u x, aX.enc u x = [(.int .i64 x.X), (.int .i64 x.Y)] := fun _ _ => rfl
theorem uP : aX.PK := fun _ _ _ _ => trivial
def dV : Fl (List au) where
  Ad := (Option Addr × Nat)
  sz := 1
  enc u x := [(.slice u.1 (x).length u.2)]
  ok S W u x := Sl S W aX u.1 u.2 x
  len _ _ := rfl
  one _ _ v h := by
    simp at h
    subst h; rfl
  loc h hs hb := h.go hs hb
def aY : Fl ic where
  Ad := (Option Addr × Nat)
  sz := 2
  enc u x := [(.string x.Name), (.slice u.1 (x.Rects).length u.2)]
  ok S W u x := Sl S W bq u.1 u.2 x.Rects
  len _ _ := rfl
  one _ _ v h := by
    simp at h
    rcases h with rfl | rfl <;> rfl
  loc h hs hb := h.go hs hb
def zV : TG av where
  Ad := (Option Addr × Nat) × (Option Addr × Nat)
  sz := 8
  enc u x := [(.int .i64 x.Kind), (.string x.Name), (.int .i64 x.At.X), (.int .i64 x.At.Y), (.slice u.1.1 (x.Points).length u.1.2), (.int .i64 x.NX), (.int .i64 x.NY), (.slice u.2.1 (x.Steps).length u.2.2)]
  okb S W u x := Sl S W aX u.1.1 u.1.2 x.Points
  ua u := u.2
  sub x := x.Steps
  len _ _ := rfl
  one _ _ v h := by
    simp at h
    rcases h with rfl | rfl | rfl | rfl | rfl | rfl | rfl | rfl <;> rfl
  loc h hs hb := h.go hs hb
def ay : Fl av := zV.fix
theorem kw {S : Nat → Prop} {W : World} {u : (Option Addr × Nat) × (Option Addr × Nat)} {x : av} : ay.ok S W u x ↔ Sl S W aX u.1.1 u.1.2 x.Points ∧ Sl S W ay u.2.1 u.2.2 x.Steps :=
  TG.Td zV
def aO : Fl dK where
  Ad := (Option Addr × Nat)
  sz := 2
  enc u x := [(.slice u.1 (x.points).length u.2), (.int .i64 x.area)]
  ok S W u x := Sl S W aX u.1 u.2 x.points
  len _ _ := rfl
  one _ _ v h := by
    simp at h
    rcases h with rfl | rfl <;> rfl
  loc h hs hb := h.go hs hb
def jc : Fl (List aV) where
  Ad := (Option Addr × Nat)
  sz := 1
  enc u x := [(.slice u.1 (x).length u.2)]
  ok S W u x := Sl S W aS u.1 u.2 x
  len _ _ := rfl
  one _ _ v h := by
    simp at h
    subst h; rfl
  loc h hs hb := h.go hs hb
theorem PH : lK Tryz.prog 102 = some false := by kernel_rfl
theorem H8 : lK Tryz.prog 109 = some true := by kernel_rfl
theorem uw : lK Tryz.prog 121 = some false := by kernel_rfl
theorem KY : lK Tryz.prog 123 = some false := by kernel_rfl
theorem sP : lK Tryz.prog 125 = some true := by kernel_rfl
theorem KX : lK Tryz.prog 126 = some false := by kernel_rfl
theorem Tu : lK Tryz.prog 128 = some false := by kernel_rfl
theorem PG : lK Tryz.prog 129 = some false := by kernel_rfl
theorem H7 : lK Tryz.prog 162 = some false := by kernel_rfl
theorem PE : lK Tryz.prog 185 = some true := by kernel_rfl
theorem CG : lK Tryz.prog 23 = some false := by kernel_rfl
theorem tX : lK Tryz.prog 24 = some false := by kernel_rfl
theorem ql : lK Tryz.prog 26 = some true := by kernel_rfl
theorem bT : lK Tryz.prog 3 = some false := by kernel_rfl
theorem tV : lK Tryz.prog 38 = some true := by kernel_rfl
theorem Fu : lK Tryz.prog 4 = some false := by kernel_rfl
theorem tT : lK Tryz.prog 43 = some false := by kernel_rfl
theorem rE : lK Tryz.prog 45 = some true := by kernel_rfl
theorem jZ : lK Tryz.prog 47 = some true := by kernel_rfl
theorem RP : lK Tryz.prog 48 = some false := by kernel_rfl
theorem yY : lK Tryz.prog 53 = some true := by kernel_rfl
theorem RO : lK Tryz.prog 54 = some false := by kernel_rfl
theorem JF : lK Tryz.prog 62 = some false := by kernel_rfl
theorem Rh : lK Tryz.prog 9 = some false := by kernel_rfl
theorem mR : lK Tryz.prog 96 = some false := by kernel_rfl
theorem JE : lK Tryz.prog 98 = some true := by kernel_rfl
theorem Sg : lT Tryz.prog 102 = some 1 := by kernel_rfl
theorem zZ : lT Tryz.prog 109 = some 13 := by kernel_rfl
theorem NQ : lT Tryz.prog 121 = some 1 := by kernel_rfl
theorem Sc : lT Tryz.prog 123 = some 1 := by kernel_rfl
theorem qf : lT Tryz.prog 125 = some 4 := by kernel_rfl
theorem Sb : lT Tryz.prog 126 = some 1 := by kernel_rfl
theorem Sa : lT Tryz.prog 128 = some 1 := by kernel_rfl
theorem R8 : lT Tryz.prog 129 = some 1 := by kernel_rfl
theorem R7 : lT Tryz.prog 162 = some 1 := by kernel_rfl
theorem DD : lT Tryz.prog 185 = some 4 := by kernel_rfl
theorem NP : lT Tryz.prog 24 = some 1 := by kernel_rfl
theorem mr : lT Tryz.prog 26 = some 3 := by kernel_rfl
theorem zY : lT Tryz.prog 3 = some 1 := by kernel_rfl
theorem mI : lT Tryz.prog 38 = some 4 := by kernel_rfl
theorem R6 : lT Tryz.prog 4 = some 1 := by kernel_rfl
theorem Rx : lT Tryz.prog 43 = some 1 := by kernel_rfl
theorem mH : lT Tryz.prog 45 = some 2 := by kernel_rfl
theorem gV : lT Tryz.prog 47 = some 2 := by kernel_rfl
theorem TZ : lT Tryz.prog 48 = some 1 := by kernel_rfl
theorem qF : lT Tryz.prog 53 = some 8 := by kernel_rfl
theorem TY : lT Tryz.prog 58 = some 2 := by kernel_rfl
theorem Rw : lT Tryz.prog 62 = some 1 := by kernel_rfl
theorem Rv : lT Tryz.prog 96 = some 1 := by kernel_rfl
theorem zS : lT Tryz.prog 98 = some 3 := by kernel_rfl
theorem R3 : zeroOf Tryz.prog 102 = some [.nilFunc] := by kernel_rfl
theorem NI : zeroOf Tryz.prog 109 = some [(.int .i64 0), (.string ⟨#[]⟩), (.int .i64 0), (.int .i64 0), (.bool false), (.int .i64 0), (.string ⟨#[]⟩), (.int .i64 0), (.int .i64 0), (.slice none 0 0), (.int .i64 0), (.int .i64 0), (.slice none 0 0)] := by kernel_rfl
theorem NH : zeroOf Tryz.prog 121 = some [(.slice none 0 0)] := by kernel_rfl
theorem RZ : zeroOf Tryz.prog 123 = some [(.map none)] := by kernel_rfl
theorem NG : zeroOf Tryz.prog 125 = some [(.int .i64 0), (.int .i64 0), (.int .i64 0), (.int .i64 0)] := by kernel_rfl
theorem RY : zeroOf Tryz.prog 126 = some [(.slice none 0 0)] := by kernel_rfl
theorem RX : zeroOf Tryz.prog 128 = some [.nilFunc] := by kernel_rfl
theorem RV : zeroOf Tryz.prog 129 = some [.nilFunc] := by kernel_rfl
theorem RU : zeroOf Tryz.prog 162 = some [.nilFunc] := by kernel_rfl
theorem NF : zeroOf Tryz.prog 185 = some [(.bool false), (.bool false), (.bool false), (.bool false)] := by kernel_rfl
theorem Dq : zeroOf Tryz.prog 26 = some [(.int .i64 0), (.slice none 0 0), (.slice none 0 0)] := by kernel_rfl
theorem TN : zeroOf Tryz.prog 3 = some [(.int .i64 0)] := by kernel_rfl
theorem x8 : zeroOf Tryz.prog 38 = some [(.int .i64 0), (.int .i64 0), (.int .i64 0), (.int .i64 0)] := by kernel_rfl
theorem UZ : zeroOf Tryz.prog 4 = some [(.bool false)] := by kernel_rfl
theorem Rs : zeroOf Tryz.prog 45 = some [(.slice none 0 0), (.int .i64 0)] := by kernel_rfl
theorem vQ : zeroOf Tryz.prog 47 = some [(.int .i64 0), (.int .i64 0)] := by kernel_rfl
theorem TM : zeroOf Tryz.prog 48 = some [.nilFunc] := by kernel_rfl
theorem AJ : zeroOf Tryz.prog 53 = some [(.int .i64 0), (.string ⟨#[]⟩), (.int .i64 0), (.int .i64 0), (.slice none 0 0), (.int .i64 0), (.int .i64 0), (.slice none 0 0)] := by kernel_rfl
theorem TL : zeroOf Tryz.prog 96 = some [(.slice none 0 0)] := by kernel_rfl
theorem Lb : zeroOf Tryz.prog 98 = some [(.int .i64 0), (.int .i64 0), (.slice none 0 0)] := by kernel_rfl
theorem TP : zeroOf Tryz.prog 80 = some [.pointer none, .slice none 0 0] := by kernel_rfl
theorem NE : (zeroOf Tryz.prog 125).map List.length = some 4 := by kernel_rfl
theorem ML : (zeroOf Tryz.prog 3).map List.length = some 1 := by kernel_rfl
theorem La : (zeroOf Tryz.prog 38).map List.length = some 4 := by kernel_rfl
theorem TK : (zeroOf Tryz.prog 43).map List.length = some 1 := by kernel_rfl
theorem TJ : (zeroOf Tryz.prog 45).map List.length = some 2 := by kernel_rfl
theorem Ik : (zeroOf Tryz.prog 47).map List.length = some 2 := by kernel_rfl
theorem ND : (zeroOf Tryz.prog 53).map List.length = some 8 := by kernel_rfl
theorem TI : (zeroOf Tryz.prog 58).map List.length = some 2 := by kernel_rfl
theorem TH : (zeroOf Tryz.prog 98).map List.length = some 3 := by kernel_rfl
theorem Pp : (Tryz.prog.info? 125).map (·.bytes) = some 32 := by kernel_rfl
theorem Nn : (Tryz.prog.info? 3).map (·.bytes) = some 8 := by kernel_rfl
theorem Mt : (Tryz.prog.info? 38).map (·.bytes) = some 32 := by kernel_rfl
theorem Vq : (Tryz.prog.info? 4).map (·.bytes) = some 1 := by kernel_rfl
theorem UD : (Tryz.prog.info? 43).map (·.bytes) = some 24 := by kernel_rfl
theorem UC : (Tryz.prog.info? 45).map (·.bytes) = some 32 := by kernel_rfl
theorem Jz : (Tryz.prog.info? 47).map (·.bytes) = some 16 := by kernel_rfl
theorem Po : (Tryz.prog.info? 53).map (·.bytes) = some 104 := by kernel_rfl
theorem UB : (Tryz.prog.info? 58).map (·.bytes) = some 40 := by kernel_rfl
theorem UA : (Tryz.prog.info? 98).map (·.bytes) = some 40 := by kernel_rfl
theorem Jk : iJ Tryz.prog 109 0 = some 0 := by kernel_rfl
theorem OX : iJ Tryz.prog 109 4 = some 5 := by kernel_rfl
theorem yR : iJ Tryz.prog 125 0 = some 0 := by kernel_rfl
theorem yQ : iJ Tryz.prog 125 1 = some 2 := by kernel_rfl
theorem Jj : iJ Tryz.prog 185 0 = some 0 := by kernel_rfl
theorem OW : iJ Tryz.prog 185 1 = some 1 := by kernel_rfl
theorem Ji : iJ Tryz.prog 185 2 = some 2 := by kernel_rfl
theorem Jh : iJ Tryz.prog 185 3 = some 3 := by kernel_rfl
theorem uD : iJ Tryz.prog 26 0 = some 0 := by kernel_rfl
theorem vX : iJ Tryz.prog 26 1 = some 1 := by kernel_rfl
theorem qA : iJ Tryz.prog 26 2 = some 2 := by kernel_rfl
theorem pU : iJ Tryz.prog 38 0 = some 0 := by kernel_rfl
theorem rQ : iJ Tryz.prog 38 1 = some 1 := by kernel_rfl
theorem zF : iJ Tryz.prog 38 2 = some 2 := by kernel_rfl
theorem Bn : iJ Tryz.prog 38 3 = some 3 := by kernel_rfl
theorem QV : iJ Tryz.prog 45 0 = some 0 := by kernel_rfl
theorem Bl : iJ Tryz.prog 45 1 = some 1 := by kernel_rfl
theorem nC : iJ Tryz.prog 47 0 = some 0 := by kernel_rfl
theorem lm : iJ Tryz.prog 47 1 = some 1 := by kernel_rfl
theorem qZ : iJ Tryz.prog 53 0 = some 0 := by kernel_rfl
theorem Df : iJ Tryz.prog 53 1 = some 1 := by kernel_rfl
theorem xN : iJ Tryz.prog 53 2 = some 2 := by kernel_rfl
theorem qY : iJ Tryz.prog 53 3 = some 4 := by kernel_rfl
theorem Hw : iJ Tryz.prog 53 4 = some 5 := by kernel_rfl
theorem Hu : iJ Tryz.prog 53 5 = some 6 := by kernel_rfl
theorem xM : iJ Tryz.prog 53 6 = some 7 := by kernel_rfl
theorem Ma : iJ Tryz.prog 95 0 = some 0 := by kernel_rfl
theorem zD : iJ Tryz.prog 95 2 = some 4 := by kernel_rfl
theorem L9 : iJ Tryz.prog 95 3 = some 5 := by kernel_rfl
theorem pR : iJ Tryz.prog 98 0 = some 0 := by kernel_rfl
theorem nW : iJ Tryz.prog 98 1 = some 1 := by kernel_rfl
theorem lg : iJ Tryz.prog 98 2 = some 2 := by kernel_rfl
theorem wC : elemOf? Tryz.prog 121 = some (125, 4) := by kernel_rfl
theorem KH : elemOf? Tryz.prog 126 = some (4, 1) := by kernel_rfl
theorem vk : elemOf? Tryz.prog 22 = some (38, 4) := by kernel_rfl
theorem wS : elemOf? Tryz.prog 24 = some (53, 8) := by kernel_rfl
theorem Jq : elemOf? Tryz.prog 39 = some (43, 1) := by kernel_rfl
theorem oU : elemOf? Tryz.prog 42 = some (45, 2) := by kernel_rfl
theorem qH : elemOf? Tryz.prog 43 = some (47, 2) := by kernel_rfl
theorem oG : elemOf? Tryz.prog 62 = some (98, 3) := by kernel_rfl
theorem Uw : elemOf? Tryz.prog 93 = some (62, 1) := by kernel_rfl
theorem kS : elemOf? Tryz.prog 96 = some (3, 1) := by kernel_rfl
theorem NC : (Tryz.prog.info? 96).bind (·.zero) = some (.slice none 0 0) := by kernel_rfl
theorem OI : P5 Tryz.prog 47 HV Ij := Vm (IT := 3) (by kernel_rfl) (of_decide_eq_true (by kernel_rfl)) ⟨277, by kernel_rfl⟩ (of_decide_eq_true (by kernel_rfl)) (by kernel_rfl) ⟨_, Tryz.underlying47, by kernel_rfl⟩ (by kernel_rfl) (by kernel_rfl) Tryz.underlying3
theorem yD : Tryz.prog.underlying 121 = some (.slice 125) := by kernel_rfl
theorem JX : Tryz.prog.underlying 123 = some (.map 47 96) := by kernel_rfl
theorem R4 : Tryz.prog.underlying 126 = some (.slice 4) := by kernel_rfl
theorem yC : Tryz.prog.underlying 158 = some (.int .u64) := by kernel_rfl
theorem sH : Tryz.prog.underlying 22 = some (.slice 38) := by kernel_rfl
theorem zR : Tryz.prog.underlying 23 = some (.slice 58) := by kernel_rfl
theorem tH : Tryz.prog.underlying 24 = some (.slice 53) := by kernel_rfl
theorem Ip : Tryz.prog.underlying 3 = some (.int .i64) := by kernel_rfl
theorem Fy : Tryz.prog.underlying 39 = some (.slice 43) := by kernel_rfl
theorem TR : Tryz.prog.underlying 4 = some (.bool) := by kernel_rfl
theorem NM : Tryz.prog.underlying 42 = some (.slice 45) := by kernel_rfl
theorem qc : Tryz.prog.underlying 43 = some (.slice 47) := by kernel_rfl
theorem sG : Tryz.prog.underlying 62 = some (.slice 98) := by kernel_rfl
theorem TQ : Tryz.prog.underlying 93 = some (.slice 62) := by kernel_rfl
theorem nz : Tryz.prog.underlying 96 = some (.slice 3) := by kernel_rfl
def xO (a b : aQ) : Bool := (a.X0 == b.X0) && ((a.Y0 == b.Y0) && ((a.X1 == b.X1) && ((a.Y1 == b.Y1) && true)))
theorem yT {a b : aQ} : xO a b = true ↔ a = b := by
  cases a; cases b; simp [xO, CX]
theorem O6 (a b : aQ) (d : Nat) (W : World) : (Op.equalIn (d + 2) 38 (.agg #[(.int .i64 a.X0), (.int .i64 a.Y0), (.int .i64 a.X1), (.int .i64 a.Y1)]) (.agg #[(.int .i64 b.X0), (.int .i64 b.Y0), (.int .i64 b.X1), (.int .i64 b.Y1)])).run Tryz.prog W = .ok (xO a b) W := by
  rw [show d + 2 = (d + 1) + 1 from rfl, run_equalIn_struct W _ 38 _ _ (by kernel_rfl) (by kernel_rfl)]
  simp only [Program.fieldsOf, Tryz.underlying38]
  exact wR rfl (x9 bT rfl) (x9 bT rfl) (Ce Tryz.underlying3) (wR rfl (x9 bT rfl) (x9 bT rfl) (Ce Tryz.underlying3) (wR rfl (x9 bT rfl) (x9 bT rfl) (Ce Tryz.underlying3) (wR rfl (x9 bT rfl) (x9 bT rfl) (Ce Tryz.underlying3) (Mh))))
theorem Su {ρ : Operand → Value} {W : World} {dd : Option Tmp} {ty T' : TypeId} {pos : String} {af : Array Edge} {g : Option (Nat × Bool)} {p q : Operand} (a b : aQ) (hp : ρ p = .agg #[(.int .i64 a.X0), (.int .i64 a.Y0), (.int .i64 a.X1), (.int .i64 a.Y1)]) (hq : ρ q = .agg #[(.int .i64 b.X0), (.int .i64 b.Y0), (.int .i64 b.X1), (.int .i64 b.Y1)]) : (execOp ρ ⟨dd, .binOp .eql 38 p q T', ty, pos, af, g⟩).run Tryz.prog W = .ok (.value (.bool (xO a b))) W :=
  IJ (m := 9998 + 2) rfl (by kernel_rfl) (O6 a b 9998 W) hp hq
theorem Kb {ρ : Operand → Value} {W : World} {dd : Option Tmp} {ty T' : TypeId} {pos : String} {af : Array Edge} {g : Option (Nat × Bool)} {p q : Operand} (a b : aQ) (hp : ρ p = .agg #[(.int .i64 a.X0), (.int .i64 a.Y0), (.int .i64 a.X1), (.int .i64 a.Y1)]) (hq : ρ q = .agg #[(.int .i64 b.X0), (.int .i64 b.Y0), (.int .i64 b.X1), (.int .i64 b.Y1)]) : (execOp ρ ⟨dd, .binOp .neq 38 p q T', ty, pos, af, g⟩).run Tryz.prog W = .ok (.value (.bool (!xO a b))) W :=
  II (m := 9998 + 2) rfl (by kernel_rfl) (O6 a b 9998 W) hp hq
def gz (a b : au) : Bool := (a.X == b.X) && ((a.Y == b.Y) && true)
theorem qC {a b : au} : gz a b = true ↔ a = b := by
  cases a; cases b; simp [gz, CX]
theorem O5 (a b : au) (d : Nat) (W : World) : (Op.equalIn (d + 2) 47 (.agg #[(.int .i64 a.X), (.int .i64 a.Y)]) (.agg #[(.int .i64 b.X), (.int .i64 b.Y)])).run Tryz.prog W = .ok (gz a b) W := by
  rw [show d + 2 = (d + 1) + 1 from rfl, run_equalIn_struct W _ 47 _ _ (by kernel_rfl) (by kernel_rfl)]
  simp only [Program.fieldsOf, Tryz.underlying47]
  exact wR rfl (x9 bT rfl) (x9 bT rfl) (Ce Tryz.underlying3) (wR rfl (x9 bT rfl) (x9 bT rfl) (Ce Tryz.underlying3) (Mh))
theorem Ab {ρ : Operand → Value} {W : World} {dd : Option Tmp} {ty T' : TypeId} {pos : String} {af : Array Edge} {g : Option (Nat × Bool)} {p q : Operand} (a b : au) (hp : ρ p = .agg #[(.int .i64 a.X), (.int .i64 a.Y)]) (hq : ρ q = .agg #[(.int .i64 b.X), (.int .i64 b.Y)]) : (execOp ρ ⟨dd, .binOp .eql 47 p q T', ty, pos, af, g⟩).run Tryz.prog W = .ok (.value (.bool (gz a b))) W :=
  IJ (m := 9998 + 2) rfl (by kernel_rfl) (O5 a b 9998 W) hp hq
theorem xx {ρ : Operand → Value} {W : World} {dd : Option Tmp} {ty T' : TypeId} {pos : String} {af : Array Edge} {g : Option (Nat × Bool)} {p q : Operand} (a b : au) (hp : ρ p = .agg #[(.int .i64 a.X), (.int .i64 a.Y)]) (hq : ρ q = .agg #[(.int .i64 b.X), (.int .i64 b.Y)]) : (execOp ρ ⟨dd, .binOp .neq 47 p q T', ty, pos, af, g⟩).run Tryz.prog W = .ok (.value (.bool (!gz a b))) W :=
  II (m := 9998 + 2) rfl (by kernel_rfl) (O5 a b 9998 W) hp hq
end Go.Proofs.YtcjeebkoafonpaaGreatDoor
