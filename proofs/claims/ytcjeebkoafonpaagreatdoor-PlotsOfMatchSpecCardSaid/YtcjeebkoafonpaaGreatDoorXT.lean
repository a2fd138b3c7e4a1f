/- Types of the data, and closed facts of the program's table of types. -/
import Derived.Test.YtcjeebkoafonpaaGreatDoorProg
import Derived.Test.YtcjeebkoafonpaaGreatDoorJ2
import Derived.Test.YtcjeebkoafonpaaGreatDoorJ3
import Derived.Test.YtcjeebkoafonpaaGreatDoorSH
namespace Go.Proofs.YtcjeebkoafonpaaGreatDoor
open Go.RowKit
set_option maxRecDepth 100000
structure aI where
  X0 : Int
  Y0 : Int
  X1 : Int
  Y1 : Int
structure jL where
  Y0 : Int
  Y1 : Int
  Xs : (List Int)
structure aA where
  X : Int
  Y : Int
structure fE where
  from_ : aA
  to_ : aA
structure dQ where
  points : (List aA)
  area : Int
structure vJ where
  Name : ByteArray
  Rects : (List aI)
structure aJ where
  Kind : Int
  Name : ByteArray
  At : aA
  Points : (List aA)
  NX : Int
  NY : Int
  Steps : (List aJ)
structure gK where
  Unit : Int
  Tools : (List vJ)
  Steps : (List aJ)
structure jY where
  from_ : Int
  to_ : Int
structure bY where
  from_ : Int
  to_ : Int
  spans : (List jY)
structure rD where
  xs : (List Int)
  ys : (List Int)
  in_ : (List (List Bool))
structure aG where
  from_ : aA
  to_ : aA
structure SX where
  name : Bool
  at_ : Bool
  points : Bool
  repeat_ : Bool
def bz : Fl aI := Fl.flat 4 (fun x => [(.int .i64 x.X0), (.int .i64 x.Y0), (.int .i64 x.X1), (.int .i64 x.Y1)]) (fun _ => rfl) (fun _ u h => by
  simp at h
  rcases h with rfl | rfl | rfl | rfl <;> rfl)
theorem iY : ∀ u x, bz.enc u x = [(.int .i64 x.X0), (.int .i64 x.Y0), (.int .i64 x.X1), (.int .i64 x.Y1)] := fun _ _ => rfl
theorem ql : bz.MZ := fun _ _ _ _ => trivial
def bL : Fl Int := Fl.flat 1 (fun x => [(.int .i64 x)]) (fun _ => rfl) (fun _ u h => by
  simp at h
  subst h; rfl)
theorem jM : ∀ u x, bL.enc u x = [(.int .i64 x)] := fun _ _ => rfl
theorem BI : bL.MZ := fun _ _ _ _ => trivial
def jk : Fl jL where
  Ad := (Option Addr × Nat)
  sz := 3
  enc u x := [(.int .i64 x.Y0), (.int .i64 x.Y1), (.slice u.1 (x.Xs).length u.2)]
  ok S W u x := Sl S W bL u.1 u.2 x.Xs
  len _ _ := rfl
  one _ _ v h := by
    simp at h
    rcases h with rfl | rfl | rfl <;> rfl
  loc h hs hb := h.go hs hb
def eZ : Fl fE := Fl.flat 4 (fun x => [(.int .i64 x.from_.X), (.int .i64 x.from_.Y), (.int .i64 x.to_.X), (.int .i64 x.to_.Y)]) (fun _ => rfl) (fun _ u h => by
  simp at h
  rcases h with rfl | rfl | rfl | rfl <;> rfl)
theorem rH : ∀ u x, eZ.enc u x = [(.int .i64 x.from_.X), (.int .i64 x.from_.Y), (.int .i64 x.to_.X), (.int .i64 x.to_.Y)] := fun _ _ => rfl
theorem DK : eZ.MZ := fun _ _ _ _ => trivial
def lF : Fl Bool := Fl.flat 1 (fun x => [(.bool x)]) (fun _ => rfl) (fun _ u h => by
  simp at h
  subst h; rfl)
theorem zM : ∀ u x, lF.enc u x = [(.bool x)] := fun _ _ => rfl
theorem Gw : lF.MZ := fun _ _ _ _ => trivial
def bE : Fl aA := Fl.flat 2 (fun x => [(.int .i64 x.X), (.int .i64 x.Y)]) (fun _ => rfl) (fun _ u h => by
  simp at h
  rcases h with rfl | rfl <;> rfl)
theorem iV : ∀ u x, bE.enc u x = [(.int .i64 x.X), (.int .i64 x.Y)] := fun _ _ => rfl
theorem vF : bE.MZ := fun _ _ _ _ => trivial
def aW : Fl (List aA) where
  Ad := (Option Addr × Nat)
  sz := 1
  enc u x := [(.slice u.1 (x).length u.2)]
  ok S W u x := Sl S W bE u.1 u.2 x
  len _ _ := rfl
  one _ _ v h := by
    simp at h
    subst h; rfl
  loc h hs hb := h.go hs hb
def eD : Fl vJ where
  Ad := (Option Addr × Nat)
  sz := 2
  enc u x := [(.string x.Name), (.slice u.1 (x.Rects).length u.2)]
  ok S W u x := Sl S W bz u.1 u.2 x.Rects
  len _ _ := rfl
  one _ _ v h := by
    simp at h
    rcases h with rfl | rfl <;> rfl
  loc h hs hb := h.go hs hb
def Ae : RB aJ where
  Ad := (Option Addr × Nat) × (Option Addr × Nat)
  sz := 8
  enc u x := [(.int .i64 x.Kind), (.string x.Name), (.int .i64 x.At.X), (.int .i64 x.At.Y), (.slice u.1.1 (x.Points).length u.1.2), (.int .i64 x.NX), (.int .i64 x.NY), (.slice u.2.1 (x.Steps).length u.2.2)]
  okb S W u x := Sl S W bE u.1.1 u.1.2 x.Points
  ua u := u.2
  sub x := x.Steps
  len _ _ := rfl
  one _ _ v h := by
    simp at h
    rcases h with rfl | rfl | rfl | rfl | rfl | rfl | rfl | rfl <;> rfl
  loc h hs hb := h.go hs hb
def aT : Fl aJ := Ae.fix
theorem lX {S : Nat → Prop} {W : World} {u : (Option Addr × Nat) × (Option Addr × Nat)} {x : aJ} : aT.ok S W u x ↔ Sl S W bE u.1.1 u.1.2 x.Points ∧ Sl S W aT u.2.1 u.2.2 x.Steps :=
  RB.Rh Ae
def aR : Fl dQ where
  Ad := (Option Addr × Nat)
  sz := 2
  enc u x := [(.slice u.1 (x.points).length u.2), (.int .i64 x.area)]
  ok S W u x := Sl S W bE u.1 u.2 x.points
  len _ _ := rfl
  one _ _ v h := by
    simp at h
    rcases h with rfl | rfl <;> rfl
  loc h hs hb := h.go hs hb
def iL : Fl jY := Fl.flat 2 (fun x => [(.int .i64 x.from_), (.int .i64 x.to_)]) (fun _ => rfl) (fun _ u h => by
  simp at h
  rcases h with rfl | rfl <;> rfl)
theorem qV : ∀ u x, iL.enc u x = [(.int .i64 x.from_), (.int .i64 x.to_)] := fun _ _ => rfl
theorem DJ : iL.MZ := fun _ _ _ _ => trivial
def dS : Fl bY where
  Ad := (Option Addr × Nat)
  sz := 3
  enc u x := [(.int .i64 x.from_), (.int .i64 x.to_), (.slice u.1 (x.spans).length u.2)]
  ok S W u x := Sl S W iL u.1 u.2 x.spans
  len _ _ := rfl
  one _ _ v h := by
    simp at h
    rcases h with rfl | rfl | rfl <;> rfl
  loc h hs hb := h.go hs hb
def nH : Fl (List Bool) where
  Ad := (Option Addr × Nat)
  sz := 1
  enc u x := [(.slice u.1 (x).length u.2)]
  ok S W u x := Sl S W lF u.1 u.2 x
  len _ _ := rfl
  one _ _ v h := by
    simp at h
    subst h; rfl
  loc h hs hb := h.go hs hb
def bG : Fl aG := Fl.flat 4 (fun x => [(.int .i64 x.from_.X), (.int .i64 x.from_.Y), (.int .i64 x.to_.X), (.int .i64 x.to_.Y)]) (fun _ => rfl) (fun _ u h => by
  simp at h
  rcases h with rfl | rfl | rfl | rfl <;> rfl)
theorem jQ : ∀ u x, bG.enc u x = [(.int .i64 x.from_.X), (.int .i64 x.from_.Y), (.int .i64 x.to_.X), (.int .i64 x.to_.Y)] := fun _ _ => rfl
theorem yC : bG.MZ := fun _ _ _ _ => trivial
theorem uL : mX Tryz.prog 121 = some false := by kernel_rfl
theorem KF : mX Tryz.prog 123 = some false := by kernel_rfl
theorem tO : mX Tryz.prog 125 = some true := by kernel_rfl
theorem EW : mX Tryz.prog 126 = some false := by kernel_rfl
theorem Rt : mX Tryz.prog 128 = some false := by kernel_rfl
theorem Ow : mX Tryz.prog 129 = some false := by kernel_rfl
theorem Ay : mX Tryz.prog 142 = some true := by kernel_rfl
theorem Hr : mX Tryz.prog 162 = some false := by kernel_rfl
theorem Cs : mX Tryz.prog 170 = some false := by kernel_rfl
theorem Rs : mX Tryz.prog 173 = some true := by kernel_rfl
theorem EU : mX Tryz.prog 175 = some false := by kernel_rfl
theorem Cr : mX Tryz.prog 177 = some true := by kernel_rfl
theorem Hq : mX Tryz.prog 220 = some true := by kernel_rfl
theorem CQ : mX Tryz.prog 23 = some false := by kernel_rfl
theorem uX : mX Tryz.prog 24 = some false := by kernel_rfl
theorem tu : mX Tryz.prog 26 = some true := by kernel_rfl
theorem bQ : mX Tryz.prog 3 = some false := by kernel_rfl
theorem sP : mX Tryz.prog 38 = some true := by kernel_rfl
theorem MX : mX Tryz.prog 4 = some false := by kernel_rfl
theorem tq : mX Tryz.prog 43 = some false := by kernel_rfl
theorem rW : mX Tryz.prog 45 = some true := by kernel_rfl
theorem lJ : mX Tryz.prog 47 = some true := by kernel_rfl
theorem Qs : mX Tryz.prog 48 = some false := by kernel_rfl
theorem Ma : mX Tryz.prog 53 = some true := by kernel_rfl
theorem P5 : mX Tryz.prog 9 = some false := by kernel_rfl
theorem mU : mX Tryz.prog 96 = some false := by kernel_rfl
theorem Ov : mX Tryz.prog 98 = some true := by kernel_rfl
theorem Nl : nG Tryz.prog 121 = some 1 := by kernel_rfl
theorem QL : nG Tryz.prog 123 = some 1 := by kernel_rfl
theorem qQ : nG Tryz.prog 125 = some 4 := by kernel_rfl
theorem Nk : nG Tryz.prog 126 = some 1 := by kernel_rfl
theorem QK : nG Tryz.prog 128 = some 1 := by kernel_rfl
theorem QJ : nG Tryz.prog 129 = some 1 := by kernel_rfl
theorem tF : nG Tryz.prog 142 = some 4 := by kernel_rfl
theorem QI : nG Tryz.prog 162 = some 1 := by kernel_rfl
theorem Nj : nG Tryz.prog 173 = some 3 := by kernel_rfl
theorem QH : nG Tryz.prog 175 = some 1 := by kernel_rfl
theorem yS : nG Tryz.prog 177 = some 3 := by kernel_rfl
theorem Ai : nG Tryz.prog 220 = some 2 := by kernel_rfl
theorem KY : nG Tryz.prog 24 = some 1 := by kernel_rfl
theorem pE : nG Tryz.prog 26 = some 3 := by kernel_rfl
theorem zR : nG Tryz.prog 3 = some 1 := by kernel_rfl
theorem nV : nG Tryz.prog 38 = some 4 := by kernel_rfl
theorem Ml : nG Tryz.prog 4 = some 1 := by kernel_rfl
theorem DL : nG Tryz.prog 43 = some 1 := by kernel_rfl
theorem nU : nG Tryz.prog 45 = some 2 := by kernel_rfl
theorem iK : nG Tryz.prog 47 = some 2 := by kernel_rfl
theorem RU : nG Tryz.prog 48 = some 1 := by kernel_rfl
theorem zY : nG Tryz.prog 53 = some 8 := by kernel_rfl
theorem KX : nG Tryz.prog 96 = some 1 := by kernel_rfl
theorem Fy : nG Tryz.prog 98 = some 3 := by kernel_rfl
theorem Ng : zeroOf Tryz.prog 121 = some [(.slice none 0 0)] := by kernel_rfl
theorem QD : zeroOf Tryz.prog 123 = some [(.map none)] := by kernel_rfl
theorem Nf : zeroOf Tryz.prog 125 = some [(.int .i64 0), (.int .i64 0), (.int .i64 0), (.int .i64 0)] := by kernel_rfl
theorem QC : zeroOf Tryz.prog 126 = some [(.slice none 0 0)] := by kernel_rfl
theorem QB : zeroOf Tryz.prog 128 = some [.nilFunc] := by kernel_rfl
theorem QA : zeroOf Tryz.prog 129 = some [.nilFunc] := by kernel_rfl
theorem Qz : zeroOf Tryz.prog 142 = some [(.int .i64 0), (.int .i64 0), (.int .i64 0), (.int .i64 0)] := by kernel_rfl
theorem Qy : zeroOf Tryz.prog 162 = some [.nilFunc] := by kernel_rfl
theorem JE : zeroOf Tryz.prog 177 = some [(.slice none 0 0), (.slice none 0 0), (.slice none 0 0)] := by kernel_rfl
theorem Dz : zeroOf Tryz.prog 26 = some [(.int .i64 0), (.slice none 0 0), (.slice none 0 0)] := by kernel_rfl
theorem RI : zeroOf Tryz.prog 3 = some [(.int .i64 0)] := by kernel_rfl
theorem zX : zeroOf Tryz.prog 38 = some [(.int .i64 0), (.int .i64 0), (.int .i64 0), (.int .i64 0)] := by kernel_rfl
theorem Qx : zeroOf Tryz.prog 4 = some [(.bool false)] := by kernel_rfl
theorem Qd : zeroOf Tryz.prog 45 = some [(.slice none 0 0), (.int .i64 0)] := by kernel_rfl
theorem ui : zeroOf Tryz.prog 47 = some [(.int .i64 0), (.int .i64 0)] := by kernel_rfl
theorem RH : zeroOf Tryz.prog 48 = some [.nilFunc] := by kernel_rfl
theorem KO : zeroOf Tryz.prog 53 = some [(.int .i64 0), (.string ⟨#[]⟩), (.int .i64 0), (.int .i64 0), (.slice none 0 0), (.int .i64 0), (.int .i64 0), (.slice none 0 0)] := by kernel_rfl
theorem RG : zeroOf Tryz.prog 96 = some [(.slice none 0 0)] := by kernel_rfl
theorem Qc : zeroOf Tryz.prog 98 = some [(.int .i64 0), (.int .i64 0), (.slice none 0 0)] := by kernel_rfl
theorem RJ : zeroOf Tryz.prog 80 = some [.pointer none, .slice none 0 0] := by kernel_rfl
theorem Nc : (zeroOf Tryz.prog 125).map List.length = some 4 := by kernel_rfl
theorem Qw : (zeroOf Tryz.prog 126).map List.length = some 1 := by kernel_rfl
theorem Dy : (zeroOf Tryz.prog 142).map List.length = some 4 := by kernel_rfl
theorem Qv : (zeroOf Tryz.prog 173).map List.length = some 3 := by kernel_rfl
theorem JD : (zeroOf Tryz.prog 220).map List.length = some 2 := by kernel_rfl
theorem JC : (zeroOf Tryz.prog 3).map List.length = some 1 := by kernel_rfl
theorem KN : (zeroOf Tryz.prog 38).map List.length = some 4 := by kernel_rfl
theorem Dx : (zeroOf Tryz.prog 43).map List.length = some 1 := by kernel_rfl
theorem RF : (zeroOf Tryz.prog 45).map List.length = some 2 := by kernel_rfl
theorem Fv : (zeroOf Tryz.prog 47).map List.length = some 2 := by kernel_rfl
theorem KM : (zeroOf Tryz.prog 53).map List.length = some 8 := by kernel_rfl
theorem RD : (zeroOf Tryz.prog 98).map List.length = some 3 := by kernel_rfl
theorem Oq : (Tryz.prog.info? 125).map (·.bytes) = some 32 := by kernel_rfl
theorem Rp : (Tryz.prog.info? 126).map (·.bytes) = some 24 := by kernel_rfl
theorem EO : (Tryz.prog.info? 142).map (·.bytes) = some 32 := by kernel_rfl
theorem Ro : (Tryz.prog.info? 173).map (·.bytes) = some 40 := by kernel_rfl
theorem Kw : (Tryz.prog.info? 220).map (·.bytes) = some 16 := by kernel_rfl
theorem Kv : (Tryz.prog.info? 3).map (·.bytes) = some 8 := by kernel_rfl
theorem L6 : (Tryz.prog.info? 38).map (·.bytes) = some 32 := by kernel_rfl
theorem Rn : (Tryz.prog.info? 4).map (·.bytes) = some 1 := by kernel_rfl
theorem EN : (Tryz.prog.info? 43).map (·.bytes) = some 24 := by kernel_rfl
theorem Sn : (Tryz.prog.info? 45).map (·.bytes) = some 32 := by kernel_rfl
theorem Gl : (Tryz.prog.info? 47).map (·.bytes) = some 16 := by kernel_rfl
theorem LZ : (Tryz.prog.info? 53).map (·.bytes) = some 104 := by kernel_rfl
theorem Sm : (Tryz.prog.info? 98).map (·.bytes) = some 40 := by kernel_rfl
theorem ze : iX Tryz.prog 125 0 = some 0 := by kernel_rfl
theorem zb : iX Tryz.prog 125 1 = some 2 := by kernel_rfl
theorem Bh : iX Tryz.prog 142 0 = some 0 := by kernel_rfl
theorem EB : iX Tryz.prog 142 1 = some 2 := by kernel_rfl
theorem IY : iX Tryz.prog 173 0 = some 0 := by kernel_rfl
theorem Bg : iX Tryz.prog 173 1 = some 1 := by kernel_rfl
theorem xC : iX Tryz.prog 173 2 = some 2 := by kernel_rfl
theorem sJ : iX Tryz.prog 177 0 = some 0 := by kernel_rfl
theorem xB : iX Tryz.prog 177 1 = some 1 := by kernel_rfl
theorem xA : iX Tryz.prog 177 2 = some 2 := by kernel_rfl
theorem vV : iX Tryz.prog 220 0 = some 0 := by kernel_rfl
theorem vU : iX Tryz.prog 220 1 = some 1 := by kernel_rfl
theorem yf : iX Tryz.prog 26 0 = some 0 := by kernel_rfl
theorem wT : iX Tryz.prog 26 1 = some 1 := by kernel_rfl
theorem qa : iX Tryz.prog 26 2 = some 2 := by kernel_rfl
theorem qJ : iX Tryz.prog 38 0 = some 0 := by kernel_rfl
theorem nO : iX Tryz.prog 38 1 = some 1 := by kernel_rfl
theorem wS : iX Tryz.prog 38 2 = some 2 := by kernel_rfl
theorem vk : iX Tryz.prog 38 3 = some 3 := by kernel_rfl
theorem PK : iX Tryz.prog 45 0 = some 0 := by kernel_rfl
theorem Bf : iX Tryz.prog 45 1 = some 1 := by kernel_rfl
theorem oq : iX Tryz.prog 47 0 = some 0 := by kernel_rfl
theorem mG : iX Tryz.prog 47 1 = some 1 := by kernel_rfl
theorem yc : iX Tryz.prog 53 0 = some 0 := by kernel_rfl
theorem Dn : iX Tryz.prog 53 1 = some 1 := by kernel_rfl
theorem Dm : iX Tryz.prog 53 2 = some 2 := by kernel_rfl
theorem Dl : iX Tryz.prog 53 3 = some 4 := by kernel_rfl
theorem Dk : iX Tryz.prog 53 4 = some 5 := by kernel_rfl
theorem Di : iX Tryz.prog 53 5 = some 6 := by kernel_rfl
theorem Be : iX Tryz.prog 53 6 = some 7 := by kernel_rfl
theorem vg : iX Tryz.prog 98 0 = some 0 := by kernel_rfl
theorem uh : iX Tryz.prog 98 1 = some 1 := by kernel_rfl
theorem pY : iX Tryz.prog 98 2 = some 2 := by kernel_rfl
theorem wX : elemOf? Tryz.prog 121 = some (125, 4) := by kernel_rfl
theorem yh : elemOf? Tryz.prog 126 = some (4, 1) := by kernel_rfl
theorem Au : elemOf? Tryz.prog 138 = some (142, 4) := by kernel_rfl
theorem zh : elemOf? Tryz.prog 168 = some (173, 3) := by kernel_rfl
theorem uJ : elemOf? Tryz.prog 170 = some (220, 2) := by kernel_rfl
theorem Oc : elemOf? Tryz.prog 175 = some (126, 1) := by kernel_rfl
theorem oP : elemOf? Tryz.prog 22 = some (38, 4) := by kernel_rfl
theorem EJ : elemOf? Tryz.prog 24 = some (53, 8) := by kernel_rfl
theorem uz : elemOf? Tryz.prog 39 = some (43, 1) := by kernel_rfl
theorem qw : elemOf? Tryz.prog 42 = some (45, 2) := by kernel_rfl
theorem oO : elemOf? Tryz.prog 43 = some (47, 2) := by kernel_rfl
theorem CL : elemOf? Tryz.prog 62 = some (98, 3) := by kernel_rfl
theorem lQ : elemOf? Tryz.prog 96 = some (3, 1) := by kernel_rfl
theorem Nb : (Tryz.prog.info? 96).bind (·.zero) = some (.slice none 0 0) := by kernel_rfl
theorem NQ : OP Tryz.prog 47 Hf HZ := Ua (IT := 3) (by kernel_rfl) (of_decide_eq_true (by kernel_rfl)) ⟨277, by kernel_rfl⟩ (of_decide_eq_true (by kernel_rfl)) (by kernel_rfl) ⟨_, Tryz.underlying47, by kernel_rfl⟩ (by kernel_rfl) (by kernel_rfl) Tryz.underlying3
theorem yQ : Tryz.prog.underlying 121 = some (.slice 125) := by kernel_rfl
theorem JL : Tryz.prog.underlying 123 = some (.map 47 96) := by kernel_rfl
theorem JK : Tryz.prog.underlying 126 = some (.slice 4) := by kernel_rfl
theorem vM : Tryz.prog.underlying 138 = some (.slice 142) := by kernel_rfl
theorem yP : Tryz.prog.underlying 158 = some (.int .u64) := by kernel_rfl
theorem JJ : Tryz.prog.underlying 168 = some (.slice 173) := by kernel_rfl
theorem vL : Tryz.prog.underlying 170 = some (.slice 220) := by kernel_rfl
theorem JI : Tryz.prog.underlying 175 = some (.slice 126) := by kernel_rfl
theorem pR : Tryz.prog.underlying 22 = some (.slice 38) := by kernel_rfl
theorem Cv : Tryz.prog.underlying 23 = some (.slice 58) := by kernel_rfl
theorem xn : Tryz.prog.underlying 24 = some (.slice 53) := by kernel_rfl
theorem Ia : Tryz.prog.underlying 3 = some (.int .i64) := by kernel_rfl
theorem uV : Tryz.prog.underlying 39 = some (.slice 43) := by kernel_rfl
theorem RL : Tryz.prog.underlying 4 = some (.bool) := by kernel_rfl
theorem Ni : Tryz.prog.underlying 42 = some (.slice 45) := by kernel_rfl
theorem qP : Tryz.prog.underlying 43 = some (.slice 47) := by kernel_rfl
theorem H9 : Tryz.prog.underlying 62 = some (.slice 98) := by kernel_rfl
theorem nE : Tryz.prog.underlying 96 = some (.slice 3) := by kernel_rfl
def vo (a b : aI) : Bool := (a.X0 == b.X0) && ((a.Y0 == b.Y0) && ((a.X1 == b.X1) && ((a.Y1 == b.Y1) && true)))
theorem uw {a b : aI} : vo a b = true ↔ a = b := by
  cases a; cases b; simp [vo, AU]
theorem Oa (a b : aI) (d : Nat) (W : World) : (Op.equalIn (d + 2) 38 (.agg #[(.int .i64 a.X0), (.int .i64 a.Y0), (.int .i64 a.X1), (.int .i64 a.Y1)]) (.agg #[(.int .i64 b.X0), (.int .i64 b.Y0), (.int .i64 b.X1), (.int .i64 b.Y1)])).run Tryz.prog W = .ok (vo a b) W := by
  rw [show d + 2 = (d + 1) + 1 from rfl, run_equalIn_struct W _ 38 _ _ (by kernel_rfl) (by kernel_rfl)]
  simp only [Program.fieldsOf, Tryz.underlying38]
  exact uy rfl (uW bQ rfl) (uW bQ rfl) (zg Tryz.underlying3) (uy rfl (uW bQ rfl) (uW bQ rfl) (zg Tryz.underlying3) (uy rfl (uW bQ rfl) (uW bQ rfl) (zg Tryz.underlying3) (uy rfl (uW bQ rfl) (uW bQ rfl) (zg Tryz.underlying3) (He))))
theorem QU {ρ : Operand → Value} {W : World} {dd : Option Tmp} {ty T' : TypeId} {pos : String} {af : Array Edge} {g : Option (Nat × Bool)} {p q : Operand} (a b : aI) (hp : ρ p = .agg #[(.int .i64 a.X0), (.int .i64 a.Y0), (.int .i64 a.X1), (.int .i64 a.Y1)]) (hq : ρ q = .agg #[(.int .i64 b.X0), (.int .i64 b.Y0), (.int .i64 b.X1), (.int .i64 b.Y1)]) : (execOp ρ ⟨dd, .binOp .eql 38 p q T', ty, pos, af, g⟩).run Tryz.prog W = .ok (.value (.bool (vo a b))) W :=
  Ec (m := 9998 + 2) rfl (by kernel_rfl) (Oa a b 9998 W) hp hq
theorem D9 {ρ : Operand → Value} {W : World} {dd : Option Tmp} {ty T' : TypeId} {pos : String} {af : Array Edge} {g : Option (Nat × Bool)} {p q : Operand} (a b : aI) (hp : ρ p = .agg #[(.int .i64 a.X0), (.int .i64 a.Y0), (.int .i64 a.X1), (.int .i64 a.Y1)]) (hq : ρ q = .agg #[(.int .i64 b.X0), (.int .i64 b.Y0), (.int .i64 b.X1), (.int .i64 b.Y1)]) : (execOp ρ ⟨dd, .binOp .neq 38 p q T', ty, pos, af, g⟩).run Tryz.prog W = .ok (.value (.bool (!vo a b))) W :=
  Ea (m := 9998 + 2) rfl (by kernel_rfl) (Oa a b 9998 W) hp hq
def fB (a b : aA) : Bool := (a.X == b.X) && ((a.Y == b.Y) && true)
theorem sM {a b : aA} : fB a b = true ↔ a = b := by
  cases a; cases b; simp [fB, AU]
theorem N9 (a b : aA) (d : Nat) (W : World) : (Op.equalIn (d + 2) 47 (.agg #[(.int .i64 a.X), (.int .i64 a.Y)]) (.agg #[(.int .i64 b.X), (.int .i64 b.Y)])).run Tryz.prog W = .ok (fB a b) W := by
  rw [show d + 2 = (d + 1) + 1 from rfl, run_equalIn_struct W _ 47 _ _ (by kernel_rfl) (by kernel_rfl)]
  simp only [Program.fieldsOf, Tryz.underlying47]
  exact uy rfl (uW bQ rfl) (uW bQ rfl) (zg Tryz.underlying3) (uy rfl (uW bQ rfl) (uW bQ rfl) (zg Tryz.underlying3) (He))
theorem vQ {ρ : Operand → Value} {W : World} {dd : Option Tmp} {ty T' : TypeId} {pos : String} {af : Array Edge} {g : Option (Nat × Bool)} {p q : Operand} (a b : aA) (hp : ρ p = .agg #[(.int .i64 a.X), (.int .i64 a.Y)]) (hq : ρ q = .agg #[(.int .i64 b.X), (.int .i64 b.Y)]) : (execOp ρ ⟨dd, .binOp .eql 47 p q T', ty, pos, af, g⟩).run Tryz.prog W = .ok (.value (.bool (fB a b))) W :=
  Ec (m := 9998 + 2) rfl (by kernel_rfl) (N9 a b 9998 W) hp hq
theorem vP {ρ : Operand → Value} {W : World} {dd : Option Tmp} {ty T' : TypeId} {pos : String} {af : Array Edge} {g : Option (Nat × Bool)} {p q : Operand} (a b : aA) (hp : ρ p = .agg #[(.int .i64 a.X), (.int .i64 a.Y)]) (hq : ρ q = .agg #[(.int .i64 b.X), (.int .i64 b.Y)]) : (execOp ρ ⟨dd, .binOp .neq 47 p q T', ty, pos, af, g⟩).run Tryz.prog W = .ok (.value (.bool (!fB a b))) W :=
  Ea (m := 9998 + 2) rfl (by kernel_rfl) (N9 a b 9998 W) hp hq
def yg (a b : jY) : Bool := (a.from_ == b.from_) && ((a.to_ == b.to_) && true)
theorem CK {a b : jY} : yg a b = true ↔ a = b := by
  cases a; cases b; simp [yg, AU]
theorem LQ (a b : jY) (d : Nat) (W : World) : (Op.equalIn (d + 2) 220 (.agg #[(.int .i64 a.from_), (.int .i64 a.to_)]) (.agg #[(.int .i64 b.from_), (.int .i64 b.to_)])).run Tryz.prog W = .ok (yg a b) W := by
  rw [show d + 2 = (d + 1) + 1 from rfl, run_equalIn_struct W _ 220 _ _ (by kernel_rfl) (by kernel_rfl)]
  simp only [Program.fieldsOf, Tryz.underlying220]
  exact uy rfl (uW bQ rfl) (uW bQ rfl) (zg Tryz.underlying3) (uy rfl (uW bQ rfl) (uW bQ rfl) (zg Tryz.underlying3) (He))
theorem Qm {ρ : Operand → Value} {W : World} {dd : Option Tmp} {ty T' : TypeId} {pos : String} {af : Array Edge} {g : Option (Nat × Bool)} {p q : Operand} (a b : jY) (hp : ρ p = .agg #[(.int .i64 a.from_), (.int .i64 a.to_)]) (hq : ρ q = .agg #[(.int .i64 b.from_), (.int .i64 b.to_)]) : (execOp ρ ⟨dd, .binOp .eql 220 p q T', ty, pos, af, g⟩).run Tryz.prog W = .ok (.value (.bool (yg a b))) W :=
  Ec (m := 9998 + 2) rfl (by kernel_rfl) (LQ a b 9998 W) hp hq
theorem Il {ρ : Operand → Value} {W : World} {dd : Option Tmp} {ty T' : TypeId} {pos : String} {af : Array Edge} {g : Option (Nat × Bool)} {p q : Operand} (a b : jY) (hp : ρ p = .agg #[(.int .i64 a.from_), (.int .i64 a.to_)]) (hq : ρ q = .agg #[(.int .i64 b.from_), (.int .i64 b.to_)]) : (execOp ρ ⟨dd, .binOp .neq 220 p q T', ty, pos, af, g⟩).run Tryz.prog W = .ok (.value (.bool (!yg a b))) W :=
  Ea (m := 9998 + 2) rfl (by kernel_rfl) (LQ a b 9998 W) hp hq
end Go.Proofs.YtcjeebkoafonpaaGreatDoor
