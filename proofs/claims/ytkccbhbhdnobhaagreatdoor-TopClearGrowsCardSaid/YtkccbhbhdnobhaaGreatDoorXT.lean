/- Types of the data, and closed facts of the program's table of types. -/
import Derived.Test.YtkccbhbhdnobhaaGreatDoorProg
import Derived.Test.YtkccbhbhdnobhaaGreatDoorJ2
import Derived.Test.YtkccbhbhdnobhaaGreatDoorJ3
import Derived.Test.YtkccbhbhdnobhaaGreatDoorSH
namespace Go.Proofs.YtkccbhbhdnobhaaGreatDoor
open Go.RowKit
set_option maxRecDepth 100000
structure kw where
  Name:ByteArray
  Nets:(List ByteArray)
  Clearance:Int
  Width:Int
structure au where
  X0:Int
  Y0:Int
  X1:Int
  Y1:Int
structure aQ where
  Y0:Int
  Y1:Int
  Xs:(List Int)
structure mE where
  Layer:Int
  Region:(List au)
  Clearance:Int
structure gp where
  Clearance:Int
  Width:Int
  Ring:Int
  Edge:Int
  HoleGap:Int
  Classes:(List kw)
  Areas:(List mE)
structure fC where
  X:Int
  Y:Int
structure gP where
  At:fC
  Size:Int
  From:Int
  To:Int
  Plated:Bool
structure pG where
  Part:ByteArray
  Pin:ByteArray
  Layer:Int
  At:fC
structure nU where
  Coppers:(List (List au))
  Outline:(List au)
  Bores:(List gP)
  Lands:(List pG)
structure wK where
  Part:ByteArray
  Pin:ByteArray
structure eQ where
  Layer:Int
  Set:(List aQ)
  Rects:(List au)
structure dz where
  Pieces:(List Int)
  Bores:(List Int)
  Pins:(List wK)
structure oC where
  Bore:Bool
  Number:Int
structure dD where
  Art:nU
  Drilled:(List (List aQ))
  Pieces:(List eQ)
  Touched:(List (List Int))
  Groups:(List dz)
  OfPiece:(List Int)
  OfBore:(List Int)
  OfLand:(List Int)
  AtLand:(List oC)
structure og where
  up:(List Int)
structure AB where
  A:Int
  B:Int
  Distance:Int
  From:fC
  To:fC
structure ik where
  Kind:Int
  A:Int
  B:Int
  Is:Int
  Need:Int
  At:fC
structure sZ where
  Name:ByteArray
  Rects:(List au)
structure eF where
  Kind:Int
  Name:ByteArray
  At:fC
  Points:(List fC)
  NX:Int
  NY:Int
  Steps:(List eF)
structure RX where
  name:Bool
  at_:Bool
  points:Bool
  repeat_:Bool
structure tT where
  Unit:Int
  Tools:(List sZ)
  Steps:(List eF)
structure ig where
  Layer:Int
  First:fC
  Area:Int
def az:Fl Int:=Fl.flat 1 (fun x=>[(.int .i64 x)]) (fun _=>rfl) (fun _ u h=>by
  simp at h
  subst h;rfl)
theorem iH:∀u x,az.enc u x=[(.int .i64 x)]:=fun _ _=>rfl
theorem ql:az.E8:=fun _ _ _ _=>trivial
def mD:Fl ByteArray:=Fl.flat 1 (fun x=>[(.string x)]) (fun _=>rfl) (fun _ u h=>by
  simp at h
  subst h;rfl)
theorem vT:∀u x,mD.enc u x=[(.string x)]:=fun _ _=>rfl
theorem G5:mD.E8:=fun _ _ _ _=>trivial
def iW:Fl kw where
  Ad:=(Option Addr×Nat)
  sz:=4
  enc u x:=[(.string x.Name),(.slice u.1 (x.Nets).length u.2),(.int .i64 x.Clearance),(.int .i64 x.Width)]
  ok S W u x:=Sl S W mD u.1 u.2 x.Nets
  len _ _:=rfl
  one _ _ v h:=by
    simp at h
    rcases h with rfl|rfl|rfl|rfl<;>rfl
  loc h hs hb:=h.go hs hb
def aB:Fl au:=Fl.flat 4 (fun x=>[(.int .i64 x.X0),(.int .i64 x.Y0),(.int .i64 x.X1),(.int .i64 x.Y1)]) (fun _=>rfl) (fun _ u h=>by
  simp at h
  rcases h with rfl|rfl|rfl|rfl<;>rfl)
theorem gm:∀u x,aB.enc u x=[(.int .i64 x.X0),(.int .i64 x.Y0),(.int .i64 x.X1),(.int .i64 x.Y1)]:=fun _ _=>rfl
theorem jb:aB.E8:=fun _ _ _ _=>trivial
def aY:Fl aQ where
  Ad:=(Option Addr×Nat)
  sz:=3
  enc u x:=[(.int .i64 x.Y0),(.int .i64 x.Y1),(.slice u.1 (x.Xs).length u.2)]
  ok S W u x:=Sl S W az u.1 u.2 x.Xs
  len _ _:=rfl
  one _ _ v h:=by
    simp at h
    rcases h with rfl|rfl|rfl<;>rfl
  loc h hs hb:=h.go hs hb
def jh:Fl mE where
  Ad:=(Option Addr×Nat)
  sz:=3
  enc u x:=[(.int .i64 x.Layer),(.slice u.1 (x.Region).length u.2),(.int .i64 x.Clearance)]
  ok S W u x:=Sl S W aB u.1 u.2 x.Region
  len _ _:=rfl
  one _ _ v h:=by
    simp at h
    rcases h with rfl|rfl|rfl<;>rfl
  loc h hs hb:=h.go hs hb
def dF:Fl (List au) where
  Ad:=(Option Addr×Nat)
  sz:=1
  enc u x:=[(.slice u.1 (x).length u.2)]
  ok S W u x:=Sl S W aB u.1 u.2 x
  len _ _:=rfl
  one _ _ v h:=by
    simp at h
    subst h;rfl
  loc h hs hb:=h.go hs hb
def dY:Fl gP:=Fl.flat 6 (fun x=>[(.int .i64 x.At.X),(.int .i64 x.At.Y),(.int .i64 x.Size),(.int .i64 x.From),(.int .i64 x.To),(.bool x.Plated)]) (fun _=>rfl) (fun _ u h=>by
  simp at h
  rcases h with rfl|rfl|rfl|rfl|rfl|rfl<;>rfl)
theorem rT:∀u x,dY.enc u x=[(.int .i64 x.At.X),(.int .i64 x.At.Y),(.int .i64 x.Size),(.int .i64 x.From),(.int .i64 x.To),(.bool x.Plated)]:=fun _ _=>rfl
theorem KW:dY.E8:=fun _ _ _ _=>trivial
def eH:Fl pG:=Fl.flat 5 (fun x=>[(.string x.Part),(.string x.Pin),(.int .i64 x.Layer),(.int .i64 x.At.X),(.int .i64 x.At.Y)]) (fun _=>rfl) (fun _ u h=>by
  simp at h
  rcases h with rfl|rfl|rfl|rfl|rfl<;>rfl)
theorem zM:∀u x,eH.enc u x=[(.string x.Part),(.string x.Pin),(.int .i64 x.Layer),(.int .i64 x.At.X),(.int .i64 x.At.Y)]:=fun _ _=>rfl
theorem KV:eH.E8:=fun _ _ _ _=>trivial
def bM:Fl (List aQ) where
  Ad:=(Option Addr×Nat)
  sz:=1
  enc u x:=[(.slice u.1 (x).length u.2)]
  ok S W u x:=Sl S W aY u.1 u.2 x
  len _ _:=rfl
  one _ _ v h:=by
    simp at h
    subst h;rfl
  loc h hs hb:=h.go hs hb
def dG:Fl eQ where
  Ad:=(Option Addr×Nat)×(Option Addr×Nat)
  sz:=3
  enc u x:=[(.int .i64 x.Layer),(.slice u.1.1 (x.Set).length u.1.2),(.slice u.2.1 (x.Rects).length u.2.2)]
  ok S W u x:=Sl S W aY u.1.1 u.1.2 x.Set∧Sl S W aB u.2.1 u.2.2 x.Rects
  len _ _:=rfl
  one _ _ v h:=by
    simp at h
    rcases h with rfl|rfl|rfl<;>rfl
  loc h hs hb:=⟨h.1.go hs hb,h.2.go hs hb⟩
def fE:Fl (List Int) where
  Ad:=(Option Addr×Nat)
  sz:=1
  enc u x:=[(.slice u.1 (x).length u.2)]
  ok S W u x:=Sl S W az u.1 u.2 x
  len _ _:=rfl
  one _ _ v h:=by
    simp at h
    subst h;rfl
  loc h hs hb:=h.go hs hb
def om:Fl wK:=Fl.flat 2 (fun x=>[(.string x.Part),(.string x.Pin)]) (fun _=>rfl) (fun _ u h=>by
  simp at h
  rcases h with rfl|rfl<;>rfl)
theorem RP:∀u x,om.enc u x=[(.string x.Part),(.string x.Pin)]:=fun _ _=>rfl
theorem RH:om.E8:=fun _ _ _ _=>trivial
def dw:Fl dz where
  Ad:=(Option Addr×Nat)×(Option Addr×Nat)×(Option Addr×Nat)
  sz:=3
  enc u x:=[(.slice u.1.1 (x.Pieces).length u.1.2),(.slice u.2.1.1 (x.Bores).length u.2.1.2),(.slice u.2.2.1 (x.Pins).length u.2.2.2)]
  ok S W u x:=Sl S W az u.1.1 u.1.2 x.Pieces∧Sl S W az u.2.1.1 u.2.1.2 x.Bores∧Sl S W om u.2.2.1 u.2.2.2 x.Pins
  len _ _:=rfl
  one _ _ v h:=by
    simp at h
    rcases h with rfl|rfl|rfl<;>rfl
  loc h hs hb:=⟨h.1.go hs hb,h.2.1.go hs hb,h.2.2.go hs hb⟩
def dX:Fl oC:=Fl.flat 2 (fun x=>[(.bool x.Bore),(.int .i64 x.Number)]) (fun _=>rfl) (fun _ u h=>by
  simp at h
  rcases h with rfl|rfl<;>rfl)
theorem RQ:∀u x,dX.enc u x=[(.bool x.Bore),(.int .i64 x.Number)]:=fun _ _=>rfl
theorem RJ:dX.E8:=fun _ _ _ _=>trivial
def iE:Fl ik:=Fl.flat 7 (fun x=>[(.int .i64 x.Kind),(.int .i64 x.A),(.int .i64 x.B),(.int .i64 x.Is),(.int .i64 x.Need),(.int .i64 x.At.X),(.int .i64 x.At.Y)]) (fun _=>rfl) (fun _ u h=>by
  simp at h
  rcases h with rfl|rfl|rfl|rfl|rfl|rfl|rfl<;>rfl)
theorem Qt:∀u x,iE.enc u x=[(.int .i64 x.Kind),(.int .i64 x.A),(.int .i64 x.B),(.int .i64 x.Is),(.int .i64 x.Need),(.int .i64 x.At.X),(.int .i64 x.At.Y)]:=fun _ _=>rfl
theorem JE:iE.E8:=fun _ _ _ _=>trivial
def yc:Fl fC:=Fl.flat 2 (fun x=>[(.int .i64 x.X),(.int .i64 x.Y)]) (fun _=>rfl) (fun _ u h=>by
  simp at h
  rcases h with rfl|rfl<;>rfl)
theorem Qs:∀u x,yc.enc u x=[(.int .i64 x.X),(.int .i64 x.Y)]:=fun _ _=>rfl
theorem Qq:yc.E8:=fun _ _ _ _=>trivial
def yA:Qu eF where
  Ad:=(Option Addr×Nat)×(Option Addr×Nat)
  sz:=8
  enc u x:=[(.int .i64 x.Kind),(.string x.Name),(.int .i64 x.At.X),(.int .i64 x.At.Y),(.slice u.1.1 (x.Points).length u.1.2),(.int .i64 x.NX),(.int .i64 x.NY),(.slice u.2.1 (x.Steps).length u.2.2)]
  okb S W u x:=Sl S W yc u.1.1 u.1.2 x.Points
  ua u:=u.2
  sub x:=x.Steps
  len _ _:=rfl
  one _ _ v h:=by
    simp at h
    rcases h with rfl|rfl|rfl|rfl|rfl|rfl|rfl|rfl<;>rfl
  loc h hs hb:=h.go hs hb
def ic:Fl eF:=yA.fix
theorem OC{S:Nat→Prop}{W:World}{u:(Option Addr×Nat)×(Option Addr×Nat)}{x:eF}:ic.ok S W u x↔Sl S W yc u.1.1 u.1.2 x.Points∧Sl S W ic u.2.1 u.2.2 x.Steps:=
  Qu.P7 yA
def qI:Fl sZ where
  Ad:=(Option Addr×Nat)
  sz:=2
  enc u x:=[(.string x.Name),(.slice u.1 (x.Rects).length u.2)]
  ok S W u x:=Sl S W aB u.1 u.2 x.Rects
  len _ _:=rfl
  one _ _ v h:=by
    simp at h
    rcases h with rfl|rfl<;>rfl
  loc h hs hb:=h.go hs hb
def eP:Fl ig:=Fl.flat 4 (fun x=>[(.int .i64 x.Layer),(.int .i64 x.First.X),(.int .i64 x.First.Y),(.int .i64 x.Area)]) (fun _=>rfl) (fun _ u h=>by
  simp at h
  rcases h with rfl|rfl|rfl|rfl<;>rfl)
theorem zL:∀u x,eP.enc u x=[(.int .i64 x.Layer),(.int .i64 x.First.X),(.int .i64 x.First.Y),(.int .i64 x.Area)]:=fun _ _=>rfl
theorem vG:eP.E8:=fun _ _ _ _=>trivial
def BH:Fl Nat:=Fl.flat 1 (fun x=>[(.func (.func x) #[] #[])]) (fun _=>rfl) (fun _ u h=>by
  simp at h
  subst h;rfl)
theorem Oh:∀u x,BH.enc u x=[(.func (.func x) #[] #[])]:=fun _ _=>rfl
theorem RG:BH.E8:=fun _ _ _ _=>trivial
def eu:Lens dw om where
  get x:=x.Pins
  ga u:=u.2.2
  okR S W u x:=Sl S W az u.1.1 u.1.2 x.Pieces∧Sl S W az u.2.1.1 u.2.1.2 x.Bores
  ok S W u x h1 h2:=⟨h1.1,h1.2,h2⟩
  locR h hs hb:=⟨h.1.go hs hb,h.2.go hs hb⟩
theorem gV:jg Tryz.prog 111=some true:=by kernel_rfl
theorem oH:jg Tryz.prog 119=some true:=by kernel_rfl
theorem CZ:jg Tryz.prog 123=some true:=by kernel_rfl
theorem Im:jg Tryz.prog 137=some true:=by kernel_rfl
theorem Az:jg Tryz.prog 155=some true:=by kernel_rfl
theorem Ql:jg Tryz.prog 159=some true:=by kernel_rfl
theorem CY:jg Tryz.prog 172=some true:=by kernel_rfl
theorem EW:jg Tryz.prog 191=some true:=by kernel_rfl
theorem Pj:jg Tryz.prog 22=some false:=by kernel_rfl
theorem MO:jg Tryz.prog 23=some false:=by kernel_rfl
theorem zQ:jg Tryz.prog 25=some true:=by kernel_rfl
theorem Ej:jg Tryz.prog 26=some false:=by kernel_rfl
theorem tQ:jg Tryz.prog 27=some false:=by kernel_rfl
theorem yG:jg Tryz.prog 28=some false:=by kernel_rfl
theorem Jv:jg Tryz.prog 29=some false:=by kernel_rfl
theorem bG:jg Tryz.prog 3=some false:=by kernel_rfl
theorem uZ:jg Tryz.prog 31=some true:=by kernel_rfl
theorem Rw:jg Tryz.prog 32=some false:=by kernel_rfl
theorem MN:jg Tryz.prog 4=some false:=by kernel_rfl
theorem CX:jg Tryz.prog 41=some false:=by kernel_rfl
theorem tO:jg Tryz.prog 48=some true:=by kernel_rfl
theorem MM:jg Tryz.prog 61=some false:=by kernel_rfl
theorem ML:jg Tryz.prog 62=some false:=by kernel_rfl
theorem Pi:jg Tryz.prog 64=some true:=by kernel_rfl
theorem Rv:jg Tryz.prog 66=some false:=by kernel_rfl
theorem wF:jg Tryz.prog 67=some false:=by kernel_rfl
theorem Ph:jg Tryz.prog 68=some false:=by kernel_rfl
theorem gU:jg Tryz.prog 69=some false:=by kernel_rfl
theorem Ru:jg Tryz.prog 70=some false:=by kernel_rfl
theorem MK:jg Tryz.prog 74=some false:=by kernel_rfl
theorem Ju:jg Tryz.prog 76=some true:=by kernel_rfl
theorem Rt:jg Tryz.prog 81=some false:=by kernel_rfl
theorem Rs:jg Tryz.prog 83=some false:=by kernel_rfl
theorem Rq:jg Tryz.prog 85=some true:=by kernel_rfl
theorem zP:jg Tryz.prog 9=some false:=by kernel_rfl
theorem Pg:jg Tryz.prog 93=some true:=by kernel_rfl
theorem dh:kD Tryz.prog 111=some 4:=by kernel_rfl
theorem lT:kD Tryz.prog 119=some 6:=by kernel_rfl
theorem uE:kD Tryz.prog 123=some 3:=by kernel_rfl
theorem BP:kD Tryz.prog 137=some 3:=by kernel_rfl
theorem wZ:kD Tryz.prog 155=some 5:=by kernel_rfl
theorem G6:kD Tryz.prog 159=some 2:=by kernel_rfl
theorem uD:kD Tryz.prog 172=some 2:=by kernel_rfl
theorem yK:kD Tryz.prog 191=some 4:=by kernel_rfl
theorem yu:kD Tryz.prog 25=some 7:=by kernel_rfl
theorem OZ:kD Tryz.prog 27=some 1:=by kernel_rfl
theorem pI:kD Tryz.prog 3=some 1:=by kernel_rfl
theorem uP:kD Tryz.prog 31=some 4:=by kernel_rfl
theorem QP:kD Tryz.prog 41=some 1:=by kernel_rfl
theorem pQ:kD Tryz.prog 48=some 2:=by kernel_rfl
theorem QO:kD Tryz.prog 50=some 4:=by kernel_rfl
theorem OY:kD Tryz.prog 64=some 3:=by kernel_rfl
theorem QN:kD Tryz.prog 66=some 1:=by kernel_rfl
theorem QM:kD Tryz.prog 67=some 1:=by kernel_rfl
theorem QL:kD Tryz.prog 68=some 1:=by kernel_rfl
theorem uN:kD Tryz.prog 69=some 1:=by kernel_rfl
theorem QK:kD Tryz.prog 70=some 1:=by kernel_rfl
theorem OX:kD Tryz.prog 74=some 1:=by kernel_rfl
theorem zi:kD Tryz.prog 76=some 3:=by kernel_rfl
theorem QJ:kD Tryz.prog 83=some 1:=by kernel_rfl
theorem OW:kD Tryz.prog 85=some 3:=by kernel_rfl
theorem Fh:kD Tryz.prog 93=some 7:=by kernel_rfl
theorem QI:kD Tryz.prog 97=some 7:=by kernel_rfl
theorem lK:zeroOf Tryz.prog 111=some [(.int .i64 0),(.int .i64 0),(.int .i64 0),(.int .i64 0)]:=by kernel_rfl
theorem Aa:zeroOf Tryz.prog 119=some [(.int .i64 0),(.int .i64 0),(.int .i64 0),(.int .i64 0),(.int .i64 0),(.bool false)]:=by kernel_rfl
theorem Eu:zeroOf Tryz.prog 123=some [(.int .i64 0),(.int .i64 0),(.slice none 0 0)]:=by kernel_rfl
theorem KG:zeroOf Tryz.prog 137=some [(.int .i64 0),(.slice none 0 0),(.int .i64 0)]:=by kernel_rfl
theorem KF:zeroOf Tryz.prog 155=some [(.string ⟨#[]⟩),(.string ⟨#[]⟩),(.int .i64 0),(.int .i64 0),(.int .i64 0)]:=by kernel_rfl
theorem PD:zeroOf Tryz.prog 159=some [(.string ⟨#[]⟩),(.string ⟨#[]⟩)]:=by kernel_rfl
theorem KD:zeroOf Tryz.prog 172=some [(.bool false),(.int .i64 0)]:=by kernel_rfl
theorem KC:zeroOf Tryz.prog 191=some [(.string ⟨#[]⟩),(.slice none 0 0),(.int .i64 0),(.int .i64 0)]:=by kernel_rfl
theorem QB:zeroOf Tryz.prog 25=some [(.int .i64 0),(.int .i64 0),(.int .i64 0),(.int .i64 0),(.int .i64 0),(.slice none 0 0),(.slice none 0 0)]:=by kernel_rfl
theorem Et:zeroOf Tryz.prog 3=some [(.int .i64 0)]:=by kernel_rfl
theorem Iz:zeroOf Tryz.prog 48=some [(.int .i64 0),(.int .i64 0)]:=by kernel_rfl
theorem OU:zeroOf Tryz.prog 69=some [(.slice none 0 0)]:=by kernel_rfl
theorem Iy:zeroOf Tryz.prog 76=some [(.int .i64 0),(.slice none 0 0),(.slice none 0 0)]:=by kernel_rfl
theorem QA:zeroOf Tryz.prog 85=some [(.slice none 0 0),(.slice none 0 0),(.slice none 0 0)]:=by kernel_rfl
theorem KA:zeroOf Tryz.prog 93=some [(.int .i64 0),(.int .i64 0),(.int .i64 0),(.int .i64 0),(.int .i64 0),(.int .i64 0),(.int .i64 0)]:=by kernel_rfl
theorem PE:zeroOf Tryz.prog 102=some [.pointer none,.slice none 0 0]:=by kernel_rfl
theorem BJ:(zeroOf Tryz.prog 111).map List.length=some 4:=by kernel_rfl
theorem Py:(zeroOf Tryz.prog 123).map List.length=some 3:=by kernel_rfl
theorem Px:(zeroOf Tryz.prog 159).map List.length=some 2:=by kernel_rfl
theorem Pw:(zeroOf Tryz.prog 172).map List.length=some 2:=by kernel_rfl
theorem Qz:(zeroOf Tryz.prog 27).map List.length=some 1:=by kernel_rfl
theorem Dl:(zeroOf Tryz.prog 3).map List.length=some 1:=by kernel_rfl
theorem Qy:(zeroOf Tryz.prog 50).map List.length=some 4:=by kernel_rfl
theorem OT:(zeroOf Tryz.prog 69).map List.length=some 1:=by kernel_rfl
theorem OQ:(zeroOf Tryz.prog 74).map List.length=some 1:=by kernel_rfl
theorem Qx:(zeroOf Tryz.prog 76).map List.length=some 3:=by kernel_rfl
theorem Qw:(zeroOf Tryz.prog 85).map List.length=some 3:=by kernel_rfl
theorem Qv:(zeroOf Tryz.prog 97).map List.length=some 7:=by kernel_rfl
theorem CS:(Tryz.prog.info? 111).map (·.bytes)=some 32:=by kernel_rfl
theorem Qg:(Tryz.prog.info? 123).map (·.bytes)=some 40:=by kernel_rfl
theorem Qf:(Tryz.prog.info? 159).map (·.bytes)=some 32:=by kernel_rfl
theorem Qe:(Tryz.prog.info? 172).map (·.bytes)=some 16:=by kernel_rfl
theorem Rl:(Tryz.prog.info? 27).map (·.bytes)=some 24:=by kernel_rfl
theorem xx:(Tryz.prog.info? 3).map (·.bytes)=some 8:=by kernel_rfl
theorem Rk:(Tryz.prog.info? 50).map (·.bytes)=some 32:=by kernel_rfl
theorem Pf:(Tryz.prog.info? 69).map (·.bytes)=some 24:=by kernel_rfl
theorem Pe:(Tryz.prog.info? 74).map (·.bytes)=some 24:=by kernel_rfl
theorem Rj:(Tryz.prog.info? 76).map (·.bytes)=some 56:=by kernel_rfl
theorem Ri:(Tryz.prog.info? 85).map (·.bytes)=some 72:=by kernel_rfl
theorem Rh:(Tryz.prog.info? 97).map (·.bytes)=some 56:=by kernel_rfl
theorem jd:cz Tryz.prog 111 0=some 0:=by kernel_rfl
theorem jK:cz Tryz.prog 111 1=some 1:=by kernel_rfl
theorem jZ:cz Tryz.prog 111 2=some 2:=by kernel_rfl
theorem nA:cz Tryz.prog 111 3=some 3:=by kernel_rfl
theorem CE:cz Tryz.prog 119 0=some 0:=by kernel_rfl
theorem xm:cz Tryz.prog 119 1=some 2:=by kernel_rfl
theorem xk:cz Tryz.prog 119 2=some 3:=by kernel_rfl
theorem zJ:cz Tryz.prog 119 3=some 4:=by kernel_rfl
theorem zI:cz Tryz.prog 119 4=some 5:=by kernel_rfl
theorem pX:cz Tryz.prog 123 0=some 0:=by kernel_rfl
theorem nT:cz Tryz.prog 123 1=some 1:=by kernel_rfl
theorem lU:cz Tryz.prog 123 2=some 2:=by kernel_rfl
theorem CB:cz Tryz.prog 137 0=some 0:=by kernel_rfl
theorem Cz:cz Tryz.prog 137 1=some 1:=by kernel_rfl
theorem Gh:cz Tryz.prog 137 2=some 2:=by kernel_rfl
theorem Gg:cz Tryz.prog 155 0=some 0:=by kernel_rfl
theorem Gf:cz Tryz.prog 155 1=some 1:=by kernel_rfl
theorem zH:cz Tryz.prog 155 2=some 2:=by kernel_rfl
theorem Cy:cz Tryz.prog 155 3=some 3:=by kernel_rfl
theorem Gd:cz Tryz.prog 159 0=some 0:=by kernel_rfl
theorem Gc:cz Tryz.prog 159 1=some 1:=by kernel_rfl
theorem Mj:cz Tryz.prog 172 0=some 0:=by kernel_rfl
theorem Gb:cz Tryz.prog 172 1=some 1:=by kernel_rfl
theorem Mi:cz Tryz.prog 191 1=some 1:=by kernel_rfl
theorem qG:cz Tryz.prog 207 0=some 0:=by kernel_rfl
theorem BG:cz Tryz.prog 25 0=some 0:=by kernel_rfl
theorem Ob:cz Tryz.prog 25 1=some 1:=by kernel_rfl
theorem Oa:cz Tryz.prog 25 2=some 2:=by kernel_rfl
theorem N9:cz Tryz.prog 25 3=some 3:=by kernel_rfl
theorem N8:cz Tryz.prog 25 4=some 4:=by kernel_rfl
theorem Jh:cz Tryz.prog 25 5=some 5:=by kernel_rfl
theorem EP:cz Tryz.prog 25 6=some 6:=by kernel_rfl
theorem xZ:cz Tryz.prog 31 0=some 0:=by kernel_rfl
theorem Jg:cz Tryz.prog 31 1=some 1:=by kernel_rfl
theorem rE:cz Tryz.prog 31 2=some 2:=by kernel_rfl
theorem BF:cz Tryz.prog 31 3=some 3:=by kernel_rfl
theorem uu:cz Tryz.prog 48 0=some 0:=by kernel_rfl
theorem rD:cz Tryz.prog 48 1=some 1:=by kernel_rfl
theorem Jf:cz Tryz.prog 50 0=some 0:=by kernel_rfl
theorem Je:cz Tryz.prog 64 0=some 0:=by kernel_rfl
theorem EO:cz Tryz.prog 64 1=some 1:=by kernel_rfl
theorem EN:cz Tryz.prog 64 2=some 2:=by kernel_rfl
theorem ut:cz Tryz.prog 72 0=some 0:=by kernel_rfl
theorem Jd:cz Tryz.prog 72 1=some 4:=by kernel_rfl
theorem oW:cz Tryz.prog 72 2=some 5:=by kernel_rfl
theorem EM:cz Tryz.prog 72 3=some 6:=by kernel_rfl
theorem uq:cz Tryz.prog 72 4=some 7:=by kernel_rfl
theorem xY:cz Tryz.prog 72 5=some 8:=by kernel_rfl
theorem BD:cz Tryz.prog 72 6=some 9:=by kernel_rfl
theorem Jc:cz Tryz.prog 72 7=some 10:=by kernel_rfl
theorem Jb:cz Tryz.prog 72 8=some 11:=by kernel_rfl
theorem xX:cz Tryz.prog 76 0=some 0:=by kernel_rfl
theorem N7:cz Tryz.prog 76 1=some 1:=by kernel_rfl
theorem xW:cz Tryz.prog 76 2=some 2:=by kernel_rfl
theorem zG:cz Tryz.prog 85 0=some 0:=by kernel_rfl
theorem EL:cz Tryz.prog 85 1=some 1:=by kernel_rfl
theorem Ja:cz Tryz.prog 85 2=some 2:=by kernel_rfl
theorem I9:cz Tryz.prog 93 2=some 2:=by kernel_rfl
theorem uo:cz Tryz.prog 93 3=some 3:=by kernel_rfl
theorem I8:cz Tryz.prog 93 4=some 5:=by kernel_rfl
theorem Mo:CF Tryz.prog 191 2=some (2,3):=by kernel_rfl
theorem P9:elemOf? Tryz.prog 124=some (81,1):=by kernel_rfl
theorem Ra:elemOf? Tryz.prog 22=some (191,4):=by kernel_rfl
theorem Pb:elemOf? Tryz.prog 23=some (137,3):=by kernel_rfl
theorem Gn:elemOf? Tryz.prog 26=some (27,1):=by kernel_rfl
theorem mP:elemOf? Tryz.prog 27=some (111,4):=by kernel_rfl
theorem Bg:elemOf? Tryz.prog 28=some (119,6):=by kernel_rfl
theorem Mr:elemOf? Tryz.prog 29=some (155,5):=by kernel_rfl
theorem Ee:elemOf? Tryz.prog 32=some (9,1):=by kernel_rfl
theorem O9:elemOf? Tryz.prog 38=some (50,4):=by kernel_rfl
theorem Jo:elemOf? Tryz.prog 41=some (85,3):=by kernel_rfl
theorem O8:elemOf? Tryz.prog 66=some (74,1):=by kernel_rfl
theorem CL:elemOf? Tryz.prog 67=some (76,3):=by kernel_rfl
theorem Jn:elemOf? Tryz.prog 68=some (69,1):=by kernel_rfl
theorem iX:elemOf? Tryz.prog 69=some (3,1):=by kernel_rfl
theorem nL:elemOf? Tryz.prog 74=some (123,3):=by kernel_rfl
theorem Pz:(Tryz.prog.info? 3).bind (·.zero)=some (.int .i64 0):=by kernel_rfl
theorem PH:Tryz.prog.underlying 124=some (.slice 81):=by kernel_rfl
theorem BM:Tryz.prog.underlying 203=some (.map 3 3):=by kernel_rfl
theorem KS:Tryz.prog.underlying 210=some (.int .u64):=by kernel_rfl
theorem KR:Tryz.prog.underlying 22=some (.slice 191):=by kernel_rfl
theorem KQ:Tryz.prog.underlying 23=some (.slice 137):=by kernel_rfl
theorem zg:Tryz.prog.underlying 26=some (.slice 27):=by kernel_rfl
theorem lS:Tryz.prog.underlying 27=some (.slice 111):=by kernel_rfl
theorem zf:Tryz.prog.underlying 28=some (.slice 119):=by kernel_rfl
theorem KP:Tryz.prog.underlying 29=some (.slice 155):=by kernel_rfl
theorem GZ:Tryz.prog.underlying 3=some (.int .i64):=by kernel_rfl
theorem KO:Tryz.prog.underlying 32=some (.slice 9):=by kernel_rfl
theorem IB:Tryz.prog.underlying 33=some (.slice 97):=by kernel_rfl
theorem KN:Tryz.prog.underlying 38=some (.slice 50):=by kernel_rfl
theorem Sc:Tryz.prog.underlying 4=some (.bool):=by kernel_rfl
theorem Ff:Tryz.prog.underlying 41=some (.slice 85):=by kernel_rfl
theorem KM:Tryz.prog.underlying 61=some (.slice 109):=by kernel_rfl
theorem KL:Tryz.prog.underlying 62=some (.slice 149):=by kernel_rfl
theorem IA:Tryz.prog.underlying 66=some (.slice 74):=by kernel_rfl
theorem ze:Tryz.prog.underlying 67=some (.slice 76):=by kernel_rfl
theorem Fe:Tryz.prog.underlying 68=some (.slice 69):=by kernel_rfl
theorem jN:Tryz.prog.underlying 69=some (.slice 3):=by kernel_rfl
theorem QF:Tryz.prog.underlying 70=some (.slice 172):=by kernel_rfl
theorem rM:Tryz.prog.underlying 74=some (.slice 123):=by kernel_rfl
theorem QE:Tryz.prog.underlying 83=some (.slice 159):=by kernel_rfl
theorem KJ:Tryz.prog.underlying 9=some (.string):=by kernel_rfl
def xq(a b:fC):Bool:=(a.X==b.X)&&((a.Y==b.Y)&&true)
theorem Oe{a b:fC}:xq a b=true↔a=b:=by
  cases a;cases b;simp[xq,ED]
theorem Mq(a b:fC)(d:Nat)(W:World):(Op.equalIn (d+2) 48 (.agg #[(.int .i64 a.X),(.int .i64 a.Y)]) (.agg #[(.int .i64 b.X),(.int .i64 b.Y)])).run Tryz.prog W= .ok (xq a b) W:=by
  rw[show d+2=(d+1)+1 from rfl,run_equalIn_struct W _ 48 _ _ (by kernel_rfl) (by kernel_rfl)]
  simp only[Program.fieldsOf,Tryz.underlying48]
  exact uX rfl (uT bG rfl) (uT bG rfl) (Ap Tryz.underlying3) (uX rfl (uT bG rfl) (uT bG rfl) (Ap Tryz.underlying3) (Jm))
theorem PQ{ρ:Operand→Value}{W:World}{dd:Option Tmp}{ty T':TypeId}{pos:String}{af:Array Edge}{g:Option (Nat×Bool)}{p q:Operand}(a b:fC)(hp:ρ p= .agg #[(.int .i64 a.X),(.int .i64 a.Y)])(hq:ρ q= .agg #[(.int .i64 b.X),(.int .i64 b.Y)]):(execOp ρ ⟨dd,.binOp .eql 48 p q T',ty,pos,af,g⟩).run Tryz.prog W= .ok (.value (.bool (xq a b))) W:=
  FH (m:=9998+2) rfl (by kernel_rfl) (Mq a b 9998 W) hp hq
theorem PP{ρ:Operand→Value}{W:World}{dd:Option Tmp}{ty T':TypeId}{pos:String}{af:Array Edge}{g:Option (Nat×Bool)}{p q:Operand}(a b:fC)(hp:ρ p= .agg #[(.int .i64 a.X),(.int .i64 a.Y)])(hq:ρ q= .agg #[(.int .i64 b.X),(.int .i64 b.Y)]):(execOp ρ ⟨dd,.binOp .neq 48 p q T',ty,pos,af,g⟩).run Tryz.prog W= .ok (.value (.bool (!xq a b))) W:=
  FD (m:=9998+2) rfl (by kernel_rfl) (Mq a b 9998 W) hp hq
def vS(a b:au):Bool:=(a.X0==b.X0)&&((a.Y0==b.Y0)&&((a.X1==b.X1)&&((a.Y1==b.Y1)&&true)))
theorem xn{a b:au}:vS a b=true↔a=b:=by
  cases a;cases b;simp[vS,ED]
theorem Jl(a b:au)(d:Nat)(W:World):(Op.equalIn (d+2) 111 (.agg #[(.int .i64 a.X0),(.int .i64 a.Y0),(.int .i64 a.X1),(.int .i64 a.Y1)]) (.agg #[(.int .i64 b.X0),(.int .i64 b.Y0),(.int .i64 b.X1),(.int .i64 b.Y1)])).run Tryz.prog W= .ok (vS a b) W:=by
  rw[show d+2=(d+1)+1 from rfl,run_equalIn_struct W _ 111 _ _ (by kernel_rfl) (by kernel_rfl)]
  simp only[Program.fieldsOf,Tryz.underlying111]
  exact uX rfl (uT bG rfl) (uT bG rfl) (Ap Tryz.underlying3) (uX rfl (uT bG rfl) (uT bG rfl) (Ap Tryz.underlying3) (uX rfl (uT bG rfl) (uT bG rfl) (Ap Tryz.underlying3) (uX rfl (uT bG rfl) (uT bG rfl) (Ap Tryz.underlying3) (Jm))))
theorem O0{ρ:Operand→Value}{W:World}{dd:Option Tmp}{ty T':TypeId}{pos:String}{af:Array Edge}{g:Option (Nat×Bool)}{p q:Operand}(a b:au)(hp:ρ p= .agg #[(.int .i64 a.X0),(.int .i64 a.Y0),(.int .i64 a.X1),(.int .i64 a.Y1)])(hq:ρ q= .agg #[(.int .i64 b.X0),(.int .i64 b.Y0),(.int .i64 b.X1),(.int .i64 b.Y1)]):(execOp ρ ⟨dd,.binOp .eql 111 p q T',ty,pos,af,g⟩).run Tryz.prog W= .ok (.value (.bool (vS a b))) W:=
  FH (m:=9998+2) rfl (by kernel_rfl) (Jl a b 9998 W) hp hq
theorem FC{ρ:Operand→Value}{W:World}{dd:Option Tmp}{ty T':TypeId}{pos:String}{af:Array Edge}{g:Option (Nat×Bool)}{p q:Operand}(a b:au)(hp:ρ p= .agg #[(.int .i64 a.X0),(.int .i64 a.Y0),(.int .i64 a.X1),(.int .i64 a.Y1)])(hq:ρ q= .agg #[(.int .i64 b.X0),(.int .i64 b.Y0),(.int .i64 b.X1),(.int .i64 b.Y1)]):(execOp ρ ⟨dd,.binOp .neq 111 p q T',ty,pos,af,g⟩).run Tryz.prog W= .ok (.value (.bool (!vS a b))) W:=
  FD (m:=9998+2) rfl (by kernel_rfl) (Jl a b 9998 W) hp hq
end Go.Proofs.YtkccbhbhdnobhaaGreatDoor
