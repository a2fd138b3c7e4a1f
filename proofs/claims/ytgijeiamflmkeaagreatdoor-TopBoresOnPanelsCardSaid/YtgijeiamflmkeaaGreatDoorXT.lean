/- Types of the data, and closed facts of the program's table of types. -/
import Derived.Test.YtgijeiamflmkeaaGreatDoorProg
import Derived.Test.YtgijeiamflmkeaaGreatDoorJ2
import Derived.Test.YtgijeiamflmkeaaGreatDoorSH
namespace Go.Proofs.YtgijeiamflmkeaaGreatDoor
open Go.RowKit
set_option maxRecDepth 100000
structure dO where
  Name:ByteArray
  Kind:Int
  Group:Int
structure dG where
  Name:ByteArray
  Pins:(List dO)
structure oo where
  Name:ByteArray
  Type_:ByteArray
structure tL where
  Part:ByteArray
  Pin:ByteArray
structure K4 where
  Name:ByteArray
  Pins:(List tL)
  Ports:(List ByteArray)
structure pO where
  Parts:(List oo)
  Nets:(List K4)
structure zg where
  fault:Int
  where_:ByteArray
structure dK where
  Name:ByteArray
  Kind:Int
  Thick:Int
  Grow:Int
structure lV where
  Name:ByteArray
  Material:ByteArray
structure aO where
  X0:Int
  Y0:Int
  X1:Int
  Y1:Int
structure eH where
  Name:ByteArray
  Rects:(List aO)
structure aK where
  X:Int
  Y:Int
structure aZ where
  Kind:Int
  Name:ByteArray
  At:aK
  Points:(List aK)
  NX:Int
  NY:Int
  Steps:(List aZ)
structure eX where
  Unit:Int
  Tools:(List eH)
  Steps:(List aZ)
structure fq where
  At:aK
  Size:Int
  From:Int
  To:Int
  Plated:Bool
structure mW where
  Type_:ByteArray
  W:Int
  H:Int
  Tall:Int
  Nozzle:ByteArray
structure uk where
  Part:ByteArray
  Type_:ByteArray
  At:aK
  Quarters:Int
  Below:Bool
structure El where
  Pin:ByteArray
  At:aK
structure zD where
  Type_:ByteArray
  Spots:(List El)
structure iV where
  Name:ByteArray
  Nets:(List ByteArray)
  Clearance:Int
  Width:Int
structure rP where
  Layer:Int
  Region:(List aO)
  Clearance:Int
structure uj where
  Clearance:Int
  Width:Int
  Ring:Int
  Edge:Int
  HoleGap:Int
  Classes:(List iV)
  Areas:(List rP)
structure lU where
  Types:(List dG)
  List_:pO
  Materials:(List dK)
  Stack:(List lV)
  Plots:(List eX)
  Outline:eX
  Bores:(List fq)
  Bodies:(List mW)
  Places:(List uk)
  Feet:(List zD)
  Rules:uj
structure u6 where
  name:Bool
  at_:Bool
  points:Bool
  repeat_:Bool
structure bz where
  Y0:Int
  Y1:Int
  Xs:(List Int)
structure bW where
  Name:ByteArray
  W:Int
  H:Int
structure jH where
  Board:ByteArray
  Quarters:Int
  At:aK
structure dw where
  W:Int
  H:Int
  Rail:Int
  Gap:Int
  Kinds:(List bW)
  Slots:(List jH)
  Marks:(List aK)
structure di where
  p:eX
  tools:(List (List bz))
  image:(List bz)
  clear:Bool
  tool:Int
  place:aK
  placed:Bool
  off:Int
  on:Int
structure oM where
  Flip:Bool
  Quarters:Int
  At:aK
def jG:Fl dO:=Fl.flat 3 (fun x=>[(.string x.Name),(.int .i64 x.Kind),(.int .i64 x.Group)]) (fun _=>rfl) (fun _ u h=>by
  simp at h
  rcases h with rfl|rfl|rfl<;>rfl)
theorem rf:∀u x,jG.enc u x=[(.string x.Name),(.int .i64 x.Kind),(.int .i64 x.Group)]:=fun _ _=>rfl
theorem Lj:jG.IW:=fun _ _ _ _=>trivial
def iB:Fl dG where
  Ad:=(Option Addr×Nat)
  sz:=2
  enc u x:=[(.string x.Name),(.slice u.1 (x.Pins).length u.2)]
  ok S W u x:=Sl S W jG u.1 u.2 x.Pins
  len _ _:=rfl
  one _ _ v h:=by
    simp at h
    rcases h with rfl|rfl<;>rfl
  loc h hs hb:=h.go hs hb
def mH:Fl oo:=Fl.flat 2 (fun x=>[(.string x.Name),(.string x.Type_)]) (fun _=>rfl) (fun _ u h=>by
  simp at h
  rcases h with rfl|rfl<;>rfl)
theorem yo:∀u x,mH.enc u x=[(.string x.Name),(.string x.Type_)]:=fun _ _=>rfl
theorem QL:mH.IW:=fun _ _ _ _=>trivial
def ug:Fl ByteArray:=Fl.flat 1 (fun x=>[(.string x)]) (fun _=>rfl) (fun _ u h=>by
  simp at h
  subst h;rfl)
theorem Cv:∀u x,ug.enc u x=[(.string x)]:=fun _ _=>rfl
theorem Nu:ug.IW:=fun _ _ _ _=>trivial
def y9:Fl tL:=Fl.flat 2 (fun x=>[(.string x.Part),(.string x.Pin)]) (fun _=>rfl) (fun _ u h=>by
  simp at h
  rcases h with rfl|rfl<;>rfl)
theorem Gl:∀u x,y9.enc u x=[(.string x.Part),(.string x.Pin)]:=fun _ _=>rfl
theorem TQ:y9.IW:=fun _ _ _ _=>trivial
def rH:Fl K4 where
  Ad:=(Option Addr×Nat)×(Option Addr×Nat)
  sz:=3
  enc u x:=[(.string x.Name),(.slice u.1.1 (x.Pins).length u.1.2),(.slice u.2.1 (x.Ports).length u.2.2)]
  ok S W u x:=Sl S W y9 u.1.1 u.1.2 x.Pins∧Sl S W ug u.2.1 u.2.2 x.Ports
  len _ _:=rfl
  one _ _ v h:=by
    simp at h
    rcases h with rfl|rfl|rfl<;>rfl
  loc h hs hb:=⟨h.1.go hs hb,h.2.go hs hb⟩
def iZ:Fl dK:=Fl.flat 4 (fun x=>[(.string x.Name),(.int .i64 x.Kind),(.int .i64 x.Thick),(.int .i64 x.Grow)]) (fun _=>rfl) (fun _ u h=>by
  simp at h
  rcases h with rfl|rfl|rfl|rfl<;>rfl)
theorem rJ:∀u x,iZ.enc u x=[(.string x.Name),(.int .i64 x.Kind),(.int .i64 x.Thick),(.int .i64 x.Grow)]:=fun _ _=>rfl
theorem Kk:iZ.IW:=fun _ _ _ _=>trivial
def ou:Fl lV:=Fl.flat 2 (fun x=>[(.string x.Name),(.string x.Material)]) (fun _=>rfl) (fun _ u h=>by
  simp at h
  rcases h with rfl|rfl<;>rfl)
theorem vX:∀u x,ou.enc u x=[(.string x.Name),(.string x.Material)]:=fun _ _=>rfl
theorem PQ:ou.IW:=fun _ _ _ _=>trivial
def cK:Fl Int:=Fl.flat 1 (fun x=>[(.int .i64 x)]) (fun _=>rfl) (fun _ u h=>by
  simp at h
  subst h;rfl)
theorem lT:∀u x,cK.enc u x=[(.int .i64 x)]:=fun _ _=>rfl
theorem Gu:cK.IW:=fun _ _ _ _=>trivial
def bf:Fl aO:=Fl.flat 4 (fun x=>[(.int .i64 x.X0),(.int .i64 x.Y0),(.int .i64 x.X1),(.int .i64 x.Y1)]) (fun _=>rfl) (fun _ u h=>by
  simp at h
  rcases h with rfl|rfl|rfl|rfl<;>rfl)
theorem kQ:∀u x,bf.enc u x=[(.int .i64 x.X0),(.int .i64 x.Y0),(.int .i64 x.X1),(.int .i64 x.Y1)]:=fun _ _=>rfl
theorem jA:bf.IW:=fun _ _ _ _=>trivial
def cB:Fl eH where
  Ad:=(Option Addr×Nat)
  sz:=2
  enc u x:=[(.string x.Name),(.slice u.1 (x.Rects).length u.2)]
  ok S W u x:=Sl S W bf u.1 u.2 x.Rects
  len _ _:=rfl
  one _ _ v h:=by
    simp at h
    rcases h with rfl|rfl<;>rfl
  loc h hs hb:=h.go hs hb
def dP:Fl aK:=Fl.flat 2 (fun x=>[(.int .i64 x.X),(.int .i64 x.Y)]) (fun _=>rfl) (fun _ u h=>by
  simp at h
  rcases h with rfl|rfl<;>rfl)
theorem qK:∀u x,dP.enc u x=[(.int .i64 x.X),(.int .i64 x.Y)]:=fun _ _=>rfl
theorem Jo:dP.IW:=fun _ _ _ _=>trivial
def BZ:Xa aZ where
  Ad:=(Option Addr×Nat)×(Option Addr×Nat)
  sz:=8
  enc u x:=[(.int .i64 x.Kind),(.string x.Name),(.int .i64 x.At.X),(.int .i64 x.At.Y),(.slice u.1.1 (x.Points).length u.1.2),(.int .i64 x.NX),(.int .i64 x.NY),(.slice u.2.1 (x.Steps).length u.2.2)]
  okb S W u x:=Sl S W dP u.1.1 u.1.2 x.Points
  ua u:=u.2
  sub x:=x.Steps
  len _ _:=rfl
  one _ _ v h:=by
    simp at h
    rcases h with rfl|rfl|rfl|rfl|rfl|rfl|rfl|rfl<;>rfl
  loc h hs hb:=h.go hs hb
def bH:Fl aZ:=BZ.fix
theorem vP{S:Nat→Prop}{W:World}{u:(Option Addr×Nat)×(Option Addr×Nat)}{x:aZ}:bH.ok S W u x↔Sl S W dP u.1.1 u.1.2 x.Points∧Sl S W bH u.2.1 u.2.2 x.Steps:=
  Xa.Wx BZ
def sF:Fl eX where
  Ad:=(Option Addr×Nat)×(Option Addr×Nat)
  sz:=3
  enc u x:=[(.int .i64 x.Unit),(.slice u.1.1 (x.Tools).length u.1.2),(.slice u.2.1 (x.Steps).length u.2.2)]
  ok S W u x:=Sl S W cB u.1.1 u.1.2 x.Tools∧Sl S W bH u.2.1 u.2.2 x.Steps
  len _ _:=rfl
  one _ _ v h:=by
    simp at h
    rcases h with rfl|rfl|rfl<;>rfl
  loc h hs hb:=⟨h.1.go hs hb,h.2.go hs hb⟩
def eZ:Fl fq:=Fl.flat 6 (fun x=>[(.int .i64 x.At.X),(.int .i64 x.At.Y),(.int .i64 x.Size),(.int .i64 x.From),(.int .i64 x.To),(.bool x.Plated)]) (fun _=>rfl) (fun _ u h=>by
  simp at h
  rcases h with rfl|rfl|rfl|rfl|rfl|rfl<;>rfl)
theorem uh:∀u x,eZ.enc u x=[(.int .i64 x.At.X),(.int .i64 x.At.Y),(.int .i64 x.Size),(.int .i64 x.From),(.int .i64 x.To),(.bool x.Plated)]:=fun _ _=>rfl
theorem vg:eZ.IW:=fun _ _ _ _=>trivial
def oL:Fl mW:=Fl.flat 5 (fun x=>[(.string x.Type_),(.int .i64 x.W),(.int .i64 x.H),(.int .i64 x.Tall),(.string x.Nozzle)]) (fun _=>rfl) (fun _ u h=>by
  simp at h
  rcases h with rfl|rfl|rfl|rfl|rfl<;>rfl)
theorem yt:∀u x,oL.enc u x=[(.string x.Type_),(.int .i64 x.W),(.int .i64 x.H),(.int .i64 x.Tall),(.string x.Nozzle)]:=fun _ _=>rfl
theorem QM:oL.IW:=fun _ _ _ _=>trivial
def pK:Fl uk:=Fl.flat 6 (fun x=>[(.string x.Part),(.string x.Type_),(.int .i64 x.At.X),(.int .i64 x.At.Y),(.int .i64 x.Quarters),(.bool x.Below)]) (fun _=>rfl) (fun _ u h=>by
  simp at h
  rcases h with rfl|rfl|rfl|rfl|rfl|rfl<;>rfl)
theorem E8:∀u x,pK.enc u x=[(.string x.Part),(.string x.Type_),(.int .i64 x.At.X),(.int .i64 x.At.Y),(.int .i64 x.Quarters),(.bool x.Below)]:=fun _ _=>rfl
theorem PP:pK.IW:=fun _ _ _ _=>trivial
def yl:Fl El:=Fl.flat 3 (fun x=>[(.string x.Pin),(.int .i64 x.At.X),(.int .i64 x.At.Y)]) (fun _=>rfl) (fun _ u h=>by
  simp at h
  rcases h with rfl|rfl|rfl<;>rfl)
theorem Ie:∀u x,yl.enc u x=[(.string x.Pin),(.int .i64 x.At.X),(.int .i64 x.At.Y)]:=fun _ _=>rfl
theorem QJ:yl.IW:=fun _ _ _ _=>trivial
def sG:Fl zD where
  Ad:=(Option Addr×Nat)
  sz:=2
  enc u x:=[(.string x.Type_),(.slice u.1 (x.Spots).length u.2)]
  ok S W u x:=Sl S W yl u.1 u.2 x.Spots
  len _ _:=rfl
  one _ _ v h:=by
    simp at h
    rcases h with rfl|rfl<;>rfl
  loc h hs hb:=h.go hs hb
def jX:Fl iV where
  Ad:=(Option Addr×Nat)
  sz:=4
  enc u x:=[(.string x.Name),(.slice u.1 (x.Nets).length u.2),(.int .i64 x.Clearance),(.int .i64 x.Width)]
  ok S W u x:=Sl S W ug u.1 u.2 x.Nets
  len _ _:=rfl
  one _ _ v h:=by
    simp at h
    rcases h with rfl|rfl|rfl|rfl<;>rfl
  loc h hs hb:=h.go hs hb
def kV:Fl rP where
  Ad:=(Option Addr×Nat)
  sz:=3
  enc u x:=[(.int .i64 x.Layer),(.slice u.1 (x.Region).length u.2),(.int .i64 x.Clearance)]
  ok S W u x:=Sl S W bf u.1 u.2 x.Region
  len _ _:=rfl
  one _ _ v h:=by
    simp at h
    rcases h with rfl|rfl|rfl<;>rfl
  loc h hs hb:=h.go hs hb
def aW:Fl bz where
  Ad:=(Option Addr×Nat)
  sz:=3
  enc u x:=[(.int .i64 x.Y0),(.int .i64 x.Y1),(.slice u.1 (x.Xs).length u.2)]
  ok S W u x:=Sl S W cK u.1 u.2 x.Xs
  len _ _:=rfl
  one _ _ v h:=by
    simp at h
    rcases h with rfl|rfl|rfl<;>rfl
  loc h hs hb:=h.go hs hb
def fe:Fl bW:=Fl.flat 3 (fun x=>[(.string x.Name),(.int .i64 x.W),(.int .i64 x.H)]) (fun _=>rfl) (fun _ u h=>by
  simp at h
  rcases h with rfl|rfl|rfl<;>rfl)
theorem o6:∀u x,fe.enc u x=[(.string x.Name),(.int .i64 x.W),(.int .i64 x.H)]:=fun _ _=>rfl
theorem IY:fe.IW:=fun _ _ _ _=>trivial
def lG:Fl jH:=Fl.flat 4 (fun x=>[(.string x.Board),(.int .i64 x.Quarters),(.int .i64 x.At.X),(.int .i64 x.At.Y)]) (fun _=>rfl) (fun _ u h=>by
  simp at h
  rcases h with rfl|rfl|rfl|rfl<;>rfl)
theorem yn:∀u x,lG.enc u x=[(.string x.Board),(.int .i64 x.Quarters),(.int .i64 x.At.X),(.int .i64 x.At.Y)]:=fun _ _=>rfl
theorem QK:lG.IW:=fun _ _ _ _=>trivial
def fV:Fl (List bz) where
  Ad:=(Option Addr×Nat)
  sz:=1
  enc u x:=[(.slice u.1 (x).length u.2)]
  ok S W u x:=Sl S W aW u.1 u.2 x
  len _ _:=rfl
  one _ _ v h:=by
    simp at h
    subst h;rfl
  loc h hs hb:=h.go hs hb
def H9:Fl (List aK) where
  Ad:=(Option Addr×Nat)
  sz:=1
  enc u x:=[(.slice u.1 (x).length u.2)]
  ok S W u x:=Sl S W dP u.1 u.2 x
  len _ _:=rfl
  one _ _ v h:=by
    simp at h
    subst h;rfl
  loc h hs hb:=h.go hs hb
theorem Oh:gG Tryz.prog 106=some false:=by kernel_rfl
theorem o7:gG Tryz.prog 113=some false:=by kernel_rfl
theorem K3:gG Tryz.prog 121=some true:=by kernel_rfl
theorem Tk:gG Tryz.prog 135=some false:=by kernel_rfl
theorem IC:gG Tryz.prog 136=some false:=by kernel_rfl
theorem WT:gG Tryz.prog 138=some true:=by kernel_rfl
theorem AL:gG Tryz.prog 141=some true:=by kernel_rfl
theorem Fj:gG Tryz.prog 147=some true:=by kernel_rfl
theorem Fh:gG Tryz.prog 149=some true:=by kernel_rfl
theorem KZ:gG Tryz.prog 155=some true:=by kernel_rfl
theorem WS:gG Tryz.prog 161=some true:=by kernel_rfl
theorem Fg:gG Tryz.prog 163=some true:=by kernel_rfl
theorem Og:gG Tryz.prog 167=some false:=by kernel_rfl
theorem WR:gG Tryz.prog 169=some true:=by kernel_rfl
theorem WQ:gG Tryz.prog 172=some true:=by kernel_rfl
theorem Tj:gG Tryz.prog 174=some false:=by kernel_rfl
theorem IB:gG Tryz.prog 176=some true:=by kernel_rfl
theorem WP:gG Tryz.prog 181=some true:=by kernel_rfl
theorem Oe:gG Tryz.prog 202=some true:=by kernel_rfl
theorem Ff:gG Tryz.prog 214=some true:=by kernel_rfl
theorem J4:gG Tryz.prog 22=some false:=by kernel_rfl
theorem IA:gG Tryz.prog 223=some true:=by kernel_rfl
theorem WO:gG Tryz.prog 227=some true:=by kernel_rfl
theorem VK:gG Tryz.prog 23=some false:=by kernel_rfl
theorem Ti:gG Tryz.prog 24=some false:=by kernel_rfl
theorem Iz:gG Tryz.prog 258=some true:=by kernel_rfl
theorem X5:gG Tryz.prog 26=some true:=by kernel_rfl
theorem X4:gG Tryz.prog 27=some false:=by kernel_rfl
theorem VJ:gG Tryz.prog 28=some false:=by kernel_rfl
theorem VI:gG Tryz.prog 29=some false:=by kernel_rfl
theorem bF:gG Tryz.prog 3=some false:=by kernel_rfl
theorem MW:gG Tryz.prog 30=some false:=by kernel_rfl
theorem Eg:gG Tryz.prog 31=some false:=by kernel_rfl
theorem yw:gG Tryz.prog 33=some true:=by kernel_rfl
theorem MV:gG Tryz.prog 34=some false:=by kernel_rfl
theorem X3:gG Tryz.prog 35=some false:=by kernel_rfl
theorem XZ:gG Tryz.prog 36=some false:=by kernel_rfl
theorem Tg:gG Tryz.prog 37=some false:=by kernel_rfl
theorem XY:gG Tryz.prog 38=some false:=by kernel_rfl
theorem VH:gG Tryz.prog 39=some false:=by kernel_rfl
theorem BG:gG Tryz.prog 4=some false:=by kernel_rfl
theorem XX:gG Tryz.prog 41=some true:=by kernel_rfl
theorem PE:gG Tryz.prog 43=some true:=by kernel_rfl
theorem MU:gG Tryz.prog 44=some false:=by kernel_rfl
theorem Iy:gG Tryz.prog 45=some false:=by kernel_rfl
theorem Ef:gG Tryz.prog 46=some false:=by kernel_rfl
theorem uJ:gG Tryz.prog 48=some true:=by kernel_rfl
theorem VG:gG Tryz.prog 49=some false:=by kernel_rfl
theorem iC:gG Tryz.prog 54=some true:=by kernel_rfl
theorem J3:gG Tryz.prog 56=some true:=by kernel_rfl
theorem PD:gG Tryz.prog 58=some true:=by kernel_rfl
theorem zC:gG Tryz.prog 63=some true:=by kernel_rfl
theorem FW:gG Tryz.prog 67=some true:=by kernel_rfl
theorem Iw:gG Tryz.prog 71=some false:=by kernel_rfl
theorem o9:gG Tryz.prog 77=some true:=by kernel_rfl
theorem J2:gG Tryz.prog 78=some false:=by kernel_rfl
theorem AJ:gG Tryz.prog 83=some true:=by kernel_rfl
theorem jD:gG Tryz.prog 9=some false:=by kernel_rfl
theorem V6:lZ Tryz.prog 106=some 1:=by kernel_rfl
theorem QV:lZ Tryz.prog 113=some 1:=by kernel_rfl
theorem zV:lZ Tryz.prog 121=some 3:=by kernel_rfl
theorem QU:lZ Tryz.prog 138=some 3:=by kernel_rfl
theorem xE:lZ Tryz.prog 141=some 2:=by kernel_rfl
theorem yP:lZ Tryz.prog 147=some 2:=by kernel_rfl
theorem wh:lZ Tryz.prog 149=some 4:=by kernel_rfl
theorem EH:lZ Tryz.prog 155=some 2:=by kernel_rfl
theorem QT:lZ Tryz.prog 161=some 6:=by kernel_rfl
theorem xD:lZ Tryz.prog 163=some 5:=by kernel_rfl
theorem QS:lZ Tryz.prog 169=some 2:=by kernel_rfl
theorem QR:lZ Tryz.prog 172=some 3:=by kernel_rfl
theorem EG:lZ Tryz.prog 176=some 2:=by kernel_rfl
theorem QQ:lZ Tryz.prog 181=some 3:=by kernel_rfl
theorem Kl:lZ Tryz.prog 202=some 2:=by kernel_rfl
theorem yO:lZ Tryz.prog 214=some 8:=by kernel_rfl
theorem Cj:lZ Tryz.prog 223=some 3:=by kernel_rfl
theorem QP:lZ Tryz.prog 227=some 4:=by kernel_rfl
theorem vZ:lZ Tryz.prog 258=some 4:=by kernel_rfl
theorem Xl:lZ Tryz.prog 26=some 2:=by kernel_rfl
theorem vM:lZ Tryz.prog 3=some 1:=by kernel_rfl
theorem wZ:lZ Tryz.prog 33=some 3:=by kernel_rfl
theorem V5:lZ Tryz.prog 4=some 1:=by kernel_rfl
theorem Xk:lZ Tryz.prog 41=some 7:=by kernel_rfl
theorem Ox:lZ Tryz.prog 43=some 20:=by kernel_rfl
theorem uI:lZ Tryz.prog 48=some 7:=by kernel_rfl
theorem eU:lZ Tryz.prog 54=some 2:=by kernel_rfl
theorem C8:lZ Tryz.prog 56=some 4:=by kernel_rfl
theorem Gw:lZ Tryz.prog 58=some 6:=by kernel_rfl
theorem qU:lZ Tryz.prog 63=some 2:=by kernel_rfl
theorem wY:lZ Tryz.prog 67=some 3:=by kernel_rfl
theorem QO:lZ Tryz.prog 71=some 1:=by kernel_rfl
theorem jy:lZ Tryz.prog 77=some 4:=by kernel_rfl
theorem tq:lZ Tryz.prog 83=some 4:=by kernel_rfl
theorem VY:zeroOf Tryz.prog 113=some [(.slice none 0 0)]:=by kernel_rfl
theorem Nq:zeroOf Tryz.prog 121=some [(.int .i64 0),(.int .i64 0),(.slice none 0 0)]:=by kernel_rfl
theorem VX:zeroOf Tryz.prog 138=some [(.string ⟨#[]⟩),(.slice none 0 0),(.slice none 0 0)]:=by kernel_rfl
theorem Qz:zeroOf Tryz.prog 141=some [(.string ⟨#[]⟩),(.string ⟨#[]⟩)]:=by kernel_rfl
theorem Np:zeroOf Tryz.prog 147=some [(.string ⟨#[]⟩),(.string ⟨#[]⟩)]:=by kernel_rfl
theorem Ka:zeroOf Tryz.prog 149=some [(.string ⟨#[]⟩),(.int .i64 0),(.int .i64 0),(.int .i64 0)]:=by kernel_rfl
theorem Qy:zeroOf Tryz.prog 155=some [(.string ⟨#[]⟩),(.slice none 0 0)]:=by kernel_rfl
theorem VW:zeroOf Tryz.prog 161=some [(.string ⟨#[]⟩),(.string ⟨#[]⟩),(.int .i64 0),(.int .i64 0),(.int .i64 0),(.bool false)]:=by kernel_rfl
theorem Nn:zeroOf Tryz.prog 163=some [(.string ⟨#[]⟩),(.int .i64 0),(.int .i64 0),(.int .i64 0),(.string ⟨#[]⟩)]:=by kernel_rfl
theorem VV:zeroOf Tryz.prog 169=some [(.string ⟨#[]⟩),(.slice none 0 0)]:=by kernel_rfl
theorem VU:zeroOf Tryz.prog 172=some [(.string ⟨#[]⟩),(.int .i64 0),(.int .i64 0)]:=by kernel_rfl
theorem VS:zeroOf Tryz.prog 176=some [(.string ⟨#[]⟩),(.slice none 0 0)]:=by kernel_rfl
theorem VR:zeroOf Tryz.prog 181=some [(.int .i64 0),(.slice none 0 0),(.int .i64 0)]:=by kernel_rfl
theorem VQ:zeroOf Tryz.prog 202=some [(.string ⟨#[]⟩),(.string ⟨#[]⟩)]:=by kernel_rfl
theorem Nl:zeroOf Tryz.prog 214=some [(.int .i64 0),(.string ⟨#[]⟩),(.int .i64 0),(.int .i64 0),(.slice none 0 0),(.int .i64 0),(.int .i64 0),(.slice none 0 0)]:=by kernel_rfl
theorem Qx:zeroOf Tryz.prog 223=some [(.string ⟨#[]⟩),(.int .i64 0),(.int .i64 0)]:=by kernel_rfl
theorem VP:zeroOf Tryz.prog 227=some [(.string ⟨#[]⟩),(.slice none 0 0),(.int .i64 0),(.int .i64 0)]:=by kernel_rfl
theorem Qw:zeroOf Tryz.prog 258=some [(.bool false),(.bool false),(.bool false),(.bool false)]:=by kernel_rfl
theorem Xf:zeroOf Tryz.prog 3=some [(.int .i64 0)]:=by kernel_rfl
theorem Xe:zeroOf Tryz.prog 33=some [(.int .i64 0),(.slice none 0 0),(.slice none 0 0)]:=by kernel_rfl
theorem vY:zeroOf Tryz.prog 54=some [(.int .i64 0),(.int .i64 0)]:=by kernel_rfl
theorem Qv:zeroOf Tryz.prog 56=some [(.string ⟨#[]⟩),(.int .i64 0),(.int .i64 0),(.int .i64 0)]:=by kernel_rfl
theorem Vg:zeroOf Tryz.prog 58=some [(.int .i64 0),(.int .i64 0),(.int .i64 0),(.int .i64 0),(.int .i64 0),(.bool false)]:=by kernel_rfl
theorem Qu:zeroOf Tryz.prog 63=some [(.int .i64 0),(.string ⟨#[]⟩)]:=by kernel_rfl
theorem Lb:zeroOf Tryz.prog 67=some [(.string ⟨#[]⟩),(.int .i64 0),(.int .i64 0)]:=by kernel_rfl
theorem tQ:zeroOf Tryz.prog 77=some [(.int .i64 0),(.int .i64 0),(.int .i64 0),(.int .i64 0)]:=by kernel_rfl
theorem Jl:zeroOf Tryz.prog 83=some [(.bool false),(.int .i64 0),(.int .i64 0),(.int .i64 0)]:=by kernel_rfl
theorem VN:(zeroOf Tryz.prog 121).map List.length=some 3:=by kernel_rfl
theorem PL:(zeroOf Tryz.prog 3).map List.length=some 1:=by kernel_rfl
theorem Xd:(zeroOf Tryz.prog 54).map List.length=some 2:=by kernel_rfl
theorem Xc:(zeroOf Tryz.prog 58).map List.length=some 6:=by kernel_rfl
theorem Xb:(zeroOf Tryz.prog 71).map List.length=some 1:=by kernel_rfl
theorem Jk:(zeroOf Tryz.prog 77).map List.length=some 4:=by kernel_rfl
theorem WI:(Tryz.prog.info? 121).map (·.bytes)=some 40:=by kernel_rfl
theorem Qi:(Tryz.prog.info? 3).map (·.bytes)=some 8:=by kernel_rfl
theorem XV:(Tryz.prog.info? 54).map (·.bytes)=some 16:=by kernel_rfl
theorem XU:(Tryz.prog.info? 58).map (·.bytes)=some 48:=by kernel_rfl
theorem XT:(Tryz.prog.info? 71).map (·.bytes)=some 24:=by kernel_rfl
theorem JX:(Tryz.prog.info? 77).map (·.bytes)=some 32:=by kernel_rfl
theorem Ap:bI Tryz.prog 108 0=some 0:=by kernel_rfl
theorem D6:bI Tryz.prog 108 1=some 3:=by kernel_rfl
theorem yj:bI Tryz.prog 108 2=some 4:=by kernel_rfl
theorem Mo:bI Tryz.prog 108 3=some 5:=by kernel_rfl
theorem Ao:bI Tryz.prog 108 4=some 6:=by kernel_rfl
theorem wF:bI Tryz.prog 108 5=some 7:=by kernel_rfl
theorem Am:bI Tryz.prog 108 6=some 9:=by kernel_rfl
theorem Mm:bI Tryz.prog 108 7=some 10:=by kernel_rfl
theorem Su:bI Tryz.prog 108 8=some 11:=by kernel_rfl
theorem vw:bI Tryz.prog 121 0=some 0:=by kernel_rfl
theorem q9:bI Tryz.prog 121 1=some 1:=by kernel_rfl
theorem pJ:bI Tryz.prog 121 2=some 2:=by kernel_rfl
theorem H8:bI Tryz.prog 138 0=some 0:=by kernel_rfl
theorem Ml:bI Tryz.prog 138 1=some 1:=by kernel_rfl
theorem Sr:bI Tryz.prog 138 2=some 2:=by kernel_rfl
theorem H7:bI Tryz.prog 141 0=some 0:=by kernel_rfl
theorem H6:bI Tryz.prog 141 1=some 1:=by kernel_rfl
theorem Ak:bI Tryz.prog 147 0=some 0:=by kernel_rfl
theorem Mk:bI Tryz.prog 147 1=some 1:=by kernel_rfl
theorem D5:bI Tryz.prog 149 0=some 0:=by kernel_rfl
theorem Aj:bI Tryz.prog 149 1=some 1:=by kernel_rfl
theorem Sq:bI Tryz.prog 149 2=some 2:=by kernel_rfl
theorem Sn:bI Tryz.prog 149 3=some 3:=by kernel_rfl
theorem DZ:bI Tryz.prog 155 0=some 0:=by kernel_rfl
theorem DY:bI Tryz.prog 155 1=some 1:=by kernel_rfl
theorem H5:bI Tryz.prog 161 0=some 0:=by kernel_rfl
theorem Sm:bI Tryz.prog 161 1=some 1:=by kernel_rfl
theorem Sk:bI Tryz.prog 161 2=some 2:=by kernel_rfl
theorem Sj:bI Tryz.prog 161 3=some 4:=by kernel_rfl
theorem DX:bI Tryz.prog 163 0=some 0:=by kernel_rfl
theorem Si:bI Tryz.prog 163 1=some 1:=by kernel_rfl
theorem Sg:bI Tryz.prog 163 2=some 2:=by kernel_rfl
theorem Sd:bI Tryz.prog 163 3=some 3:=by kernel_rfl
theorem Sc:bI Tryz.prog 163 4=some 4:=by kernel_rfl
theorem HZ:bI Tryz.prog 169 0=some 0:=by kernel_rfl
theorem HY:bI Tryz.prog 169 1=some 1:=by kernel_rfl
theorem HV:bI Tryz.prog 172 0=some 0:=by kernel_rfl
theorem Mj:bI Tryz.prog 172 1=some 1:=by kernel_rfl
theorem DW:bI Tryz.prog 176 0=some 0:=by kernel_rfl
theorem Mi:bI Tryz.prog 176 1=some 1:=by kernel_rfl
theorem Sb:bI Tryz.prog 181 0=some 0:=by kernel_rfl
theorem Mh:bI Tryz.prog 181 1=some 1:=by kernel_rfl
theorem Sa:bI Tryz.prog 181 2=some 2:=by kernel_rfl
theorem DV:bI Tryz.prog 202 0=some 0:=by kernel_rfl
theorem Mg:bI Tryz.prog 202 1=some 1:=by kernel_rfl
theorem DU:bI Tryz.prog 214 0=some 0:=by kernel_rfl
theorem Hz:bI Tryz.prog 214 1=some 1:=by kernel_rfl
theorem Ai:bI Tryz.prog 214 2=some 2:=by kernel_rfl
theorem Ah:bI Tryz.prog 214 3=some 4:=by kernel_rfl
theorem DT:bI Tryz.prog 214 4=some 5:=by kernel_rfl
theorem DR:bI Tryz.prog 214 5=some 6:=by kernel_rfl
theorem yh:bI Tryz.prog 214 6=some 7:=by kernel_rfl
theorem DN:bI Tryz.prog 223 0=some 0:=by kernel_rfl
theorem DL:bI Tryz.prog 223 1=some 1:=by kernel_rfl
theorem Ag:bI Tryz.prog 223 2=some 2:=by kernel_rfl
theorem Hy:bI Tryz.prog 227 0=some 0:=by kernel_rfl
theorem DK:bI Tryz.prog 227 1=some 1:=by kernel_rfl
theorem R8:bI Tryz.prog 227 2=some 2:=by kernel_rfl
theorem R7:bI Tryz.prog 227 3=some 3:=by kernel_rfl
theorem Mf:bI Tryz.prog 258 0=some 0:=by kernel_rfl
theorem R6:bI Tryz.prog 258 1=some 1:=by kernel_rfl
theorem Me:bI Tryz.prog 258 2=some 2:=by kernel_rfl
theorem Md:bI Tryz.prog 258 3=some 3:=by kernel_rfl
theorem Pe:bI Tryz.prog 26 0=some 0:=by kernel_rfl
theorem KN:bI Tryz.prog 26 1=some 1:=by kernel_rfl
theorem sN:bI Tryz.prog 33 0=some 0:=by kernel_rfl
theorem DJ:bI Tryz.prog 33 1=some 1:=by kernel_rfl
theorem KM:bI Tryz.prog 33 2=some 2:=by kernel_rfl
theorem Uy:bI Tryz.prog 41 0=some 0:=by kernel_rfl
theorem Ux:bI Tryz.prog 41 1=some 1:=by kernel_rfl
theorem Uw:bI Tryz.prog 41 2=some 2:=by kernel_rfl
theorem Uv:bI Tryz.prog 41 3=some 3:=by kernel_rfl
theorem Uu:bI Tryz.prog 41 4=some 4:=by kernel_rfl
theorem Ut:bI Tryz.prog 41 5=some 5:=by kernel_rfl
theorem Pd:bI Tryz.prog 41 6=some 6:=by kernel_rfl
theorem KL:bI Tryz.prog 43 0=some 0:=by kernel_rfl
theorem Us:bI Tryz.prog 43 1=some 1:=by kernel_rfl
theorem R5:bI Tryz.prog 43 10=some 13:=by kernel_rfl
theorem Ur:bI Tryz.prog 43 2=some 3:=by kernel_rfl
theorem Pb:bI Tryz.prog 43 3=some 4:=by kernel_rfl
theorem O9:bI Tryz.prog 43 4=some 5:=by kernel_rfl
theorem O8:bI Tryz.prog 43 5=some 6:=by kernel_rfl
theorem DI:bI Tryz.prog 43 6=some 9:=by kernel_rfl
theorem Uq:bI Tryz.prog 43 7=some 10:=by kernel_rfl
theorem Uo:bI Tryz.prog 43 8=some 11:=by kernel_rfl
theorem KJ:bI Tryz.prog 43 9=some 12:=by kernel_rfl
theorem DF:bI Tryz.prog 48 0=some 0:=by kernel_rfl
theorem DD:bI Tryz.prog 48 1=some 1:=by kernel_rfl
theorem DC:bI Tryz.prog 48 2=some 2:=by kernel_rfl
theorem O7:bI Tryz.prog 48 3=some 3:=by kernel_rfl
theorem Dz:bI Tryz.prog 48 4=some 4:=by kernel_rfl
theorem y8:bI Tryz.prog 48 5=some 5:=by kernel_rfl
theorem KI:bI Tryz.prog 48 6=some 6:=by kernel_rfl
theorem fU:bI Tryz.prog 54 0=some 0:=by kernel_rfl
theorem fT:bI Tryz.prog 54 1=some 1:=by kernel_rfl
theorem Dy:bI Tryz.prog 56 0=some 0:=by kernel_rfl
theorem Gj:bI Tryz.prog 56 1=some 1:=by kernel_rfl
theorem y7:bI Tryz.prog 56 2=some 2:=by kernel_rfl
theorem Bz:bI Tryz.prog 58 0=some 0:=by kernel_rfl
theorem O6:bI Tryz.prog 58 1=some 2:=by kernel_rfl
theorem O5:bI Tryz.prog 58 2=some 3:=by kernel_rfl
theorem O4:bI Tryz.prog 58 3=some 4:=by kernel_rfl
theorem O3:bI Tryz.prog 58 4=some 5:=by kernel_rfl
theorem O1:bI Tryz.prog 63 0=some 0:=by kernel_rfl
theorem Un:bI Tryz.prog 63 1=some 1:=by kernel_rfl
theorem Dx:bI Tryz.prog 67 0=some 0:=by kernel_rfl
theorem y5:bI Tryz.prog 67 1=some 1:=by kernel_rfl
theorem yZ:bI Tryz.prog 67 2=some 2:=by kernel_rfl
theorem kU:bI Tryz.prog 77 0=some 0:=by kernel_rfl
theorem lW:bI Tryz.prog 77 1=some 1:=by kernel_rfl
theorem pu:bI Tryz.prog 77 2=some 2:=by kernel_rfl
theorem qw:bI Tryz.prog 77 3=some 3:=by kernel_rfl
theorem KH:bI Tryz.prog 83 0=some 0:=by kernel_rfl
theorem Dw:bI Tryz.prog 83 1=some 1:=by kernel_rfl
theorem Dv:bI Tryz.prog 83 2=some 2:=by kernel_rfl
theorem NZ:elemOf? Tryz.prog 106=some (71,1):=by kernel_rfl
theorem lF:elemOf? Tryz.prog 113=some (3,1):=by kernel_rfl
theorem NW:elemOf? Tryz.prog 135=some (141,2):=by kernel_rfl
theorem KO:elemOf? Tryz.prog 136=some (9,1):=by kernel_rfl
theorem SB:elemOf? Tryz.prog 167=some (172,3):=by kernel_rfl
theorem Cu:elemOf? Tryz.prog 174=some (223,3):=by kernel_rfl
theorem JS:elemOf? Tryz.prog 22=some (176,2):=by kernel_rfl
theorem ME:elemOf? Tryz.prog 23=some (202,2):=by kernel_rfl
theorem VD:elemOf? Tryz.prog 24=some (138,3):=by kernel_rfl
theorem MC:elemOf? Tryz.prog 27=some (149,4):=by kernel_rfl
theorem MB:elemOf? Tryz.prog 28=some (147,2):=by kernel_rfl
theorem XQ:elemOf? Tryz.prog 29=some (33,3):=by kernel_rfl
theorem Po:elemOf? Tryz.prog 30=some (155,2):=by kernel_rfl
theorem Wy:elemOf? Tryz.prog 301=some (46,1):=by kernel_rfl
theorem SA:elemOf? Tryz.prog 31=some (214,8):=by kernel_rfl
theorem FO:elemOf? Tryz.prog 34=some (58,6):=by kernel_rfl
theorem Mx:elemOf? Tryz.prog 35=some (163,5):=by kernel_rfl
theorem VC:elemOf? Tryz.prog 36=some (161,6):=by kernel_rfl
theorem VB:elemOf? Tryz.prog 37=some (169,2):=by kernel_rfl
theorem VA:elemOf? Tryz.prog 38=some (227,4):=by kernel_rfl
theorem XP:elemOf? Tryz.prog 39=some (181,3):=by kernel_rfl
theorem JR:elemOf? Tryz.prog 44=some (67,3):=by kernel_rfl
theorem Mw:elemOf? Tryz.prog 45=some (56,4):=by kernel_rfl
theorem D9:elemOf? Tryz.prog 46=some (54,2):=by kernel_rfl
theorem rY:elemOf? Tryz.prog 71=some (121,3):=by kernel_rfl
theorem sH:elemOf? Tryz.prog 78=some (77,4):=by kernel_rfl
theorem RU:Qm Tryz.prog 141 E5 La:=Yq (IT:=9) (by kernel_rfl) (of_decide_eq_true (by kernel_rfl)) ⟨325,by kernel_rfl⟩ (of_decide_eq_true (by kernel_rfl)) (by kernel_rfl) ⟨_,Tryz.underlying141,by kernel_rfl⟩ (by kernel_rfl) (by kernel_rfl) Tryz.underlying9
theorem VO:(Tryz.prog.info? 4).bind (·.zero)=some (.bool false):=by kernel_rfl
theorem QI:Tryz.prog.underlying 106=some (.slice 71):=by kernel_rfl
theorem ni:Tryz.prog.underlying 113=some (.slice 3):=by kernel_rfl
theorem QH:Tryz.prog.underlying 134=some (.map 141 4):=by kernel_rfl
theorem Kh:Tryz.prog.underlying 135=some (.slice 141):=by kernel_rfl
theorem Gt:Tryz.prog.underlying 136=some (.slice 9):=by kernel_rfl
theorem Kg:Tryz.prog.underlying 145=some (.map 9 4):=by kernel_rfl
theorem QG:Tryz.prog.underlying 167=some (.slice 172):=by kernel_rfl
theorem EF:Tryz.prog.underlying 174=some (.slice 223):=by kernel_rfl
theorem xB:Tryz.prog.underlying 188=some (.int .u64):=by kernel_rfl
theorem QF:Tryz.prog.underlying 22=some (.slice 176):=by kernel_rfl
theorem QE:Tryz.prog.underlying 23=some (.slice 202):=by kernel_rfl
theorem Vn:Tryz.prog.underlying 24=some (.slice 138):=by kernel_rfl
theorem QD:Tryz.prog.underlying 27=some (.slice 149):=by kernel_rfl
theorem Lg:Tryz.prog.underlying 28=some (.slice 147):=by kernel_rfl
theorem Vm:Tryz.prog.underlying 29=some (.slice 33):=by kernel_rfl
theorem IX:Tryz.prog.underlying 3=some (.int .i64):=by kernel_rfl
theorem Ow:Tryz.prog.underlying 30=some (.slice 155):=by kernel_rfl
theorem V3:Tryz.prog.underlying 301=some (.slice 46):=by kernel_rfl
theorem Jm:Tryz.prog.underlying 31=some (.slice 214):=by kernel_rfl
theorem BQ:Tryz.prog.underlying 34=some (.slice 58):=by kernel_rfl
theorem QC:Tryz.prog.underlying 35=some (.slice 163):=by kernel_rfl
theorem Vl:Tryz.prog.underlying 36=some (.slice 161):=by kernel_rfl
theorem Vk:Tryz.prog.underlying 37=some (.slice 169):=by kernel_rfl
theorem Vj:Tryz.prog.underlying 38=some (.slice 227):=by kernel_rfl
theorem Vi:Tryz.prog.underlying 39=some (.slice 181):=by kernel_rfl
theorem VZ:Tryz.prog.underlying 4=some (.bool):=by kernel_rfl
theorem Ov:Tryz.prog.underlying 44=some (.slice 67):=by kernel_rfl
theorem Lf:Tryz.prog.underlying 45=some (.slice 56):=by kernel_rfl
theorem xO:Tryz.prog.underlying 46=some (.slice 54):=by kernel_rfl
theorem ve:Tryz.prog.underlying 71=some (.slice 121):=by kernel_rfl
theorem o8:Tryz.prog.underlying 78=some (.slice 77):=by kernel_rfl
theorem EE:Tryz.prog.underlying 9=some (.string):=by kernel_rfl
def kw(a b:aK):Bool:=(a.X==b.X)&&((a.Y==b.Y)&&true)
theorem vO{a b:aK}:kw a b=true↔a=b:=by
  cases a;cases b;simp[kw,Bn]
theorem Sz(a b:aK)(d:Nat)(W:World):(Op.equalIn (d+2) 54 (.agg #[(.int .i64 a.X),(.int .i64 a.Y)]) (.agg #[(.int .i64 b.X),(.int .i64 b.Y)])).run Tryz.prog W= .ok (kw a b) W:=by
  rw[show d+2=(d+1)+1 from rfl,run_equalIn_struct W _ 54 _ _ (by kernel_rfl) (by kernel_rfl)]
  simp only[Program.fieldsOf,Tryz.underlying54]
  exact ym rfl (zB bF rfl) (zB bF rfl) (EZ Tryz.underlying3) (ym rfl (zB bF rfl) (zB bF rfl) (EZ Tryz.underlying3) (Pn))
theorem NF{ρ:Operand→Value}{W:World}{dd:Option Tmp}{ty T':TypeId}{pos:String}{af:Array Edge}{g:Option (Nat×Bool)}{p q:Operand}(a b:aK)(hp:ρ p= .agg #[(.int .i64 a.X),(.int .i64 a.Y)])(hq:ρ q= .agg #[(.int .i64 b.X),(.int .i64 b.Y)]):(execOp ρ ⟨dd,.binOp .eql 54 p q T',ty,pos,af,g⟩).run Tryz.prog W= .ok (.value (.bool (kw a b))) W:=
  LB (m:=9998+2) rfl (by kernel_rfl) (Sz a b 9998 W) hp hq
theorem GK{ρ:Operand→Value}{W:World}{dd:Option Tmp}{ty T':TypeId}{pos:String}{af:Array Edge}{g:Option (Nat×Bool)}{p q:Operand}(a b:aK)(hp:ρ p= .agg #[(.int .i64 a.X),(.int .i64 a.Y)])(hq:ρ q= .agg #[(.int .i64 b.X),(.int .i64 b.Y)]):(execOp ρ ⟨dd,.binOp .neq 54 p q T',ty,pos,af,g⟩).run Tryz.prog W= .ok (.value (.bool (!kw a b))) W:=
  Lx (m:=9998+2) rfl (by kernel_rfl) (Sz a b 9998 W) hp hq
def za(a b:aO):Bool:=(a.X0==b.X0)&&((a.Y0==b.Y0)&&((a.X1==b.X1)&&((a.Y1==b.Y1)&&true)))
theorem Au{a b:aO}:za a b=true↔a=b:=by
  cases a;cases b;simp[za,Bn]
theorem Sy(a b:aO)(d:Nat)(W:World):(Op.equalIn (d+2) 77 (.agg #[(.int .i64 a.X0),(.int .i64 a.Y0),(.int .i64 a.X1),(.int .i64 a.Y1)]) (.agg #[(.int .i64 b.X0),(.int .i64 b.Y0),(.int .i64 b.X1),(.int .i64 b.Y1)])).run Tryz.prog W= .ok (za a b) W:=by
  rw[show d+2=(d+1)+1 from rfl,run_equalIn_struct W _ 77 _ _ (by kernel_rfl) (by kernel_rfl)]
  simp only[Program.fieldsOf,Tryz.underlying77]
  exact ym rfl (zB bF rfl) (zB bF rfl) (EZ Tryz.underlying3) (ym rfl (zB bF rfl) (zB bF rfl) (EZ Tryz.underlying3) (ym rfl (zB bF rfl) (zB bF rfl) (EZ Tryz.underlying3) (ym rfl (zB bF rfl) (zB bF rfl) (EZ Tryz.underlying3) (Pn))))
theorem Wd{ρ:Operand→Value}{W:World}{dd:Option Tmp}{ty T':TypeId}{pos:String}{af:Array Edge}{g:Option (Nat×Bool)}{p q:Operand}(a b:aO)(hp:ρ p= .agg #[(.int .i64 a.X0),(.int .i64 a.Y0),(.int .i64 a.X1),(.int .i64 a.Y1)])(hq:ρ q= .agg #[(.int .i64 b.X0),(.int .i64 b.Y0),(.int .i64 b.X1),(.int .i64 b.Y1)]):(execOp ρ ⟨dd,.binOp .eql 77 p q T',ty,pos,af,g⟩).run Tryz.prog W= .ok (.value (.bool (za a b))) W:=
  LB (m:=9998+2) rfl (by kernel_rfl) (Sy a b 9998 W) hp hq
theorem NE{ρ:Operand→Value}{W:World}{dd:Option Tmp}{ty T':TypeId}{pos:String}{af:Array Edge}{g:Option (Nat×Bool)}{p q:Operand}(a b:aO)(hp:ρ p= .agg #[(.int .i64 a.X0),(.int .i64 a.Y0),(.int .i64 a.X1),(.int .i64 a.Y1)])(hq:ρ q= .agg #[(.int .i64 b.X0),(.int .i64 b.Y0),(.int .i64 b.X1),(.int .i64 b.Y1)]):(execOp ρ ⟨dd,.binOp .neq 77 p q T',ty,pos,af,g⟩).run Tryz.prog W= .ok (.value (.bool (!za a b))) W:=
  Lx (m:=9998+2) rfl (by kernel_rfl) (Sy a b 9998 W) hp hq
end Go.Proofs.YtgijeiamflmkeaaGreatDoor
