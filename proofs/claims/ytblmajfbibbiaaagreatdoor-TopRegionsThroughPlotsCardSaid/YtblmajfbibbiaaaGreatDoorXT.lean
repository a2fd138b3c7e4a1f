/- Types of the data, and closed facts of the program's table of types. -/
import Derived.Test.YtblmajfbibbiaaaGreatDoorProg
import Derived.Test.YtblmajfbibbiaaaGreatDoorJ2
import Derived.Test.YtblmajfbibbiaaaGreatDoorJ3
import Derived.Test.YtblmajfbibbiaaaGreatDoorSH
namespace Go.Proofs.YtblmajfbibbiaaaGreatDoor
open Go.RowKit
set_option maxRecDepth 100000
structure aK where
  X0:Int
  Y0:Int
  X1:Int
  Y1:Int
structure bf where
  Y0:Int
  Y1:Int
  Xs:(List Int)
structure ak where
  X:Int
  Y:Int
structure fJ where
  from_:ak
  to_:ak
structure dO where
  points:(List ak)
  area:Int
structure gU where
  Name:ByteArray
  Rects:(List aK)
structure aB where
  Kind:Int
  Name:ByteArray
  At:ak
  Points:(List ak)
  NX:Int
  NY:Int
  Steps:(List aB)
structure ed where
  Unit:Int
  Tools:(List gU)
  Steps:(List aB)
structure AV where
  name:Bool
  at_:Bool
  points:Bool
  repeat_:Bool
structure mO where
  p:ed
  unit:Bool
  open_:(List aB)
  step:Bool
structure iT where
  Flip:Bool
  Quarters:Int
  At:ak
structure fq where
  p:ed
  tools:(List (List bf))
  image:(List bf)
  clear:Bool
  tool:Int
  place:ak
  placed:Bool
  off:Int
  on:Int
def aX:Fl aK:=Fl.flat 4 (fun x=>[(.int .i64 x.X0),(.int .i64 x.Y0),(.int .i64 x.X1),(.int .i64 x.Y1)]) (fun _=>rfl) (fun _ u h=>by
  simp at h
  rcases h with rfl|rfl|rfl|rfl<;>rfl)
theorem lY:∀u x,aX.enc u x=[(.int .i64 x.X0),(.int .i64 x.Y0),(.int .i64 x.X1),(.int .i64 x.Y1)]:=fun _ _=>rfl
theorem lW:aX.Qt:=fun _ _ _ _=>trivial
def bP:Fl Int:=Fl.flat 1 (fun x=>[(.int .i64 x)]) (fun _=>rfl) (fun _ u h=>by
  simp at h
  subst h;rfl)
theorem jm:∀u x,bP.enc u x=[(.int .i64 x)]:=fun _ _=>rfl
theorem Fh:bP.Qt:=fun _ _ _ _=>trivial
def aT:Fl bf where
  Ad:=(Option Addr×Nat)
  sz:=3
  enc u x:=[(.int .i64 x.Y0),(.int .i64 x.Y1),(.slice u.1 (x.Xs).length u.2)]
  ok S W u x:=Sl S W bP u.1 u.2 x.Xs
  len _ _:=rfl
  one _ _ v h:=by
    simp at h
    rcases h with rfl|rfl|rfl<;>rfl
  loc h hs hb:=h.go hs hb
def fe:Fl fJ:=Fl.flat 4 (fun x=>[(.int .i64 x.from_.X),(.int .i64 x.from_.Y),(.int .i64 x.to_.X),(.int .i64 x.to_.Y)]) (fun _=>rfl) (fun _ u h=>by
  simp at h
  rcases h with rfl|rfl|rfl|rfl<;>rfl)
theorem rR:∀u x,fe.enc u x=[(.int .i64 x.from_.X),(.int .i64 x.from_.Y),(.int .i64 x.to_.X),(.int .i64 x.to_.Y)]:=fun _ _=>rfl
theorem Fj:fe.Qt:=fun _ _ _ _=>trivial
def uA:Fl Bool:=Fl.flat 1 (fun x=>[(.bool x)]) (fun _=>rfl) (fun _ u h=>by
  simp at h
  subst h;rfl)
theorem Pg:∀u x,uA.enc u x=[(.bool x)]:=fun _ _=>rfl
theorem TV:uA.Qt:=fun _ _ _ _=>trivial
def bi:Fl ak:=Fl.flat 2 (fun x=>[(.int .i64 x.X),(.int .i64 x.Y)]) (fun _=>rfl) (fun _ u h=>by
  simp at h
  rcases h with rfl|rfl<;>rfl)
theorem jI:∀u x,bi.enc u x=[(.int .i64 x.X),(.int .i64 x.Y)]:=fun _ _=>rfl
theorem vS:bi.Qt:=fun _ _ _ _=>trivial
def eu:Fl (List ak) where
  Ad:=(Option Addr×Nat)
  sz:=1
  enc u x:=[(.slice u.1 (x).length u.2)]
  ok S W u x:=Sl S W bi u.1 u.2 x
  len _ _:=rfl
  one _ _ v h:=by
    simp at h
    subst h;rfl
  loc h hs hb:=h.go hs hb
def aR:Fl gU where
  Ad:=(Option Addr×Nat)
  sz:=2
  enc u x:=[(.string x.Name),(.slice u.1 (x.Rects).length u.2)]
  ok S W u x:=Sl S W aX u.1 u.2 x.Rects
  len _ _:=rfl
  one _ _ v h:=by
    simp at h
    rcases h with rfl|rfl<;>rfl
  loc h hs hb:=h.go hs hb
def Bh:Xu aB where
  Ad:=(Option Addr×Nat)×(Option Addr×Nat)
  sz:=8
  enc u x:=[(.int .i64 x.Kind),(.string x.Name),(.int .i64 x.At.X),(.int .i64 x.At.Y),(.slice u.1.1 (x.Points).length u.1.2),(.int .i64 x.NX),(.int .i64 x.NY),(.slice u.2.1 (x.Steps).length u.2.2)]
  okb S W u x:=Sl S W bi u.1.1 u.1.2 x.Points
  ua u:=u.2
  sub x:=x.Steps
  len _ _:=rfl
  one _ _ v h:=by
    simp at h
    rcases h with rfl|rfl|rfl|rfl|rfl|rfl|rfl|rfl<;>rfl
  loc h hs hb:=h.go hs hb
def az:Fl aB:=Bh.fix
theorem lu{S:Nat→Prop}{W:World}{u:(Option Addr×Nat)×(Option Addr×Nat)}{x:aB}:az.ok S W u x↔Sl S W bi u.1.1 u.1.2 x.Points∧Sl S W az u.2.1 u.2.2 x.Steps:=
  Xu.WQ Bh
def aS:Fl dO where
  Ad:=(Option Addr×Nat)
  sz:=2
  enc u x:=[(.slice u.1 (x.points).length u.2),(.int .i64 x.area)]
  ok S W u x:=Sl S W bi u.1 u.2 x.points
  len _ _:=rfl
  one _ _ v h:=by
    simp at h
    rcases h with rfl|rfl<;>rfl
  loc h hs hb:=h.go hs hb
def yR:Fl ByteArray:=Fl.flat 1 (fun x=>[(.string x)]) (fun _=>rfl) (fun _ u h=>by
  simp at h
  subst h;rfl)
theorem BG:∀u x,yR.enc u x=[(.string x)]:=fun _ _=>rfl
theorem VV:yR.Qt:=fun _ _ _ _=>trivial
def jy:Fl (List bf) where
  Ad:=(Option Addr×Nat)
  sz:=1
  enc u x:=[(.slice u.1 (x).length u.2)]
  ok S W u x:=Sl S W aT u.1 u.2 x
  len _ _:=rfl
  one _ _ v h:=by
    simp at h
    subst h;rfl
  loc h hs hb:=h.go hs hb
def aV:Lens az bi where
  get x:=x.Points
  ga u:=u.1
  okR S W u x:=Sl S W az u.2.1 u.2.2 x.Steps
  ok S W u x h1 h2:=lu.2 ⟨h2,h1⟩
  locR h hs hb:=h.go hs hb
theorem lc:mM Tryz.prog 118=some false:=by kernel_rfl
theorem GQ:mM Tryz.prog 133=some true:=by kernel_rfl
theorem vg:mM Tryz.prog 143=some false:=by kernel_rfl
theorem Nz:mM Tryz.prog 145=some false:=by kernel_rfl
theorem uq:mM Tryz.prog 147=some true:=by kernel_rfl
theorem Ny:mM Tryz.prog 148=some false:=by kernel_rfl
theorem Xf:mM Tryz.prog 150=some false:=by kernel_rfl
theorem Tc:mM Tryz.prog 151=some false:=by kernel_rfl
theorem JY:mM Tryz.prog 181=some false:=by kernel_rfl
theorem kP:mM Tryz.prog 24=some true:=by kernel_rfl
theorem Bl:mM Tryz.prog 26=some true:=by kernel_rfl
theorem I1:mM Tryz.prog 27=some false:=by kernel_rfl
theorem xw:mM Tryz.prog 28=some false:=by kernel_rfl
theorem bT:mM Tryz.prog 3=some false:=by kernel_rfl
theorem pq:mM Tryz.prog 30=some true:=by kernel_rfl
theorem z8:mM Tryz.prog 4=some false:=by kernel_rfl
theorem qJ:mM Tryz.prog 45=some true:=by kernel_rfl
theorem tF:mM Tryz.prog 51=some false:=by kernel_rfl
theorem sQ:mM Tryz.prog 53=some true:=by kernel_rfl
theorem VF:mM Tryz.prog 54=some false:=by kernel_rfl
theorem Bj:mM Tryz.prog 59=some true:=by kernel_rfl
theorem VE:mM Tryz.prog 79=some false:=by kernel_rfl
theorem LM:mM Tryz.prog 88=some false:=by kernel_rfl
theorem LK:mM Tryz.prog 9=some false:=by kernel_rfl
theorem VD:mM Tryz.prog 98=some true:=by kernel_rfl
theorem QX:lX Tryz.prog 118=some 1:=by kernel_rfl
theorem xC:lX Tryz.prog 133=some 3:=by kernel_rfl
theorem QV:lX Tryz.prog 143=some 1:=by kernel_rfl
theorem V6:lX Tryz.prog 145=some 1:=by kernel_rfl
theorem qN:lX Tryz.prog 147=some 4:=by kernel_rfl
theorem V5:lX Tryz.prog 148=some 1:=by kernel_rfl
theorem V4:lX Tryz.prog 150=some 1:=by kernel_rfl
theorem V3:lX Tryz.prog 151=some 1:=by kernel_rfl
theorem VZ:lX Tryz.prog 181=some 1:=by kernel_rfl
theorem gQ:lX Tryz.prog 24=some 2:=by kernel_rfl
theorem zF:lX Tryz.prog 26=some 4:=by kernel_rfl
theorem XM:lX Tryz.prog 27=some 1:=by kernel_rfl
theorem NW:lX Tryz.prog 28=some 1:=by kernel_rfl
theorem wP:lX Tryz.prog 3=some 1:=by kernel_rfl
theorem lK:lX Tryz.prog 30=some 3:=by kernel_rfl
theorem QU:lX Tryz.prog 4=some 1:=by kernel_rfl
theorem kG:lX Tryz.prog 45=some 4:=by kernel_rfl
theorem QR:lX Tryz.prog 51=some 1:=by kernel_rfl
theorem nP:lX Tryz.prog 53=some 2:=by kernel_rfl
theorem XL:lX Tryz.prog 54=some 1:=by kernel_rfl
theorem rA:lX Tryz.prog 59=some 8:=by kernel_rfl
theorem XK:lX Tryz.prog 73=some 2:=by kernel_rfl
theorem Vn:lX Tryz.prog 88=some 1:=by kernel_rfl
theorem Kq:lX Tryz.prog 98=some 4:=by kernel_rfl
theorem VP:zeroOf Tryz.prog 118=some [(.slice none 0 0)]:=by kernel_rfl
theorem I8:zeroOf Tryz.prog 133=some [(.int .i64 0),(.int .i64 0),(.slice none 0 0)]:=by kernel_rfl
theorem QI:zeroOf Tryz.prog 143=some [(.slice none 0 0)]:=by kernel_rfl
theorem VO:zeroOf Tryz.prog 145=some [(.map none)]:=by kernel_rfl
theorem QH:zeroOf Tryz.prog 147=some [(.int .i64 0),(.int .i64 0),(.int .i64 0),(.int .i64 0)]:=by kernel_rfl
theorem VN:zeroOf Tryz.prog 148=some [(.slice none 0 0)]:=by kernel_rfl
theorem VM:zeroOf Tryz.prog 150=some [.nilFunc]:=by kernel_rfl
theorem VL:zeroOf Tryz.prog 151=some [.nilFunc]:=by kernel_rfl
theorem VK:zeroOf Tryz.prog 181=some [.nilFunc]:=by kernel_rfl
theorem tZ:zeroOf Tryz.prog 24=some [(.int .i64 0),(.int .i64 0)]:=by kernel_rfl
theorem XA:zeroOf Tryz.prog 26=some [(.bool false),(.int .i64 0),(.int .i64 0),(.int .i64 0)]:=by kernel_rfl
theorem Xz:zeroOf Tryz.prog 3=some [(.int .i64 0)]:=by kernel_rfl
theorem BU:zeroOf Tryz.prog 30=some [(.int .i64 0),(.slice none 0 0),(.slice none 0 0)]:=by kernel_rfl
theorem YC:zeroOf Tryz.prog 4=some [(.bool false)]:=by kernel_rfl
theorem vz:zeroOf Tryz.prog 45=some [(.int .i64 0),(.int .i64 0),(.int .i64 0),(.int .i64 0)]:=by kernel_rfl
theorem Vi:zeroOf Tryz.prog 53=some [(.slice none 0 0),(.int .i64 0)]:=by kernel_rfl
theorem Xy:zeroOf Tryz.prog 54=some [.nilFunc]:=by kernel_rfl
theorem Hy:zeroOf Tryz.prog 59=some [(.int .i64 0),(.string ⟨#[]⟩),(.int .i64 0),(.int .i64 0),(.slice none 0 0),(.int .i64 0),(.int .i64 0),(.slice none 0 0)]:=by kernel_rfl
theorem Vh:zeroOf Tryz.prog 98=some [(.bool false),(.bool false),(.bool false),(.bool false)]:=by kernel_rfl
theorem XB:zeroOf Tryz.prog 66=some [.pointer none,.slice none 0 0]:=by kernel_rfl
theorem VJ:(zeroOf Tryz.prog 133).map List.length=some 3:=by kernel_rfl
theorem QG:(zeroOf Tryz.prog 147).map List.length=some 4:=by kernel_rfl
theorem Hw:(zeroOf Tryz.prog 24).map List.length=some 2:=by kernel_rfl
theorem Mf:(zeroOf Tryz.prog 3).map List.length=some 1:=by kernel_rfl
theorem NQ:(zeroOf Tryz.prog 45).map List.length=some 4:=by kernel_rfl
theorem Xx:(zeroOf Tryz.prog 51).map List.length=some 1:=by kernel_rfl
theorem Xw:(zeroOf Tryz.prog 53).map List.length=some 2:=by kernel_rfl
theorem NP:(zeroOf Tryz.prog 59).map List.length=some 8:=by kernel_rfl
theorem Xv:(zeroOf Tryz.prog 73).map List.length=some 2:=by kernel_rfl
theorem W9:(Tryz.prog.info? 133).map (·.bytes)=some 40:=by kernel_rfl
theorem SF:(Tryz.prog.info? 147).map (·.bytes)=some 32:=by kernel_rfl
theorem IW:(Tryz.prog.info? 24).map (·.bytes)=some 16:=by kernel_rfl
theorem Np:(Tryz.prog.info? 3).map (·.bytes)=some 8:=by kernel_rfl
theorem Y9:(Tryz.prog.info? 4).map (·.bytes)=some 1:=by kernel_rfl
theorem Pw:(Tryz.prog.info? 45).map (·.bytes)=some 32:=by kernel_rfl
theorem Yh:(Tryz.prog.info? 51).map (·.bytes)=some 24:=by kernel_rfl
theorem Yg:(Tryz.prog.info? 53).map (·.bytes)=some 32:=by kernel_rfl
theorem Pv:(Tryz.prog.info? 59).map (·.bytes)=some 104:=by kernel_rfl
theorem Yf:(Tryz.prog.info? 73).map (·.bytes)=some 40:=by kernel_rfl
theorem oz:gV Tryz.prog 133 0=some 0:=by kernel_rfl
theorem nC:gV Tryz.prog 133 1=some 1:=by kernel_rfl
theorem jU:gV Tryz.prog 133 2=some 2:=by kernel_rfl
theorem Li:gV Tryz.prog 142 0=some 0:=by kernel_rfl
theorem xX:gV Tryz.prog 142 2=some 4:=by kernel_rfl
theorem Lh:gV Tryz.prog 142 3=some 5:=by kernel_rfl
theorem zT:gV Tryz.prog 147 0=some 0:=by kernel_rfl
theorem zS:gV Tryz.prog 147 1=some 2:=by kernel_rfl
theorem je:gV Tryz.prog 24 0=some 0:=by kernel_rfl
theorem iQ:gV Tryz.prog 24 1=some 1:=by kernel_rfl
theorem O5:gV Tryz.prog 26 0=some 0:=by kernel_rfl
theorem JP:gV Tryz.prog 26 1=some 1:=by kernel_rfl
theorem xk:gV Tryz.prog 26 2=some 2:=by kernel_rfl
theorem sD:gV Tryz.prog 30 0=some 0:=by kernel_rfl
theorem yQ:gV Tryz.prog 30 1=some 1:=by kernel_rfl
theorem qI:gV Tryz.prog 30 2=some 2:=by kernel_rfl
theorem oW:gV Tryz.prog 45 0=some 0:=by kernel_rfl
theorem rq:gV Tryz.prog 45 1=some 1:=by kernel_rfl
theorem xh:gV Tryz.prog 45 2=some 2:=by kernel_rfl
theorem yP:gV Tryz.prog 45 3=some 3:=by kernel_rfl
theorem UF:gV Tryz.prog 53 0=some 0:=by kernel_rfl
theorem CB:gV Tryz.prog 53 1=some 1:=by kernel_rfl
theorem vH:gV Tryz.prog 59 0=some 0:=by kernel_rfl
theorem O4:gV Tryz.prog 59 1=some 1:=by kernel_rfl
theorem JO:gV Tryz.prog 59 2=some 2:=by kernel_rfl
theorem pR:gV Tryz.prog 59 3=some 4:=by kernel_rfl
theorem UE:gV Tryz.prog 59 4=some 5:=by kernel_rfl
theorem UD:gV Tryz.prog 59 5=some 6:=by kernel_rfl
theorem JN:gV Tryz.prog 59 6=some 7:=by kernel_rfl
theorem Cz:gV Tryz.prog 81 0=some 0:=by kernel_rfl
theorem ER:gV Tryz.prog 81 1=some 3:=by kernel_rfl
theorem O3:gV Tryz.prog 81 2=some 4:=by kernel_rfl
theorem UC:gV Tryz.prog 81 3=some 5:=by kernel_rfl
theorem O1:gV Tryz.prog 98 0=some 0:=by kernel_rfl
theorem UB:gV Tryz.prog 98 1=some 1:=by kernel_rfl
theorem O0:gV Tryz.prog 98 2=some 2:=by kernel_rfl
theorem OZ:gV Tryz.prog 98 3=some 3:=by kernel_rfl
theorem Pb:Gt Tryz.prog 98 1=some (1,4):=by kernel_rfl
theorem zW:elemOf? Tryz.prog 114=some (9,1):=by kernel_rfl
theorem iX:elemOf? Tryz.prog 118=some (3,1):=by kernel_rfl
theorem WR:elemOf? Tryz.prog 140=some (88,1):=by kernel_rfl
theorem xH:elemOf? Tryz.prog 143=some (147,4):=by kernel_rfl
theorem Nc:elemOf? Tryz.prog 148=some (4,1):=by kernel_rfl
theorem uh:elemOf? Tryz.prog 22=some (45,4):=by kernel_rfl
theorem Gx:elemOf? Tryz.prog 28=some (59,8):=by kernel_rfl
theorem Ls:elemOf? Tryz.prog 47=some (51,1):=by kernel_rfl
theorem qm:elemOf? Tryz.prog 50=some (53,2):=by kernel_rfl
theorem ql:elemOf? Tryz.prog 51=some (24,2):=by kernel_rfl
theorem pM:elemOf? Tryz.prog 88=some (133,3):=by kernel_rfl
theorem Me:(Tryz.prog.info? 118).bind (·.zero)=some (.slice none 0 0):=by kernel_rfl
theorem RO:TE Tryz.prog 24 JR Kc:=Y3 (IT:=3) (by kernel_rfl) (of_decide_eq_true (by kernel_rfl)) ⟨308,by kernel_rfl⟩ (of_decide_eq_true (by kernel_rfl)) (by kernel_rfl) ⟨_,Tryz.underlying24,by kernel_rfl⟩ (by kernel_rfl) (by kernel_rfl) Tryz.underlying3
theorem VU:Tryz.prog.underlying 114=some (.slice 9):=by kernel_rfl
theorem kF:Tryz.prog.underlying 118=some (.slice 3):=by kernel_rfl
theorem VS:Tryz.prog.underlying 140=some (.slice 88):=by kernel_rfl
theorem zC:Tryz.prog.underlying 143=some (.slice 147):=by kernel_rfl
theorem Mk:Tryz.prog.underlying 145=some (.map 24 118):=by kernel_rfl
theorem VR:Tryz.prog.underlying 148=some (.slice 4):=by kernel_rfl
theorem zB:Tryz.prog.underlying 174=some (.int .u64):=by kernel_rfl
theorem rM:Tryz.prog.underlying 22=some (.slice 45):=by kernel_rfl
theorem Ff:Tryz.prog.underlying 27=some (.slice 73):=by kernel_rfl
theorem wV:Tryz.prog.underlying 28=some (.slice 59):=by kernel_rfl
theorem Km:Tryz.prog.underlying 3=some (.int .i64):=by kernel_rfl
theorem XD:Tryz.prog.underlying 4=some (.bool):=by kernel_rfl
theorem HV:Tryz.prog.underlying 47=some (.slice 51):=by kernel_rfl
theorem QO:Tryz.prog.underlying 50=some (.slice 53):=by kernel_rfl
theorem qM:Tryz.prog.underlying 51=some (.slice 24):=by kernel_rfl
theorem Vk:Tryz.prog.underlying 79=some (.slice 96):=by kernel_rfl
theorem ug:Tryz.prog.underlying 88=some (.slice 133):=by kernel_rfl
theorem G7:Tryz.prog.underlying 9=some (.string):=by kernel_rfl
def jV(a b:ak):Bool:=(a.X==b.X)&&((a.Y==b.Y)&&true)
theorem vI{a b:ak}:jV a b=true↔a=b:=by
  cases a;cases b;simp[jV,EH]
theorem Sc(a b:ak)(d:Nat)(W:World):(Op.equalIn (d+2) 24 (.agg #[(.int .i64 a.X),(.int .i64 a.Y)]) (.agg #[(.int .i64 b.X),(.int .i64 b.Y)])).run Tryz.prog W= .ok (jV a b) W:=by
  rw[show d+2=(d+1)+1 from rfl,run_equalIn_struct W _ 24 _ _ (by kernel_rfl) (by kernel_rfl)]
  simp only[Program.fieldsOf,Tryz.underlying24]
  exact xY rfl (xS bT rfl) (xS bT rfl) (DD Tryz.underlying3) (xY rfl (xS bT rfl) (xS bT rfl) (DD Tryz.underlying3) (Pf))
theorem Br{ρ:Operand→Value}{W:World}{dd:Option Tmp}{ty T':TypeId}{pos:String}{af:Array Edge}{g:Option (Nat×Bool)}{p q:Operand}(a b:ak)(hp:ρ p= .agg #[(.int .i64 a.X),(.int .i64 a.Y)])(hq:ρ q= .agg #[(.int .i64 b.X),(.int .i64 b.Y)]):(execOp ρ ⟨dd,.binOp .eql 24 p q T',ty,pos,af,g⟩).run Tryz.prog W= .ok (.value (.bool (jV a b))) W:=
  KI (m:=9998+2) rfl (by kernel_rfl) (Sc a b 9998 W) hp hq
theorem FN{ρ:Operand→Value}{W:World}{dd:Option Tmp}{ty T':TypeId}{pos:String}{af:Array Edge}{g:Option (Nat×Bool)}{p q:Operand}(a b:ak)(hp:ρ p= .agg #[(.int .i64 a.X),(.int .i64 a.Y)])(hq:ρ q= .agg #[(.int .i64 b.X),(.int .i64 b.Y)]):(execOp ρ ⟨dd,.binOp .neq 24 p q T',ty,pos,af,g⟩).run Tryz.prog W= .ok (.value (.bool (!jV a b))) W:=
  KH (m:=9998+2) rfl (by kernel_rfl) (Sc a b 9998 W) hp hq
def yS(a b:aK):Bool:=(a.X0==b.X0)&&((a.Y0==b.Y0)&&((a.X1==b.X1)&&((a.Y1==b.Y1)&&true)))
theorem zV{a b:aK}:yS a b=true↔a=b:=by
  cases a;cases b;simp[yS,EH]
theorem Sb(a b:aK)(d:Nat)(W:World):(Op.equalIn (d+2) 45 (.agg #[(.int .i64 a.X0),(.int .i64 a.Y0),(.int .i64 a.X1),(.int .i64 a.Y1)]) (.agg #[(.int .i64 b.X0),(.int .i64 b.Y0),(.int .i64 b.X1),(.int .i64 b.Y1)])).run Tryz.prog W= .ok (yS a b) W:=by
  rw[show d+2=(d+1)+1 from rfl,run_equalIn_struct W _ 45 _ _ (by kernel_rfl) (by kernel_rfl)]
  simp only[Program.fieldsOf,Tryz.underlying45]
  exact xY rfl (xS bT rfl) (xS bT rfl) (DD Tryz.underlying3) (xY rfl (xS bT rfl) (xS bT rfl) (DD Tryz.underlying3) (xY rfl (xS bT rfl) (xS bT rfl) (DD Tryz.underlying3) (xY rfl (xS bT rfl) (xS bT rfl) (DD Tryz.underlying3) (Pf))))
theorem Wm{ρ:Operand→Value}{W:World}{dd:Option Tmp}{ty T':TypeId}{pos:String}{af:Array Edge}{g:Option (Nat×Bool)}{p q:Operand}(a b:aK)(hp:ρ p= .agg #[(.int .i64 a.X0),(.int .i64 a.Y0),(.int .i64 a.X1),(.int .i64 a.Y1)])(hq:ρ q= .agg #[(.int .i64 b.X0),(.int .i64 b.Y0),(.int .i64 b.X1),(.int .i64 b.Y1)]):(execOp ρ ⟨dd,.binOp .eql 45 p q T',ty,pos,af,g⟩).run Tryz.prog W= .ok (.value (.bool (yS a b))) W:=
  KI (m:=9998+2) rfl (by kernel_rfl) (Sb a b 9998 W) hp hq
theorem ME{ρ:Operand→Value}{W:World}{dd:Option Tmp}{ty T':TypeId}{pos:String}{af:Array Edge}{g:Option (Nat×Bool)}{p q:Operand}(a b:aK)(hp:ρ p= .agg #[(.int .i64 a.X0),(.int .i64 a.Y0),(.int .i64 a.X1),(.int .i64 a.Y1)])(hq:ρ q= .agg #[(.int .i64 b.X0),(.int .i64 b.Y0),(.int .i64 b.X1),(.int .i64 b.Y1)]):(execOp ρ ⟨dd,.binOp .neq 45 p q T',ty,pos,af,g⟩).run Tryz.prog W= .ok (.value (.bool (!yS a b))) W:=
  KH (m:=9998+2) rfl (by kernel_rfl) (Sb a b 9998 W) hp hq
end Go.Proofs.YtblmajfbibbiaaaGreatDoor
