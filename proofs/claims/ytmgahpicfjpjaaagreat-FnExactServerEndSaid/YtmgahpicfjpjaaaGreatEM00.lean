/- What functions come to on pure values (printed by a program of ours). -/
import Derived.Test.YtmgahpicfjpjaaaGreatERvD
import Derived.Test.YtmgahpicfjpjaaaGreatProg
import Derived.KernelRfl
set_option linter.unusedVariables false
set_option linter.unusedSimpArgs false
set_option linter.unusedSectionVars false
set_option maxRecDepth 100000
noncomputable section
namespace Go.Rv
open Go.Proofs
variable {Dr:Kn} {R:Type} (k0 k:Nat) (K:ai R)
abbrev ct0:List CT:=[CT.int .i64,CT.int .i64,CT.int .i64]
abbrev ct1:List CT:=[CT.int .u64,CT.int .u64]
abbrev aC:List CT:=[CT.int .i64,CT.int .i64,CT.int .i64,CT.int .i64]
abbrev gV:List CT:=[CT.int .i64,CT.int .i64,CT.int .i64,CT.int .i64,CT.sl aC,CT.sl aC,CT.sl ct0]
abbrev dJ:List CT:=[CT.int .i64,CT.int .i64,CT.int .i64,CT.int .i64,CT.int .i64]
abbrev eH:List CT:=[CT.int .i64,CT.sl aC,CT.sl aC]
abbrev eG:List CT:=[CT.int .i64,CT.int .i64]
abbrev ct7:List CT:=[CT.sl [CT.int .i64],CT.int .i64,CT.int .i64,CT.int .i64,CT.sl [CT.bool]]
abbrev Zk:List CT:=[CT.int .u64,CT.int .u64,CT.int .u64]
abbrev Qz:List CT:=[CT.int .i64,CT.int .i64,CT.int .i64,CT.int .i64,CT.sl aC,CT.sl aC,CT.sl ct0,CT.int .i64,CT.int .i64,CT.int .i64]
abbrev BN:List CT:=[CT.int .i64,CT.sl aC,CT.sl aC,CT.int .i64,CT.int .i64]
abbrev Zf:List CT:=[CT.int .u64,CT.int .u64,CT.bool,CT.int .i64]
def fK(p:Int×Int×Int×Int×Unit)(x:Int):Int×Int×Int×Int×Unit:=(x,p.2.1,p.2.2.1,p.2.2.2.1,())
def lJ(p:Int×Int×Int×Int×Unit)(x:Int):Int×Int×Int×Int×Unit:=(p.1,x,p.2.2.1,p.2.2.2.1,())
def yH(p:Int×Int×Int×Int×Unit)(x:Int):Int×Int×Int×Int×Unit:=(p.1,p.2.1,x,p.2.2.2.1,())
def YL(p:Int×Int×Int×Int×Unit)(x:Int):Int×Int×Int×Int×Unit:=(p.1,p.2.1,p.2.2.1,x,())
def fE(p:Int×Int×Int×Int×Int×Unit)(x:Int):Int×Int×Int×Int×Int×Unit:=(x,p.2.1,p.2.2.1,p.2.2.2.1,p.2.2.2.2.1,())
def kS(p:Int×Int×Int×Int×Int×Unit)(x:Int):Int×Int×Int×Int×Int×Unit:=(p.1,x,p.2.2.1,p.2.2.2.1,p.2.2.2.2.1,())
def vT(p:Int×Int×Int×Int×Int×Unit)(x:Int):Int×Int×Int×Int×Int×Unit:=(p.1,p.2.1,x,p.2.2.2.1,p.2.2.2.2.1,())
def Qd(p:Int×Int×Int×Int×Int×Unit)(x:Int):Int×Int×Int×Int×Int×Unit:=(p.1,p.2.1,p.2.2.1,x,p.2.2.2.2.1,())
def ahs(p:Int×Int×Int×Int×Int×Unit)(x:Int):Int×Int×Int×Int×Int×Unit:=(p.1,p.2.1,p.2.2.1,p.2.2.2.1,x,())
abbrev KN:Kn:=Kn.no
abbrev U0:=Int×Int×Int×Int×(List (Int×Int×Int×Int×Unit))×(List (Int×Int×Int×Int×Unit))×(List (Int×Int×Int×Unit))×Int×Int×Int×Unit
abbrev U1:=Int×Int×Int×Int×(List (Int×Int×Int×Int×Unit))×(List (Int×Int×Int×Int×Unit))×(List (Int×Int×Int×Unit))×Unit
abbrev U2:=Int×(List (Int×Int×Int×Int×Unit))×(List (Int×Int×Int×Int×Unit))×Int×Int×Unit
abbrev U3:=Int×(List (Int×Int×Int×Int×Unit))×(List (Int×Int×Int×Int×Unit))×Unit
abbrev U4:=(List (Int×Unit))×Int×Int×Int×(List (Bool×Unit))×Unit
abbrev U5:=Int×Int×Int×Int×Int×Unit
abbrev U6:=Int×Int×Bool×Int×Unit
abbrev U7:=Int×Int×Int×Int×Unit
abbrev U8:=Int×Int×Int×Unit
abbrev U9:=Int×Int×Unit
abbrev Is:=List bF
abbrev Os:=List (Bool×List CT)
theorem mix:Tryz.prog.follows .mixedOrders=true:=by kernel_rfl
abbrev kz:ByteArray:=qN [0,1,2,2,3,3,3,3,4,4,4,4,4,4,4,4,5,5,5,5,5,5,5,5,5,5,5,5,5,5,5,5,6,6,6,6,6,6,6,6,6,6,6,6,6,6,6,6,6,6,6,6,6,6,6,6,6,6,6,6,6,6,6,6,7,7,7,7,7,7,7,7,7,7,7,7,7,7,7,7,7,7,7,7,7,7,7,7,7,7,7,7,7,7,7,7,7,7,7,7,7,7,7,7,7,7,7,7,7,7,7,7,7,7,7,7,7,7,7,7,7,7,7,7,7,7,7,7,8,8,8,8,8,8,8,8,8,8,8,8,8,8,8,8,8,8,8,8,8,8,8,8,8,8,8,8,8,8,8,8,8,8,8,8,8,8,8,8,8,8,8,8,8,8,8,8,8,8,8,8,8,8,8,8,8,8,8,8,8,8,8,8,8,8,8,8,8,8,8,8,8,8,8,8,8,8,8,8,8,8,8,8,8,8,8,8,8,8,8,8,8,8,8,8,8,8,8,8,8,8,8,8,8,8,8,8,8,8,8,8,8,8,8,8,8,8,8,8,8,8,8,8,8,8,8,8]
abbrev Y0(R:Type):=Int→(List (Int×Unit))→Int→Int→Option R
abbrev Y1(R:Type):=Int→Int→Option R
abbrev Y2(R:Type):=Int→Option R
abbrev Y3(R:Type):=(List U7)→Int→Int→Int→Int→Option R
abbrev Y4(R:Type):=(List U7)→Int→Int→Int→Option R
abbrev Y5(R:Type):=Int→(List U7)→Int→Int→Int→(List U7)→(List U7)→(List U8)→(List (Int×Unit))→(List (Int×Unit))→Option R
abbrev Y6(R:Type):=Int→Int→(List U7)→(List U7)→(List U8)→(List (Int×Unit))→(List (Int×Unit))→Option R
abbrev Y7(R:Type):=Int→(List U7)→Int→Int→(List U8)→(List (Int×Unit))→(List (Int×Unit))→Option R
abbrev Y8(R:Type):=(List U8)→(List (Int×Unit))→(List (Int×Unit))→Option R
abbrev Y9(R:Type):=(List U8)→Int→Int→Int→Int→Int→Option R
abbrev dF(R:Type):=Unit→Option R
abbrev uH(R:Type):=Int→Int→Int→Int→Int→Int→Int→Int→Int→Option R
abbrev zu(R:Type):=Int→Int→Int→Int→Int→Int→Int→Int→Option R
abbrev QY(R:Type):=Int→Int→Int→Int→Int→Int→Option R
abbrev G7(R:Type):=(List U8)→Int→Int→(List U8)→Int→Int→Int→Int→Int→Int→(List (Int×Unit))→(List (Bool×Unit))→Option R
abbrev QX(R:Type):=(List U8)→Int→Int→Int→Int→Int→Int→(List (Int×Unit))→(List (Bool×Unit))→Option R
abbrev wu(R:Type):=Nat→Nat→(List U8)→Int→Int→Int→Int→Int→Int→(List U8)→(List (Int×Unit))→(List (Bool×Unit))→Option R
abbrev wo(R:Type):=(List U8)→Int→Int→Int→Int→Int→Int→(List U8)→(List (Int×Unit))→(List (Bool×Unit))→Option R
abbrev G6(R:Type):=Int→Int→Int→(List U8)→Int→Int→Int→Int→Int→Int→(List (Bool×Unit))→(List U8)→(List (Int×Unit))→(List (Bool×Unit))→Option R
abbrev Cc(R:Type):=Int→(List U8)→Int→Int→Int→Int→Int→Int→(List (Bool×Unit))→(List (Int×Unit))→(List (Bool×Unit))→Option R
abbrev GZ(R:Type):=Int→Nat→Nat→Int→Int→(List U8)→Int→Int→Int→Int→Int→Int→(List (Bool×Unit))→(List U8)→(List (Int×Unit))→(List (Bool×Unit))→Option R
abbrev GY(R:Type):=Int→Int→Int→Int→Int→Int→Int→Int→Int→(List (Bool×Unit))→(List (Int×Unit))→(List (Bool×Unit))→Option R
abbrev QW(R:Type):=Int→Int→Int→Int→Int→Int→(List (Int×Unit))→(List (Bool×Unit))→Option R
abbrev uG(R:Type):=Int→Int→(List U9)→(List U9)→(List (Int×Unit))→(List (Int×Unit))→(List (Int×Unit))→Option R
abbrev QU(R:Type):=(List U9)→(List U9)→(List (Int×Unit))→(List (Int×Unit))→(List (Int×Unit))→Option R
abbrev zq(R:Type):=(List U9)→(List U9)→Option R
abbrev nZ(R:Type):=(List U7)→Int→Int→Int→(List U7)→(List U7)→(List U9)→(List U9)→Option R
abbrev zo(R:Type):=Int→(List U7)→(List U7)→(List U9)→(List U9)→Option R
abbrev GX(R:Type):=Int→Int→Int→(List U8)→Int→Int→Option R
abbrev uF(R:Type):=(List U8)→Int→Int→Int→Int→Option R
abbrev QT(R:Type):=(List U8)→Int→Int→Int→Option R
abbrev uD(R:Type):=(List U7)→(Int×Unit)→Int→Int→Option R
abbrev uz(R:Type):=(List U7)→Int→(List U7)→Option R
abbrev zn(R:Type):=(List U7)→Option R
abbrev GV(R:Type):=(List U8)→Int→(List U8)→Option R
abbrev zl(R:Type):=(List U8)→Option R
abbrev uw(R:Type):=(List U7)→(List U7)→Int→Option R
abbrev fM(R:Type):=Bool→Option R
abbrev GU(R:Type):=(List U8)→(List U8)→Int→Option R
abbrev uq(R:Type):=Int→Int→(List U7)→Option R
abbrev zk(R:Type):=Int→(List U7)→Option R
abbrev GR(R:Type):=Int→Int→(List U8)→Option R
abbrev QS(R:Type):=Int→(List U8)→Option R
abbrev GN(R:Type):=(List U5)→Int→(List U5)→Option R
abbrev QR(R:Type):=(List U5)→Option R
abbrev GL(R:Type):=(List U5)→(List U5)→Int→Option R
abbrev GK(R:Type):=Int→Int→(List U5)→Option R
abbrev QO(R:Type):=Int→(List U5)→Option R
abbrev uo(R:Type):=Int→Int→Int→(List U7)→(List U7)→Option R
abbrev um(R:Type):=Int→Int→(List U7)→(List U7)→Option R
abbrev zi(R:Type):=Bool→Int→(List U7)→(List U7)→Option R
abbrev zh(R:Type):=Int→(List U7)→(List U7)→Option R
abbrev GI(R:Type):=(List U8)→Int→Option R
abbrev GH(R:Type):=Int→Int→Int→Int→Int→(List U7)→(List U7)→(List U8)→Option R
abbrev uj(R:Type):=Bool→Int→Int→(List U7)→(List U7)→Int→Int→Int→Int→Int→Int→Int→Int→Int→(List U7)→(List U7)→Option R
abbrev zf(R:Type):=Bool→Int→Int→Int→Int→Int→Int→Int→Int→Int→(List U7)→(List U7)→Option R
abbrev ug(R:Type):=Int→Int→Int→(List U7)→(List U7)→Int→Int→Int→Int→Int→Int→Int→Int→Option R
abbrev QN(R:Type):=Int→Int→(List U7)→(List U7)→Int→Int→Int→Int→Int→Int→Int→Int→(List U7)→(List U7)→Option R
abbrev QM(R:Type):=Int→Int→(List U7)→(List U7)→Int→Int→Int→Int→Int→Int→Int→Int→Option R
abbrev QL(R:Type):=Int→Int→(List U7)→(List U7)→Int→Int→Int→(List U7)→(List U7)→Option R
abbrev QK(R:Type):=Int→Int→(List U7)→(List U7)→Int→Int→Int→Option R
abbrev yZ(R:Type):=(List (Int×Unit))→Option R
abbrev uf(R:Type):=Int→Int→Int→Int→(List U7)→(List U7)→(List (Int×Unit))→Option R
abbrev yY(R:Type):=Int→Int→Int→(List U7)→(List U7)→(List (Int×Unit))→Option R
abbrev Gz(R:Type):=Int→Int→(List U7)→(List U7)→(List (Int×Unit))→Option R
abbrev Gy(R:Type):=Int→Int→Int→(List U7)→(List U7)→(List (Int×Unit))→(List U9)→(List U8)→Option R
abbrev QJ(R:Type):=Int→Int→(List U7)→(List U7)→(List U9)→(List U8)→Option R
abbrev Gx(R:Type):=Int→Int→Int→(List U7)→(List U7)→(List U9)→(List U8)→Option R
abbrev QI(R:Type):=(List U9)→(List U8)→Option R
abbrev tZ(R:Type):=Int→Int→Int→Int→Int→Option R
abbrev rC(R:Type):=Int→Int→Int→Int→Option R
abbrev Gw(R:Type):=Int→Int→Int→Int→Int→Int→Int→Option R
abbrev Gv(R:Type):=Int→Int→Int→Int→Int→Int→Int→Int→Int→Int→Int→Int→Option R
abbrev vZ(R:Type):=(List U8)→Int→Int→Int→(List (Int×Unit))→(List (Bool×Unit))→Option R
abbrev lN(R:Type):=(List U8)→Int→Int→(List (Int×Unit))→(List (Bool×Unit))→Option R
abbrev tY(R:Type):=(List U8)→Int→Int→Int→Int→(List (Int×Unit))→(List (Bool×Unit))→Option R
abbrev QH(R:Type):=(List U8)→Int→(List (Int×Unit))→(List (Bool×Unit))→Option R
abbrev QG(R:Type):=(List (Int×Unit))→(List (Int×Unit))→Option R
abbrev Gu(R:Type):=Int→Int→Int→(List U7)→(List U7)→(List (Int×Unit))→(List (Int×Unit))→(List U9)→(List (Int×Unit))→Option R
abbrev vY(R:Type):=Int→Int→(List U7)→(List U7)→(List (Int×Unit))→(List (Int×Unit))→Option R
abbrev Gt(R:Type):=Int→Int→(List U7)→(List U7)→(List U9)→(List (Int×Unit))→Option R
abbrev QF(R:Type):=(List U9)→Option R
abbrev Gs(R:Type):=(List U8)→Bool→Int→Int→Int→Int→(List U8)→(List U8)→Option R
abbrev QE(R:Type):=Bool→Int→Int→Int→(List U8)→(List U8)→Option R
abbrev Gq(R:Type):=Int→Int→Int→Int→Int→Int→(List U7)→(List U7)→(List U8)→Int→Int→Int→Int→Int→Int→Int→Int→Int→Int→Int→Int→Int→Int→Int→Int→(List U9)→(List U7)→(List U7)→(List U8)→Option R
abbrev QD(R:Type):=Int→Int→Int→Int→Int→(List U7)→(List U7)→(List U8)→Int→Int→Int→Int→Int→Int→Int→Int→Int→Int→Int→Int→Int→Int→Int→Int→(List U7)→(List U7)→(List U8)→Option R
abbrev Gp(R:Type):=(List (Int×Unit))→Int→Int→Option R
abbrev Gn(R:Type):=(List (Int×Unit))→Int→Int→Int→Int→Int→(List U7)→(List U7)→(List U8)→Int→Int→Int→Int→Int→Int→Int→Int→(List U7)→(List U7)→(List U8)→Option R
abbrev QC(R:Type):=Int→Int→Int→Int→Int→Int→Int→Int→(List U7)→(List U7)→(List U8)→Option R
abbrev vX(R:Type):=Int→Int→Int→Int→Int→(List U7)→(List U7)→(List U8)→Int→Int→Int→Int→Int→Int→Int→(List (Int×Unit))→Option R
abbrev yX(R:Type):=Int→Int→Int→Int→(List U7)→(List U7)→(List U8)→Int→Int→Int→Int→Int→Int→Int→(List (Int×Unit))→Option R
abbrev Gm(R:Type):=(List U5)→Int→Int→Int→Int→Int→(List U8)→Int→Int→Int→Int→(List U7)→(List U7)→(List U8)→Option R
abbrev QB(R:Type):=Int→Int→Int→Int→(List U8)→Int→Int→Int→Int→(List U7)→(List U7)→(List U8)→Option R
abbrev tX(R:Type):=(List U7)→Int→Int→Int→(List U7)→(List U7)→Option R
abbrev Gl(R:Type):=(List U8)→(List U8)→Int→Int→Option R
abbrev QA(R:Type):=(List U8)→Bool→Option R
abbrev Gj(R:Type):=(List U8)→Int→Int→Int→Int→Int→Int→(List U7)→(List U7)→(List U8)→Option R
abbrev Gi(R:Type):=(List U5)→Int→Int→Int→Int→Int→Int→(List U8)→(List U7)→(List U7)→(List U8)→Option R
abbrev Gg(R:Type):=(List U5)→Int→Int→Int→Int→Int→Int→(List U7)→(List U7)→(List U8)→(List U8)→Option R
abbrev Gf(R:Type):=Int→Int→Int→Int→(List U7)→(List U7)→(List U8)→(List U8)→Option R
abbrev F6(R:Type):=Int→Int→Int→Int→(List U8)→(List U7)→(List U7)→(List U8)→Option R
abbrev tC(R:Type):=(List U7)→Int→Int→Option R
abbrev F5(R:Type):=(List U8)→Int→Int→Option R
def LQ.T(x:Int):Option (Bool×Unit):=some ((x != x),())
def wL:=fun x:Int×Unit=>LQ.T x.1
abbrev abo:aG:=⟨[.v false [CT.int .i64]],[(false,[CT.bool])],wL,[]⟩
theorem aaJ:aF Dr Tryz.prog 138 abo:=aW mix .nil (by kernel_rfl) fun x=>by kernel_rfl
def Kz.T(x y:Int):Option (Int×Unit):=(wL (x,())).bind fun y1=>(wL (y,())).bind fun y2=>cond y1.1 (cond y2.1 (some (0,())) (some ((-1),()))) (cond y2.1 (some (1,())) (cond (decide (x<y)) (some ((-1),())) (cond (decide (x>y)) (some (1,())) (some (0,())))))
def qo:=fun x:U9=>Kz.T x.1 x.2.1
abbrev aau:aG:=⟨[.v false [CT.int .i64],.v false [CT.int .i64]],[(false,[CT.int .i64])],qo,[]⟩
theorem CO:aF Dr Tryz.prog 118 aau:=aW mix (.c aaJ .nil) (by kernel_rfl) fun x=>by kernel_rfl
def SI.T(x y:Int):Option (U9):=some ((IntKind.u64.wrap ((IntKind.u64.wrap ((IntKind.u64.wrap ((Int.fdiv x (2 ^ 32))*(Int.fdiv y (2 ^ 32))))+(Int.fdiv (IntKind.u64.wrap ((IntKind.u64.wrap ((Int.fdiv x (2 ^ 32))*(IntKind.u64.wrap (((BitVec.ofInt 64 y) &&& (BitVec.ofInt 64 4294967295)).toNat))))+(Int.fdiv (IntKind.u64.wrap ((IntKind.u64.wrap (((BitVec.ofInt 64 x) &&& (BitVec.ofInt 64 4294967295)).toNat))*(IntKind.u64.wrap (((BitVec.ofInt 64 y) &&& (BitVec.ofInt 64 4294967295)).toNat)))) (2 ^ 32)))) (2 ^ 32))))+(Int.fdiv (IntKind.u64.wrap ((IntKind.u64.wrap (((BitVec.ofInt 64 (IntKind.u64.wrap ((IntKind.u64.wrap ((Int.fdiv x (2 ^ 32))*(IntKind.u64.wrap (((BitVec.ofInt 64 y) &&& (BitVec.ofInt 64 4294967295)).toNat))))+(Int.fdiv (IntKind.u64.wrap ((IntKind.u64.wrap (((BitVec.ofInt 64 x) &&& (BitVec.ofInt 64 4294967295)).toNat))*(IntKind.u64.wrap (((BitVec.ofInt 64 y) &&& (BitVec.ofInt 64 4294967295)).toNat)))) (2 ^ 32))))) &&& (BitVec.ofInt 64 4294967295)).toNat))+(IntKind.u64.wrap ((IntKind.u64.wrap (((BitVec.ofInt 64 x) &&& (BitVec.ofInt 64 4294967295)).toNat))*(Int.fdiv y (2 ^ 32)))))) (2 ^ 32)))),(IntKind.u64.wrap (x*y)),())
def Dc:=fun x:U9=>SI.T x.1 x.2.1
abbrev aa8:aG:=⟨[.v false [CT.int .u64],.v false [CT.int .u64]],[(false,[CT.int .u64]),(false,[CT.int .u64])],Dc,[]⟩
theorem aax:aF Dr Tryz.prog 200 aa8:=aW mix .nil (by kernel_rfl) fun x=>by kernel_rfl
def Uu.T(a b:Int):Option (U9):=(Dc (a,b,())).bind fun y1=>some (y1.1,y1.2.1,())
def MW:=fun x:U9=>Uu.T x.1 x.2.1
abbrev acV:aG:=⟨[.v false [CT.int .u64],.v false [CT.int .u64]],[(true,ct1)],MW,[]⟩
theorem acd:aF Dr Tryz.prog 194 acV:=aW mix (.c aax .nil) (by kernel_rfl) fun x=>by kernel_rfl
def Us.T(a b:Int):Option (U9):=(MW ((IntKind.u64.wrap (a)),(IntKind.u64.wrap (b)),())).bind fun y1=>some (y1.1,y1.2.1,())
def wW:=fun x:U9=>Us.T x.1 x.2.1
abbrev acT:aG:=⟨[.v false [CT.int .i64],.v false [CT.int .i64]],[(true,ct1)],wW,[]⟩
theorem SG:aF Dr Tryz.prog 185 acT:=aW mix (.c acd .nil) (by kernel_rfl) fun x=>by kernel_rfl
abbrev MG:Is:=[.v false [CT.sl [CT.int .i64]]]
abbrev Lu:Os:=[(false,[CT.int .i64])]
namespace ve
def ay:Nat→List Nat×List Nat:=fun k=>if k=3 then([3,6,7,8],[2,3])else([],[])
def zrc{R:Type}(k0:Nat)(p:List Nat):Env→List Ob→ai R→Option R:=bD Tryz.prog (aP []) 18 0 ay k0 (bQ p (cZ Tryz.prog 191))
def R0{R:Type}(nx0:Y0 R)(ex0:Y1 R)(ex1:Y2 R)(zero:Int)(t6x:List (Int×Unit))(t7x t8x:Int):Option R:=cond (decide (t8x<t7x)) (if 0≤t8x∧t8x<(t6x.length:Int)then cond ((rd (0,()) t6x t8x).1 != zero) (ex0 ((rd (0,()) t6x t8x).1) zero) (nx0 zero t6x t7x (af (t8x+1)))else none) (ex1 zero)
def A0(vals:List (Int×Unit))(t2x zero:Int):Option (Int×Unit):=some (t2x,())
def A1(vals:List (Int×Unit))(zero:Int):Option (Int×Unit):=some (zero,())
def T(lo0:Y0 (Int×Unit))(vals:List (Int×Unit)):Option (Int×Unit):=lo0 0 vals (vals.length:Int) 0
def K0{R:Type}(k0:Nat)(K:ai R):ai R:=aY 0 (bg (fun env ob=>zrc k0 [1,1,1] env ob (K)) (K))
def L0:Y0 R:=fun zero t6x t7x t8x=>iter 0 [3,6,7,8] [2,3] (zrc k0 [1,1,0,1,0,0]) k [(3,.int .i64 zero),(6,.sl [CT.int .i64] t6x),(7,.int .i64 t7x),(8,.int .i64 t8x)] [] K
def H0:Y1 R:=fun t2x zero=>K .ret [(2,.int .i64 t2x),(3,.int .i64 zero)] []
def H1:Y2 R:=fun zero=>K (.exit 0) [(2,.undef),(3,.int .i64 zero)] []
theorem zs0:L0 k0 (k+1) K=R0 (L0 k0 k K) (H0 K) (H1 K):=by kernel_rfl
def G0{R:Type}(k0:Nat)(hx0:Y1 R)(hx1:Y2 R):Nat→Y0 R
 |0=>fun _ _ _ _=>none
 |k+1=>R0 (G0 k0 hx0 hx1 k) hx0 hx1
theorem aK:∀ k,L0 k0 k K=G0 k0 (H0 K) (H1 K) k:=bG rfl fun k ih=>by rw[zs0,G0];(try simp only[ih]);try rfl
variable (vals:List (Int×Unit))
def aA:ai (Int×Unit):=bW Tryz.prog [.tmp 2] MG Lu (vals,())
theorem aS:H0 (K0 k0 (aA vals))=A0 vals:=by kernel_rfl
theorem bU:H1 (K0 k0 (aA vals))=A1 vals:=by kernel_rfl
def FF:Option (Int×Unit):=T (G0 k0 (A0 vals) (A1 vals) k0) vals
theorem aQ:bZ Tryz.prog (aP []) ay k0 191 MG Lu [] (vals,())=FF k0 vals:=Eq.trans (b:=T (L0 k0 k0 (K0 k0 (aA vals))) vals) (by kernel_rfl) (by rw[FF];(try simp only[aK,aS,bU]);try rfl)
def _root_.Go.Rv.Ag:=fun x:(List (Int×Unit))×Unit=>FF (300+x.1.length) x.1
abbrev _root_.Go.Rv.adC:aG:=⟨MG,Lu,Ag,[]⟩
theorem _root_.Go.Rv.TQ:aF Dr Tryz.prog 191 adC:=dh mix .nil (by kernel_rfl) fun x=>⟨ay,_,aQ _ _⟩
end ve
def Sj.T(x:Int):Option (Bool×Unit):=some ((x != x),())
def CY:=fun x:Int×Unit=>Sj.T x.1
abbrev aaR:aG:=⟨[.v false [CT.int .u64]],[(false,[CT.bool])],CY,[]⟩
theorem aaq:aF Dr Tryz.prog 211 aaR:=aW mix .nil (by kernel_rfl) fun x=>by kernel_rfl
def Rz.T(x y:Int):Option (Int×Unit):=(CY (x,())).bind fun y1=>(CY (y,())).bind fun y2=>cond y1.1 (cond y2.1 (some (0,())) (some ((-1),()))) (cond y2.1 (some (1,())) (cond (decide (x<y)) (some ((-1),())) (cond (decide (x>y)) (some (1,())) (some (0,())))))
def zA:=fun x:U9=>Rz.T x.1 x.2.1
abbrev aah:aG:=⟨[.v false [CT.int .u64],.v false [CT.int .u64]],[(false,[CT.int .i64])],zA,[]⟩
theorem aad:aF Dr Tryz.prog 198 aah:=aW mix (.c aaq .nil) (by kernel_rfl) fun x=>by kernel_rfl
def Ux.T(a0 a1 b0 b1:Int):Option (Int×Unit):=(zA (a0,b0,())).bind fun y1=>(zA (a1,b1,())).bind fun y2=>(Ag ([(y1.1,()),(y2.1,())],())).bind fun y3=>some (y3.1,())
def MX:=fun x:U7=>Ux.T x.1 x.2.1 x.2.2.1 x.2.2.2.1
abbrev acX:aG:=⟨[.v true ct1,.v true ct1],[(false,[CT.int .i64])],MX,[]⟩
theorem acf:aF Dr Tryz.prog 192 acX:=aW mix (.c TQ (.c aad .nil)) (by kernel_rfl) fun x=>by kernel_rfl
def RN.T(a b c d:Int):Option (Int×Unit):=(wW (a,b,())).bind fun y1=>(wW (c,d,())).bind fun y2=>(MX (y1.1,y1.2.1,y2.1,y2.2.1,())).bind fun y3=>some (y3.1,())
def zB:=fun x:U7=>RN.T x.1 x.2.1 x.2.2.1 x.2.2.2.1
abbrev aar:aG:=⟨[.v false [CT.int .i64],.v false [CT.int .i64],.v false [CT.int .i64],.v false [CT.int .i64]],[(false,[CT.int .i64])],zB,[]⟩
theorem Rk:aF Dr Tryz.prog 183 aar:=aW mix (.c SG (.c acf .nil)) (by kernel_rfl) fun x=>by kernel_rfl
def SS.T(a0 a1 a2 b0 b1 b2:Int):Option (Int×Unit):=(zB (a1,b2,b1,a2,())).bind fun y1=>(qo (a0,b0,())).bind fun y2=>(Ag ([(y1.1,()),(y2.1,())],())).bind fun y3=>some (y3.1,())
def KF:=fun x:Int×U5=>SS.T x.1 x.2.1 x.2.2.1 x.2.2.2.1 x.2.2.2.2.1 x.2.2.2.2.2.1
abbrev abl:aG:=⟨[.v true ct0,.v true ct0],[(false,[CT.int .i64])],KF,[]⟩
theorem aaH:aF Dr Tryz.prog 182 abl:=aW mix (.c CO (.c Rk (.c TQ .nil))) (by kernel_rfl) fun x=>by kernel_rfl
end Go.Rv
end
