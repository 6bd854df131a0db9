/- What functions come to on pure values (printed by a program of ours). -/
import Derived.Test.YtjknhphmhfbghaaGreatPRvD
import Derived.Test.YtjknhphmhfbghaaGreatProg
import Derived.KernelRfl
set_option linter.unusedVariables false
set_option linter.unusedSimpArgs false
set_option linter.unusedSectionVars false
set_option maxRecDepth 100000
noncomputable section
namespace Go.Rv
open Go.Proofs
variable {Dr:Kn} {R:Type} (k0 k:Nat) (K:au R)
abbrev ct0:List CT:=[CT.int .i64,CT.int .i64,CT.int .i64]
abbrev ct1:List CT:=[CT.int .u64,CT.int .u64]
abbrev ay:List CT:=[CT.int .i64,CT.int .i64,CT.int .i64,CT.int .i64]
abbrev fP:List CT:=[CT.int .i64,CT.int .i64,CT.int .i64,CT.int .i64,CT.sl ay,CT.sl ay,CT.sl ct0]
abbrev dM:List CT:=[CT.int .i64,CT.int .i64,CT.int .i64,CT.int .i64,CT.int .i64]
abbrev fZ:List CT:=[CT.int .i64,CT.sl ay,CT.sl ay]
abbrev eX:List CT:=[CT.int .i64,CT.int .i64]
abbrev ct7:List CT:=[CT.sl [CT.int .i64],CT.int .i64,CT.int .i64,CT.int .i64,CT.sl [CT.bool]]
abbrev YN:List CT:=[CT.int .u64,CT.int .u64,CT.int .u64]
abbrev F9:List CT:=[CT.int .i64,CT.int .i64,CT.int .i64,CT.int .i64,CT.sl ay,CT.sl ay,CT.sl ct0,CT.int .i64,CT.int .i64,CT.int .i64]
abbrev rq:List CT:=[CT.sh [CT.int .u8],CT.int .i64,CT.int .u64,CT.int .i64]
abbrev BX:List CT:=[CT.int .i64,CT.sl ay,CT.sl ay,CT.int .i64,CT.int .i64]
abbrev YG:List CT:=[CT.int .u64,CT.int .u64,CT.bool,CT.int .i64]
abbrev KN:Kn:=Kn.no
abbrev U0:=Int×Int×Int×Int×(List (Int×Int×Int×Int×Unit))×(List (Int×Int×Int×Int×Unit))×(List (Int×Int×Int×Unit))×Int×Int×Int×Unit
abbrev U1:=Int×Int×Int×Int×(List (Int×Int×Int×Int×Unit))×(List (Int×Int×Int×Int×Unit))×(List (Int×Int×Int×Unit))×Unit
abbrev U2:=Int×(List (Int×Int×Int×Int×Unit))×(List (Int×Int×Int×Int×Unit))×Int×Int×Unit
abbrev U3:=Int×(List (Int×Int×Int×Int×Unit))×(List (Int×Int×Int×Int×Unit))×Unit
abbrev U4:=(List (Int×Unit))×Int×Int×Int×(List (Bool×Unit))×Unit
abbrev U5:=(List (Int×Unit))×Int×Int×Int×Unit
abbrev U6:=Int×Int×Int×Int×Int×Unit
abbrev U7:=Int×Int×Bool×Int×Unit
abbrev U8:=Int×Int×Int×Int×Unit
abbrev U9:=Int×Int×Int×Unit
abbrev aO:=Int×Int×Unit
abbrev Is:=List bF
abbrev Os:=List (Bool×List CT)
theorem mix:Tryz.prog.follows .mixedOrders=true:=by kernel_rfl
abbrev kN:ByteArray:=qP [0,1,2,2,3,3,3,3,4,4,4,4,4,4,4,4,5,5,5,5,5,5,5,5,5,5,5,5,5,5,5,5,6,6,6,6,6,6,6,6,6,6,6,6,6,6,6,6,6,6,6,6,6,6,6,6,6,6,6,6,6,6,6,6,7,7,7,7,7,7,7,7,7,7,7,7,7,7,7,7,7,7,7,7,7,7,7,7,7,7,7,7,7,7,7,7,7,7,7,7,7,7,7,7,7,7,7,7,7,7,7,7,7,7,7,7,7,7,7,7,7,7,7,7,7,7,7,7,8,8,8,8,8,8,8,8,8,8,8,8,8,8,8,8,8,8,8,8,8,8,8,8,8,8,8,8,8,8,8,8,8,8,8,8,8,8,8,8,8,8,8,8,8,8,8,8,8,8,8,8,8,8,8,8,8,8,8,8,8,8,8,8,8,8,8,8,8,8,8,8,8,8,8,8,8,8,8,8,8,8,8,8,8,8,8,8,8,8,8,8,8,8,8,8,8,8,8,8,8,8,8,8,8,8,8,8,8,8,8,8,8,8,8,8,8,8,8,8,8,8,8,8,8,8,8,8]
abbrev Y0(R:Type):=Int→(List (Int×Unit))→Int→Int→Option R
abbrev Y1(R:Type):=Int→Int→Option R
abbrev Y2(R:Type):=Int→Option R
abbrev Y3(R:Type):=(List U8)→Int→Int→Int→Int→Option R
abbrev Y4(R:Type):=(List U8)→Int→Int→Int→Option R
abbrev Y5(R:Type):=Int→(List U8)→Int→Int→Int→(List U8)→(List U8)→(List U9)→(List (Int×Unit))→(List (Int×Unit))→Option R
abbrev Y6(R:Type):=Int→Int→(List U8)→(List U8)→(List U9)→(List (Int×Unit))→(List (Int×Unit))→Option R
abbrev Y7(R:Type):=Int→(List U8)→Int→Int→(List U9)→(List (Int×Unit))→(List (Int×Unit))→Option R
abbrev Y8(R:Type):=(List U9)→(List (Int×Unit))→(List (Int×Unit))→Option R
abbrev Y9(R:Type):=(List U9)→Int→Int→Int→Int→Int→Option R
abbrev dQ(R:Type):=Unit→Option R
abbrev uD(R:Type):=Int→Int→Int→Int→Int→Int→Int→Int→Int→Option R
abbrev zu(R:Type):=Int→Int→Int→Int→Int→Int→Int→Int→Option R
abbrev Qp(R:Type):=Int→Int→Int→Int→Int→Int→Option R
abbrev G9(R:Type):=(List U9)→Int→Int→(List U9)→Int→Int→Int→Int→Int→Int→(List (Int×Unit))→(List (Bool×Unit))→Option R
abbrev Qo(R:Type):=(List U9)→Int→Int→Int→Int→Int→Int→(List (Int×Unit))→(List (Bool×Unit))→Option R
abbrev wz(R:Type):=Nat→Nat→(List U9)→Int→Int→Int→Int→Int→Int→(List U9)→(List (Int×Unit))→(List (Bool×Unit))→Option R
abbrev wu(R:Type):=(List U9)→Int→Int→Int→Int→Int→Int→(List U9)→(List (Int×Unit))→(List (Bool×Unit))→Option R
abbrev G8(R:Type):=Int→Int→Int→(List U9)→Int→Int→Int→Int→Int→Int→(List (Bool×Unit))→(List U9)→(List (Int×Unit))→(List (Bool×Unit))→Option R
abbrev CJ(R:Type):=Int→(List U9)→Int→Int→Int→Int→Int→Int→(List (Bool×Unit))→(List (Int×Unit))→(List (Bool×Unit))→Option R
abbrev G7(R:Type):=Int→Nat→Nat→Int→Int→(List U9)→Int→Int→Int→Int→Int→Int→(List (Bool×Unit))→(List U9)→(List (Int×Unit))→(List (Bool×Unit))→Option R
abbrev G6(R:Type):=Int→Int→Int→Int→Int→Int→Int→Int→Int→(List (Bool×Unit))→(List (Int×Unit))→(List (Bool×Unit))→Option R
abbrev Qn(R:Type):=Int→Int→Int→Int→Int→Int→(List (Int×Unit))→(List (Bool×Unit))→Option R
abbrev uz(R:Type):=Int→Int→(List aO)→(List aO)→(List (Int×Unit))→(List (Int×Unit))→(List (Int×Unit))→Option R
abbrev Qm(R:Type):=(List aO)→(List aO)→(List (Int×Unit))→(List (Int×Unit))→(List (Int×Unit))→Option R
abbrev zq(R:Type):=(List aO)→(List aO)→Option R
abbrev oh(R:Type):=(List U8)→Int→Int→Int→(List U8)→(List U8)→(List aO)→(List aO)→Option R
abbrev zo(R:Type):=Int→(List U8)→(List U8)→(List aO)→(List aO)→Option R
abbrev GZ(R:Type):=Int→Int→Int→(List U9)→Int→Int→Option R
abbrev uw(R:Type):=(List U9)→Int→Int→Int→Int→Option R
abbrev Ql(R:Type):=(List U9)→Int→Int→Int→Option R
abbrev uq(R:Type):=(List U8)→(Int×Unit)→Int→Int→Option R
abbrev uo(R:Type):=Int→Int→Int→(List U8)→(List U8)→Option R
abbrev um(R:Type):=Int→Int→(List U8)→(List U8)→Option R
abbrev zn(R:Type):=Bool→Int→(List U8)→(List U8)→Option R
abbrev zl(R:Type):=Int→(List U8)→(List U8)→Option R
abbrev iQ(R:Type):=Bool→Option R
abbrev GY(R:Type):=(List U9)→Int→Option R
abbrev GX(R:Type):=Int→Int→Int→Int→Int→(List U8)→(List U8)→(List U9)→Option R
abbrev uj(R:Type):=(List U8)→Int→Int→Int→(List U8)→(List U8)→Option R
abbrev GV(R:Type):=(List U9)→(List U9)→Int→Int→Option R
abbrev Qk(R:Type):=(List U9)→Bool→Option R
abbrev Qj(R:Type):=(List U9)→Option R
abbrev GU(R:Type):=(List U9)→Int→Int→Int→Int→Int→Int→(List U8)→(List U8)→(List U9)→Option R
abbrev GR(R:Type):=(List (Int×Unit))→Int→(List (Int×Unit))→Int→Int→Int→Option R
abbrev Qi(R:Type):=(List (Int×Unit))→(List (Int×Unit))→Int→Int→Int→Option R
abbrev ug(R:Type):=Bool→Int→Int→(List U8)→(List U8)→Int→Int→Int→Int→Int→Int→Int→Int→Int→(List U8)→(List U8)→Option R
abbrev zk(R:Type):=Bool→Int→Int→Int→Int→Int→Int→Int→Int→Int→(List U8)→(List U8)→Option R
abbrev uf(R:Type):=Int→Int→Int→(List U8)→(List U8)→Int→Int→Int→Int→Int→Int→Int→Int→Option R
abbrev Qh(R:Type):=Int→Int→(List U8)→(List U8)→Int→Int→Int→Int→Int→Int→Int→Int→(List U8)→(List U8)→Option R
abbrev Qg(R:Type):=Int→Int→(List U8)→(List U8)→Int→Int→Int→Int→Int→Int→Int→Int→Option R
abbrev Qe(R:Type):=Int→Int→(List U8)→(List U8)→Int→Int→Int→(List U8)→(List U8)→Option R
abbrev Qd(R:Type):=Int→Int→(List U8)→(List U8)→Int→Int→Int→Option R
abbrev zi(R:Type):=(List (Int×Unit))→Option R
abbrev tZ(R:Type):=Int→Int→Int→Int→(List U8)→(List U8)→(List (Int×Unit))→Option R
abbrev zh(R:Type):=Int→Int→Int→(List U8)→(List U8)→(List (Int×Unit))→Option R
abbrev GN(R:Type):=Int→Int→(List U8)→(List U8)→(List (Int×Unit))→Option R
abbrev GL(R:Type):=Int→Int→Int→(List U8)→(List U8)→(List (Int×Unit))→(List aO)→(List U9)→Option R
abbrev Qc(R:Type):=Int→Int→(List U8)→(List U8)→(List aO)→(List U9)→Option R
abbrev GK(R:Type):=Int→Int→Int→(List U8)→(List U8)→(List aO)→(List U9)→Option R
abbrev Qb(R:Type):=(List aO)→(List U9)→Option R
abbrev tY(R:Type):=Int→Int→Int→Int→Int→Option R
abbrev rE(R:Type):=Int→Int→Int→Int→Option R
abbrev GI(R:Type):=Int→Int→Int→Int→Int→Int→Int→Option R
abbrev GH(R:Type):=Int→Int→Int→Int→Int→Int→Int→Int→Int→Int→Int→Int→Option R
abbrev wo(R:Type):=(List U9)→Int→Int→Int→(List (Int×Unit))→(List (Bool×Unit))→Option R
abbrev lY(R:Type):=(List U9)→Int→Int→(List (Int×Unit))→(List (Bool×Unit))→Option R
abbrev tX(R:Type):=(List U9)→Int→Int→Int→Int→(List (Int×Unit))→(List (Bool×Unit))→Option R
abbrev Qa(R:Type):=(List U9)→Int→(List (Int×Unit))→(List (Bool×Unit))→Option R
abbrev P9(R:Type):=(List (Int×Unit))→(List (Int×Unit))→Option R
abbrev Gz(R:Type):=Int→Int→Int→(List U8)→(List U8)→(List (Int×Unit))→(List (Int×Unit))→(List aO)→(List (Int×Unit))→Option R
abbrev vZ(R:Type):=Int→Int→(List U8)→(List U8)→(List (Int×Unit))→(List (Int×Unit))→Option R
abbrev Gy(R:Type):=Int→Int→(List U8)→(List U8)→(List aO)→(List (Int×Unit))→Option R
abbrev P8(R:Type):=(List aO)→Option R
abbrev Gx(R:Type):=(List U9)→Bool→Int→Int→Int→Int→(List U9)→(List U9)→Option R
abbrev P7(R:Type):=Bool→Int→Int→Int→(List U9)→(List U9)→Option R
abbrev Gw(R:Type):=Int→Int→Int→Int→Int→Int→(List U8)→(List U8)→(List U9)→Int→Int→Int→Int→Int→Int→Int→Int→Int→Int→Int→Int→Int→Int→Int→Int→(List aO)→(List U8)→(List U8)→(List U9)→Option R
abbrev P6(R:Type):=Int→Int→Int→Int→Int→(List U8)→(List U8)→(List U9)→Int→Int→Int→Int→Int→Int→Int→Int→Int→Int→Int→Int→Int→Int→Int→Int→(List U8)→(List U8)→(List U9)→Option R
abbrev Gv(R:Type):=(List (Int×Unit))→Int→Int→Option R
abbrev Gu(R:Type):=(List (Int×Unit))→Int→Int→Int→Int→Int→(List U8)→(List U8)→(List U9)→Int→Int→Int→Int→Int→Int→Int→Int→(List U8)→(List U8)→(List U9)→Option R
abbrev P5(R:Type):=Int→Int→Int→Int→Int→Int→Int→Int→(List U8)→(List U8)→(List U9)→Option R
abbrev vY(R:Type):=Int→Int→Int→Int→Int→(List U8)→(List U8)→(List U9)→Int→Int→Int→Int→Int→Int→Int→(List (Int×Unit))→Option R
abbrev zf(R:Type):=Int→Int→Int→Int→(List U8)→(List U8)→(List U9)→Int→Int→Int→Int→Int→Int→Int→(List (Int×Unit))→Option R
abbrev Gt(R:Type):=Int→(List (Int×Unit))→Int→Int→Int→Int→Int→Int→Int→(List U6)→(List U8)→(List U8)→(List U9)→Option R
abbrev Gs(R:Type):=Int→(List (Int×Unit))→Int→Int→Int→Int→Int→Int→Int→(List U8)→(List U8)→(List U9)→(List U6)→Option R
abbrev CG(R:Type):=(List (Int×Unit))→Int→Int→Int→(List U6)→Option R
abbrev Gq(R:Type):=(List U6)→Int→Int→Int→Int→Int→(List U9)→Int→Int→Int→Int→(List U8)→(List U8)→(List U9)→Option R
abbrev PZ(R:Type):=Int→Int→Int→Int→(List U9)→Int→Int→Int→Int→(List U8)→(List U8)→(List U9)→Option R
abbrev Gp(R:Type):=Int→(List (Int×Unit))→Int→Int→Int→Int→Int→Int→Int→Int→Int→Int→Int→(List U8)→(List U8)→(List U9)→Option R
abbrev PY(R:Type):=(List (Int×Unit))→Int→Int→Int→Int→Int→Int→Int→Int→Int→Int→Int→(List U8)→(List U8)→(List U9)→Option R
abbrev Gn(R:Type):=(List U6)→Int→Int→Int→Int→Int→Int→(List U9)→(List U8)→(List U8)→(List U9)→Option R
abbrev Gm(R:Type):=(List U6)→Int→Int→Int→Int→Int→Int→(List U8)→(List U8)→(List U9)→(List U9)→Option R
abbrev Gl(R:Type):=Int→Int→Int→Int→(List U8)→(List U8)→(List U9)→(List U9)→Option R
abbrev Gj(R:Type):=Int→Int→Int→Int→(List U9)→(List U8)→(List U8)→(List U9)→Option R
abbrev tV(R:Type):=Int→Int→(List U8)→(List U8)→Int→(List U8)→(List U8)→Option R
abbrev PX(R:Type):=Bool→Int→(List U8)→(List U8)→Int→(List U8)→(List U8)→Option R
abbrev PW(R:Type):=Int→(List U8)→(List U8)→Int→(List U8)→(List U8)→Option R
abbrev Gi(R:Type):=(List U9)→(List U9)→Int→Option R
abbrev Gg(R:Type):=Int→Int→Int→Int→Int→(List U6)→(List U9)→Int→Int→Int→Int→(List U8)→(List U8)→(List U9)→(List U8)→(List U8)→(List U9)→Option R
abbrev Gf(R:Type):=Int→Int→Int→Int→Int→(List U6)→(List U9)→Int→Int→Int→Int→(List U8)→(List U8)→(List U9)→Option R
abbrev FZ(R:Type):=Bool→Int→Int→Int→Int→(List U6)→Int→Int→Int→Int→(List U8)→(List U8)→(List U9)→Option R
abbrev FY(R:Type):=Int→Int→Int→Int→(List U6)→Int→Int→Int→Int→(List U8)→(List U8)→(List U9)→Option R
abbrev FX(R:Type):=Bool→Int→Int→Int→Int→(List U6)→Int→Int→Int→Int→(List U8)→(List U8)→(List U9)→(List U8)→(List U8)→(List U9)→Option R
abbrev FW(R:Type):=Int→Int→Int→Int→(List U6)→Int→Int→Int→Int→(List U8)→(List U8)→(List U9)→(List U8)→(List U8)→(List U9)→Option R
def Le.T(x:Int):Option (Bool×Unit):=some ((x != x),())
def wR:=fun x:Int×Unit=>Le.T x.1
abbrev aaR:aG:=⟨[.v false [CT.int .i64]],[(false,[CT.bool])],wR,[]⟩
theorem aal:aF Dr Tryz.prog 122 aaR:=aZ mix .nil (by kernel_rfl) fun x=>by kernel_rfl
def J7.T(x y:Int):Option (Int×Unit):=(wR (x,())).bind fun y1=>(wR (y,())).bind fun y2=>cond y1.1 (cond y2.1 (some (0,())) (some ((-1),()))) (cond y2.1 (some (1,())) (cond (decide (x<y)) (some ((-1),())) (cond (decide (x>y)) (some (1,())) (some (0,())))))
def qx:=fun x:aO=>J7.T x.1 x.2.1
abbrev Z8:aG:=⟨[.v false [CT.int .i64],.v false [CT.int .i64]],[(false,[CT.int .i64])],qx,[]⟩
theorem CX:aF Dr Tryz.prog 105 Z8:=aZ mix (.c aal .nil) (by kernel_rfl) fun x=>by kernel_rfl
def Si.T(x y:Int):Option (aO):=some ((IntKind.u64.wrap ((IntKind.u64.wrap ((IntKind.u64.wrap ((Int.fdiv x (2 ^ 32))*(Int.fdiv y (2 ^ 32))))+(Int.fdiv (IntKind.u64.wrap ((IntKind.u64.wrap ((Int.fdiv x (2 ^ 32))*(IntKind.u64.wrap (((BitVec.ofInt 64 y) &&& (BitVec.ofInt 64 4294967295)).toNat))))+(Int.fdiv (IntKind.u64.wrap ((IntKind.u64.wrap (((BitVec.ofInt 64 x) &&& (BitVec.ofInt 64 4294967295)).toNat))*(IntKind.u64.wrap (((BitVec.ofInt 64 y) &&& (BitVec.ofInt 64 4294967295)).toNat)))) (2 ^ 32)))) (2 ^ 32))))+(Int.fdiv (IntKind.u64.wrap ((IntKind.u64.wrap (((BitVec.ofInt 64 (IntKind.u64.wrap ((IntKind.u64.wrap ((Int.fdiv x (2 ^ 32))*(IntKind.u64.wrap (((BitVec.ofInt 64 y) &&& (BitVec.ofInt 64 4294967295)).toNat))))+(Int.fdiv (IntKind.u64.wrap ((IntKind.u64.wrap (((BitVec.ofInt 64 x) &&& (BitVec.ofInt 64 4294967295)).toNat))*(IntKind.u64.wrap (((BitVec.ofInt 64 y) &&& (BitVec.ofInt 64 4294967295)).toNat)))) (2 ^ 32))))) &&& (BitVec.ofInt 64 4294967295)).toNat))+(IntKind.u64.wrap ((IntKind.u64.wrap (((BitVec.ofInt 64 x) &&& (BitVec.ofInt 64 4294967295)).toNat))*(Int.fdiv y (2 ^ 32)))))) (2 ^ 32)))),(IntKind.u64.wrap (x*y)),())
def Dp:=fun x:aO=>Si.T x.1 x.2.1
abbrev aaK:aG:=⟨[.v false [CT.int .u64],.v false [CT.int .u64]],[(false,[CT.int .u64]),(false,[CT.int .u64])],Dp,[]⟩
theorem aae:aF Dr Tryz.prog 184 aaK:=aZ mix .nil (by kernel_rfl) fun x=>by kernel_rfl
def Ud.T(a b:Int):Option (aO):=(Dp (a,b,())).bind fun y1=>some (y1.1,y1.2.1,())
def LK:=fun x:aO=>Ud.T x.1 x.2.1
abbrev abM:aG:=⟨[.v false [CT.int .u64],.v false [CT.int .u64]],[(true,ct1)],LK,[]⟩
theorem abl:aF Dr Tryz.prog 175 abM:=aZ mix (.c aae .nil) (by kernel_rfl) fun x=>by kernel_rfl
def Ub.T(a b:Int):Option (aO):=(LK ((IntKind.u64.wrap (a)),(IntKind.u64.wrap (b)),())).bind fun y1=>some (y1.1,y1.2.1,())
def xh:=fun x:aO=>Ub.T x.1 x.2.1
abbrev abK:aG:=⟨[.v false [CT.int .i64],.v false [CT.int .i64]],[(true,ct1)],xh,[]⟩
theorem RX:aF Dr Tryz.prog 159 abK:=aZ mix (.c abl .nil) (by kernel_rfl) fun x=>by kernel_rfl
abbrev LC:Is:=[.v false [CT.sl [CT.int .i64]]]
abbrev KR:Os:=[(false,[CT.int .i64])]
namespace vg
def aC:Nat→List Nat×List Nat:=fun k=>if k=3 then([3,6,7,8],[2,3])else([],[])
def zrc{R:Type}(k0:Nat)(p:List Nat):Env→List Ob→au R→Option R:=bJ Tryz.prog (aU []) 18 0 aC k0 (cu p (dG Tryz.prog 172))
def R0{R:Type}(nx0:Y0 R)(ex0:Y1 R)(ex1:Y2 R)(zero:Int)(t6x:List (Int×Unit))(t7x t8x:Int):Option R:=cond (decide (t8x<t7x)) (if 0≤t8x∧t8x<(t6x.length:Int)then cond ((rd (0,()) t6x t8x).1 != zero) (ex0 ((rd (0,()) t6x t8x).1) zero) (nx0 zero t6x t7x (af (t8x+1)))else none) (ex1 zero)
def A0(vals:List (Int×Unit))(t2x zero:Int):Option (Int×Unit):=some (t2x,())
def A1(vals:List (Int×Unit))(zero:Int):Option (Int×Unit):=some (zero,())
def T(lo0:Y0 (Int×Unit))(vals:List (Int×Unit)):Option (Int×Unit):=lo0 0 vals (vals.length:Int) 0
def K0{R:Type}(k0:Nat)(K:au R):au R:=bD 0 (bG (fun env ob=>zrc k0 [1,1,1] env ob (K)) (K))
def L0:Y0 R:=fun zero t6x t7x t8x=>iter 0 [3,6,7,8] [2,3] (zrc k0 [1,1,0,1,0,0]) k [(3,.int .i64 zero),(6,.sl [CT.int .i64] t6x),(7,.int .i64 t7x),(8,.int .i64 t8x)] [] K
def H0:Y1 R:=fun t2x zero=>K .ret [(2,.int .i64 t2x),(3,.int .i64 zero)] []
def H1:Y2 R:=fun zero=>K (.exit 0) [(2,.undef),(3,.int .i64 zero)] []
theorem zs0:L0 k0 (k+1) K=R0 (L0 k0 k K) (H0 K) (H1 K):=by kernel_rfl
def G0{R:Type}(k0:Nat)(hx0:Y1 R)(hx1:Y2 R):Nat→Y0 R
 |0=>fun _ _ _ _=>none
 |k+1=>R0 (G0 k0 hx0 hx1 k) hx0 hx1
theorem aP:∀ k,L0 k0 k K=G0 k0 (H0 K) (H1 K) k:=bK rfl fun k ih=>by rw[zs0,G0];(try simp only[ih]);try rfl
variable (vals:List (Int×Unit))
def aB:au (Int×Unit):=dh Tryz.prog [.tmp 2] LC KR (vals,())
theorem aY:H0 (K0 k0 (aB vals))=A0 vals:=by kernel_rfl
theorem cZ:H1 (K0 k0 (aB vals))=A1 vals:=by kernel_rfl
def FF:Option (Int×Unit):=T (G0 k0 (A0 vals) (A1 vals) k0) vals
theorem aX:di Tryz.prog (aU []) aC k0 172 LC KR [] (vals,())=FF k0 vals:=Eq.trans (b:=T (L0 k0 k0 (K0 k0 (aB vals))) vals) (by kernel_rfl) (by rw[FF];(try simp only[aP,aY,cZ]);try rfl)
def _root_.Go.Rv.Aq:=fun x:(List (Int×Unit))×Unit=>FF (300+x.1.length) x.1
abbrev _root_.Go.Rv.acg:aG:=⟨LC,KR,Aq,[]⟩
theorem _root_.Go.Rv.TI:aF Dr Tryz.prog 172 acg:=dH mix .nil (by kernel_rfl) fun x=>⟨aC,_,aX _ _⟩
end vg
def Ru.T(x:Int):Option (Bool×Unit):=some ((x != x),())
def Dk:=fun x:Int×Unit=>Ru.T x.1
abbrev aau:aG:=⟨[.v false [CT.int .u64]],[(false,[CT.bool])],Dk,[]⟩
theorem Z4:aF Dr Tryz.prog 195 aau:=aZ mix .nil (by kernel_rfl) fun x=>by kernel_rfl
def QS.T(x y:Int):Option (Int×Unit):=(Dk (x,())).bind fun y1=>(Dk (y,())).bind fun y2=>cond y1.1 (cond y2.1 (some (0,())) (some ((-1),()))) (cond y2.1 (some (1,())) (cond (decide (x<y)) (some ((-1),())) (cond (decide (x>y)) (some (1,())) (some (0,())))))
def zD:=fun x:aO=>QS.T x.1 x.2.1
abbrev ZT:aG:=⟨[.v false [CT.int .u64],.v false [CT.int .u64]],[(false,[CT.int .i64])],zD,[]⟩
theorem ZN:aF Dr Tryz.prog 182 ZT:=aZ mix (.c Z4 .nil) (by kernel_rfl) fun x=>by kernel_rfl
def Uf.T(a0 a1 b0 b1:Int):Option (Int×Unit):=(zD (a0,b0,())).bind fun y1=>(zD (a1,b1,())).bind fun y2=>(Aq ([(y1.1,()),(y2.1,())],())).bind fun y3=>some (y3.1,())
def LM:=fun x:U8=>Uf.T x.1 x.2.1 x.2.2.1 x.2.2.2.1
abbrev abO:aG:=⟨[.v true ct1,.v true ct1],[(false,[CT.int .i64])],LM,[]⟩
theorem abn:aF Dr Tryz.prog 173 abO:=aZ mix (.c TI (.c ZN .nil)) (by kernel_rfl) fun x=>by kernel_rfl
def QZ.T(a b c d:Int):Option (Int×Unit):=(xh (a,b,())).bind fun y1=>(xh (c,d,())).bind fun y2=>(LM (y1.1,y1.2.1,y2.1,y2.2.1,())).bind fun y3=>some (y3.1,())
def zG:=fun x:U8=>QZ.T x.1 x.2.1 x.2.2.1 x.2.2.2.1
abbrev Z5:aG:=⟨[.v false [CT.int .i64],.v false [CT.int .i64],.v false [CT.int .i64],.v false [CT.int .i64]],[(false,[CT.int .i64])],zG,[]⟩
theorem QB:aF Dr Tryz.prog 157 Z5:=aZ mix (.c RX (.c abn .nil)) (by kernel_rfl) fun x=>by kernel_rfl
def Sm.T(a0 a1 a2 b0 b1 b2:Int):Option (Int×Unit):=(zG (a1,b2,b1,a2,())).bind fun y1=>(qx (a0,b0,())).bind fun y2=>(Aq ([(y1.1,()),(y2.1,())],())).bind fun y3=>some (y3.1,())
def J8:=fun x:Int×U6=>Sm.T x.1 x.2.1 x.2.2.1 x.2.2.2.1 x.2.2.2.2.1 x.2.2.2.2.2.1
abbrev aaO:aG:=⟨[.v true ct0,.v true ct0],[(false,[CT.int .i64])],J8,[]⟩
theorem aaj:aF Dr Tryz.prog 156 aaO:=aZ mix (.c CX (.c QB (.c TI .nil))) (by kernel_rfl) fun x=>by kernel_rfl
end Go.Rv
end
