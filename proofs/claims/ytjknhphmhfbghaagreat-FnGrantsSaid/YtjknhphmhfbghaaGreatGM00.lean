/- What functions come to on pure values (printed by a program of ours). -/
import Derived.Test.YtjknhphmhfbghaaGreatGRvD
import Derived.Test.YtjknhphmhfbghaaGreatProg
import Derived.KernelRfl
set_option linter.unusedVariables false
set_option linter.unusedSimpArgs false
set_option linter.unusedSectionVars false
set_option maxRecDepth 100000
noncomputable section
namespace Go.Rv
open Go.Proofs
variable {Dr:Kn} {R:Type} (k0 k:Nat) (K:au R)
abbrev ct0:List CT:=[CT.int .i64,CT.int .i64,CT.int .i64]
abbrev ct1:List CT:=[CT.int .u64,CT.int .u64]
abbrev aA:List CT:=[CT.int .i64,CT.int .i64,CT.int .i64,CT.int .i64]
abbrev jh:List CT:=[CT.int .i64,CT.int .i64,CT.int .i64,CT.int .i64,CT.sl aA,CT.sl aA,CT.sl ct0]
abbrev gy:List CT:=[CT.int .i64,CT.int .i64,CT.int .i64,CT.int .i64,CT.int .i64]
abbrev gu:List CT:=[CT.int .i64,CT.sl aA,CT.sl aA]
abbrev dX:List CT:=[CT.int .i64,CT.int .i64]
abbrev ct7:List CT:=[CT.sl [CT.int .i64],CT.int .i64,CT.int .i64,CT.int .i64,CT.sl [CT.bool]]
abbrev X9:List CT:=[CT.int .u64,CT.int .u64,CT.int .u64]
abbrev qW:List CT:=[CT.sh [CT.int .u8],CT.int .i64,CT.int .u64,CT.int .i64]
abbrev Fz:List CT:=[CT.int .i64,CT.int .i64,CT.int .i64,CT.int .i64,CT.sl aA,CT.sl aA,CT.sl ct0,CT.int .i64,CT.int .i64,CT.int .i64]
abbrev BB:List CT:=[CT.int .i64,CT.sl aA,CT.sl aA,CT.int .i64,CT.int .i64]
abbrev X4:List CT:=[CT.int .u64,CT.int .u64,CT.bool,CT.int .i64]
abbrev KN:Kn:=Kn.no
abbrev U0:=Int×Int×Int×Int×(List (Int×Int×Int×Int×Unit))×(List (Int×Int×Int×Int×Unit))×(List (Int×Int×Int×Unit))×Int×Int×Int×Unit
abbrev U1:=Int×Int×Int×Int×(List (Int×Int×Int×Int×Unit))×(List (Int×Int×Int×Int×Unit))×(List (Int×Int×Int×Unit))×Unit
abbrev U2:=Int×(List (Int×Int×Int×Int×Unit))×(List (Int×Int×Int×Int×Unit))×Int×Int×Unit
abbrev U3:=Int×(List (Int×Int×Int×Int×Unit))×(List (Int×Int×Int×Int×Unit))×Unit
abbrev U4:=(List (Int×Unit))×Int×Int×Int×(List (Bool×Unit))×Unit
abbrev U5:=(List (Int×Unit))×Int×Int×Int×Unit
abbrev U6:=Int×Int×Int×Int×Int×Unit
abbrev U7:=Int×Int×Bool×Int×Unit
abbrev U8:=Int×Int×Int×Int×Unit
abbrev U9:=Int×Int×Int×Unit
abbrev aK:=Int×Int×Unit
abbrev Is:=List bD
abbrev Os:=List (Bool×List CT)
theorem mix:Tryz.prog.follows .mixedOrders=true:=by kernel_rfl
abbrev kL:ByteArray:=qI [0,1,2,2,3,3,3,3,4,4,4,4,4,4,4,4,5,5,5,5,5,5,5,5,5,5,5,5,5,5,5,5,6,6,6,6,6,6,6,6,6,6,6,6,6,6,6,6,6,6,6,6,6,6,6,6,6,6,6,6,6,6,6,6,7,7,7,7,7,7,7,7,7,7,7,7,7,7,7,7,7,7,7,7,7,7,7,7,7,7,7,7,7,7,7,7,7,7,7,7,7,7,7,7,7,7,7,7,7,7,7,7,7,7,7,7,7,7,7,7,7,7,7,7,7,7,7,7,8,8,8,8,8,8,8,8,8,8,8,8,8,8,8,8,8,8,8,8,8,8,8,8,8,8,8,8,8,8,8,8,8,8,8,8,8,8,8,8,8,8,8,8,8,8,8,8,8,8,8,8,8,8,8,8,8,8,8,8,8,8,8,8,8,8,8,8,8,8,8,8,8,8,8,8,8,8,8,8,8,8,8,8,8,8,8,8,8,8,8,8,8,8,8,8,8,8,8,8,8,8,8,8,8,8,8,8,8,8,8,8,8,8,8,8,8,8,8,8,8,8,8,8,8,8,8,8]
abbrev Y0(R:Type):=Int→(List (Int×Unit))→Int→Int→Option R
abbrev Y1(R:Type):=Int→Int→Option R
abbrev Y2(R:Type):=Int→Option R
abbrev Y3(R:Type):=(List U8)→Int→Int→Int→Int→Option R
abbrev Y4(R:Type):=(List U8)→Int→Int→Int→Option R
abbrev Y5(R:Type):=Int→(List U8)→Int→Int→Int→(List U8)→(List U8)→(List U9)→(List (Int×Unit))→(List (Int×Unit))→Option R
abbrev Y6(R:Type):=Int→Int→(List U8)→(List U8)→(List U9)→(List (Int×Unit))→(List (Int×Unit))→Option R
abbrev Y7(R:Type):=Int→(List U8)→Int→Int→(List U9)→(List (Int×Unit))→(List (Int×Unit))→Option R
abbrev Y8(R:Type):=(List U9)→(List (Int×Unit))→(List (Int×Unit))→Option R
abbrev Y9(R:Type):=(List U9)→Int→Int→Int→Int→Int→Option R
abbrev dY(R:Type):=Unit→Option R
abbrev uj(R:Type):=Int→Int→Int→Int→Int→Int→Int→Int→Int→Option R
abbrev zh(R:Type):=Int→Int→Int→Int→Int→Int→Int→Int→Option R
abbrev Pq(R:Type):=Int→Int→Int→Int→Int→Int→Option R
abbrev Gq(R:Type):=(List U9)→Int→Int→(List U9)→Int→Int→Int→Int→Int→Int→(List (Int×Unit))→(List (Bool×Unit))→Option R
abbrev Po(R:Type):=(List U9)→Int→Int→Int→Int→Int→Int→(List (Int×Unit))→(List (Bool×Unit))→Option R
abbrev vV(R:Type):=Nat→Nat→(List U9)→Int→Int→Int→Int→Int→Int→(List U9)→(List (Int×Unit))→(List (Bool×Unit))→Option R
abbrev vU(R:Type):=(List U9)→Int→Int→Int→Int→Int→Int→(List U9)→(List (Int×Unit))→(List (Bool×Unit))→Option R
abbrev Gp(R:Type):=Int→Int→Int→(List U9)→Int→Int→Int→Int→Int→Int→(List (Bool×Unit))→(List U9)→(List (Int×Unit))→(List (Bool×Unit))→Option R
abbrev BN(R:Type):=Int→(List U9)→Int→Int→Int→Int→Int→Int→(List (Bool×Unit))→(List (Int×Unit))→(List (Bool×Unit))→Option R
abbrev Gn(R:Type):=Int→Nat→Nat→Int→Int→(List U9)→Int→Int→Int→Int→Int→Int→(List (Bool×Unit))→(List U9)→(List (Int×Unit))→(List (Bool×Unit))→Option R
abbrev Gm(R:Type):=Int→Int→Int→Int→Int→Int→Int→Int→Int→(List (Bool×Unit))→(List (Int×Unit))→(List (Bool×Unit))→Option R
abbrev Pn(R:Type):=Int→Int→Int→Int→Int→Int→(List (Int×Unit))→(List (Bool×Unit))→Option R
abbrev ug(R:Type):=Int→Int→(List aK)→(List aK)→(List (Int×Unit))→(List (Int×Unit))→(List (Int×Unit))→Option R
abbrev Pm(R:Type):=(List aK)→(List aK)→(List (Int×Unit))→(List (Int×Unit))→(List (Int×Unit))→Option R
abbrev zf(R:Type):=(List aK)→(List aK)→Option R
abbrev nU(R:Type):=(List U8)→Int→Int→Int→(List U8)→(List U8)→(List aK)→(List aK)→Option R
abbrev yZ(R:Type):=Int→(List U8)→(List U8)→(List aK)→(List aK)→Option R
abbrev Gl(R:Type):=Int→Int→Int→(List U9)→Int→Int→Option R
abbrev uf(R:Type):=(List U9)→Int→Int→Int→Int→Option R
abbrev Pj(R:Type):=(List U9)→Int→Int→Int→Option R
abbrev tZ(R:Type):=(List U8)→(Int×Unit)→Int→Int→Option R
abbrev Gj(R:Type):=(List (Int×Unit))→Int→(List (Int×Unit))→Int→Int→Int→Option R
abbrev Ph(R:Type):=(List (Int×Unit))→(List (Int×Unit))→Int→Int→Int→Option R
abbrev tY(R:Type):=Int→Int→Int→(List U8)→(List U8)→Option R
abbrev tX(R:Type):=Int→Int→(List U8)→(List U8)→Option R
abbrev yY(R:Type):=Bool→Int→(List U8)→(List U8)→Option R
abbrev yX(R:Type):=Int→(List U8)→(List U8)→Option R
abbrev ji(R:Type):=Bool→Option R
abbrev Gi(R:Type):=(List U9)→Int→Option R
abbrev Gg(R:Type):=Int→Int→Int→Int→Int→(List U8)→(List U8)→(List U9)→Option R
abbrev tV(R:Type):=Bool→Int→Int→(List U8)→(List U8)→Int→Int→Int→Int→Int→Int→Int→Int→Int→(List U8)→(List U8)→Option R
abbrev yV(R:Type):=Bool→Int→Int→Int→Int→Int→Int→Int→Int→Int→(List U8)→(List U8)→Option R
abbrev tN(R:Type):=Int→Int→Int→(List U8)→(List U8)→Int→Int→Int→Int→Int→Int→Int→Int→Option R
abbrev Pg(R:Type):=Int→Int→(List U8)→(List U8)→Int→Int→Int→Int→Int→Int→Int→Int→(List U8)→(List U8)→Option R
abbrev Pe(R:Type):=Int→Int→(List U8)→(List U8)→Int→Int→Int→Int→Int→Int→Int→Int→Option R
abbrev O9(R:Type):=Int→Int→(List U8)→(List U8)→Int→Int→Int→(List U8)→(List U8)→Option R
abbrev O8(R:Type):=Int→Int→(List U8)→(List U8)→Int→Int→Int→Option R
abbrev yU(R:Type):=(List (Int×Unit))→Option R
abbrev tK(R:Type):=Int→Int→Int→Int→(List U8)→(List U8)→(List (Int×Unit))→Option R
abbrev yT(R:Type):=Int→Int→Int→(List U8)→(List U8)→(List (Int×Unit))→Option R
abbrev Gf(R:Type):=Int→Int→(List U8)→(List U8)→(List (Int×Unit))→Option R
abbrev F9(R:Type):=Int→Int→Int→(List U8)→(List U8)→(List (Int×Unit))→(List aK)→(List U9)→Option R
abbrev O7(R:Type):=Int→Int→(List U8)→(List U8)→(List aK)→(List U9)→Option R
abbrev F8(R:Type):=Int→Int→Int→(List U8)→(List U8)→(List aK)→(List U9)→Option R
abbrev O6(R:Type):=(List aK)→(List U9)→Option R
abbrev tJ(R:Type):=Int→Int→Int→Int→Int→Option R
abbrev qX(R:Type):=Int→Int→Int→Int→Option R
abbrev F7(R:Type):=Int→Int→Int→Int→Int→Int→Int→Option R
abbrev F6(R:Type):=Int→Int→Int→Int→Int→Int→Int→Int→Int→Int→Int→Int→Option R
abbrev vT(R:Type):=(List U9)→Int→Int→Int→(List (Int×Unit))→(List (Bool×Unit))→Option R
abbrev lW(R:Type):=(List U9)→Int→Int→(List (Int×Unit))→(List (Bool×Unit))→Option R
abbrev tH(R:Type):=(List U9)→Int→Int→Int→Int→(List (Int×Unit))→(List (Bool×Unit))→Option R
abbrev O5(R:Type):=(List U9)→Int→(List (Int×Unit))→(List (Bool×Unit))→Option R
abbrev O4(R:Type):=(List (Int×Unit))→(List (Int×Unit))→Option R
abbrev F5(R:Type):=Int→Int→Int→(List U8)→(List U8)→(List (Int×Unit))→(List (Int×Unit))→(List aK)→(List (Int×Unit))→Option R
abbrev vS(R:Type):=Int→Int→(List U8)→(List U8)→(List (Int×Unit))→(List (Int×Unit))→Option R
abbrev FZ(R:Type):=Int→Int→(List U8)→(List U8)→(List aK)→(List (Int×Unit))→Option R
abbrev O3(R:Type):=(List aK)→Option R
abbrev FY(R:Type):=(List U9)→Bool→Int→Int→Int→Int→(List U9)→(List U9)→Option R
abbrev O1(R:Type):=Bool→Int→Int→Int→(List U9)→(List U9)→Option R
abbrev FX(R:Type):=Int→Int→Int→Int→Int→Int→(List U8)→(List U8)→(List U9)→Int→Int→Int→Int→Int→Int→Int→Int→Int→Int→Int→Int→Int→Int→Int→Int→(List aK)→(List U8)→(List U8)→(List U9)→Option R
abbrev O0(R:Type):=Int→Int→Int→Int→Int→(List U8)→(List U8)→(List U9)→Int→Int→Int→Int→Int→Int→Int→Int→Int→Int→Int→Int→Int→Int→Int→Int→(List U8)→(List U8)→(List U9)→Option R
abbrev FW(R:Type):=(List (Int×Unit))→Int→Int→Option R
abbrev FV(R:Type):=(List (Int×Unit))→Int→Int→Int→Int→Int→(List U8)→(List U8)→(List U9)→Int→Int→Int→Int→Int→Int→Int→Int→(List U8)→(List U8)→(List U9)→Option R
abbrev OZ(R:Type):=Int→Int→Int→Int→Int→Int→Int→Int→(List U8)→(List U8)→(List U9)→Option R
abbrev vP(R:Type):=Int→Int→Int→Int→Int→(List U8)→(List U8)→(List U9)→Int→Int→Int→Int→Int→Int→Int→(List (Int×Unit))→Option R
abbrev yS(R:Type):=Int→Int→Int→Int→(List U8)→(List U8)→(List U9)→Int→Int→Int→Int→Int→Int→Int→(List (Int×Unit))→Option R
abbrev FU(R:Type):=Int→(List (Int×Unit))→Int→Int→Int→Int→Int→Int→Int→(List U6)→(List U8)→(List U8)→(List U9)→Option R
abbrev FT(R:Type):=Int→(List (Int×Unit))→Int→Int→Int→Int→Int→Int→Int→(List U8)→(List U8)→(List U9)→(List U6)→Option R
abbrev BM(R:Type):=(List (Int×Unit))→Int→Int→Int→(List U6)→Option R
abbrev FQ(R:Type):=(List U6)→Int→Int→Int→Int→Int→(List U9)→Int→Int→Int→Int→(List U8)→(List U8)→(List U9)→Option R
abbrev OY(R:Type):=Int→Int→Int→Int→(List U9)→Int→Int→Int→Int→(List U8)→(List U8)→(List U9)→Option R
abbrev FP(R:Type):=Int→(List (Int×Unit))→Int→Int→Int→Int→Int→Int→Int→Int→Int→Int→Int→(List U8)→(List U8)→(List U9)→Option R
abbrev OX(R:Type):=(List (Int×Unit))→Int→Int→Int→Int→Int→Int→Int→Int→Int→Int→Int→(List U8)→(List U8)→(List U9)→Option R
abbrev tC(R:Type):=(List U8)→Int→Int→Int→(List U8)→(List U8)→Option R
abbrev FO(R:Type):=(List U9)→(List U9)→Int→Int→Option R
abbrev OW(R:Type):=(List U9)→Bool→Option R
abbrev OV(R:Type):=(List U9)→Option R
abbrev FN(R:Type):=(List U9)→Int→Int→Int→Int→Int→Int→(List U8)→(List U8)→(List U9)→Option R
abbrev FM(R:Type):=Int→Int→Int→Int→Int→Int→Int→Int→Int→Int→Int→Int→Int→Int→Int→Int→Int→Int→(List aK)→(List U8)→(List U8)→(List U9)→(List U8)→(List U8)→(List U9)→Option R
abbrev OU(R:Type):=Int→Int→Int→Int→Int→Int→Int→Int→Int→Int→Int→Int→Int→Int→Int→Int→Int→(List U8)→(List U8)→(List U9)→(List U8)→(List U8)→(List U9)→Option R
abbrev FK(R:Type):=Int→Int→Int→Int→Int→Int→Int→Int→Int→Int→Int→Int→Int→(List U8)→(List U8)→(List U9)→Option R
def J7.T(x:Int):Option (Bool×Unit):=some ((x != x),())
def wI:=fun x:Int×Unit=>J7.T x.1
abbrev Z4:aG:=⟨[.v false [CT.int .i64]],[(false,[CT.bool])],wI,[]⟩
theorem Zx:aF Dr Tryz.prog 122 Z4:=bg mix .nil (by kernel_rfl) fun x=>by kernel_rfl
def Jw.T(x y:Int):Option (Int×Unit):=(wI (x,())).bind fun y1=>(wI (y,())).bind fun y2=>cond y1.1 (cond y2.1 (some (0,())) (some ((-1),()))) (cond y2.1 (some (1,())) (cond (decide (x<y)) (some ((-1),())) (cond (decide (x>y)) (some (1,())) (some (0,())))))
def qi:=fun x:aK=>Jw.T x.1 x.2.1
abbrev Zm:aG:=⟨[.v false [CT.int .i64],.v false [CT.int .i64]],[(false,[CT.int .i64])],qi,[]⟩
theorem BZ:aF Dr Tryz.prog 105 Zm:=bg mix (.c Zx .nil) (by kernel_rfl) fun x=>by kernel_rfl
def QU.T(x y:Int):Option (aK):=some ((IntKind.u64.wrap ((IntKind.u64.wrap ((IntKind.u64.wrap ((Int.fdiv x (2 ^ 32))*(Int.fdiv y (2 ^ 32))))+(Int.fdiv (IntKind.u64.wrap ((IntKind.u64.wrap ((Int.fdiv x (2 ^ 32))*(IntKind.u64.wrap (((BitVec.ofInt 64 y) &&& (BitVec.ofInt 64 4294967295)).toNat))))+(Int.fdiv (IntKind.u64.wrap ((IntKind.u64.wrap (((BitVec.ofInt 64 x) &&& (BitVec.ofInt 64 4294967295)).toNat))*(IntKind.u64.wrap (((BitVec.ofInt 64 y) &&& (BitVec.ofInt 64 4294967295)).toNat)))) (2 ^ 32)))) (2 ^ 32))))+(Int.fdiv (IntKind.u64.wrap ((IntKind.u64.wrap (((BitVec.ofInt 64 (IntKind.u64.wrap ((IntKind.u64.wrap ((Int.fdiv x (2 ^ 32))*(IntKind.u64.wrap (((BitVec.ofInt 64 y) &&& (BitVec.ofInt 64 4294967295)).toNat))))+(Int.fdiv (IntKind.u64.wrap ((IntKind.u64.wrap (((BitVec.ofInt 64 x) &&& (BitVec.ofInt 64 4294967295)).toNat))*(IntKind.u64.wrap (((BitVec.ofInt 64 y) &&& (BitVec.ofInt 64 4294967295)).toNat)))) (2 ^ 32))))) &&& (BitVec.ofInt 64 4294967295)).toNat))+(IntKind.u64.wrap ((IntKind.u64.wrap (((BitVec.ofInt 64 x) &&& (BitVec.ofInt 64 4294967295)).toNat))*(Int.fdiv y (2 ^ 32)))))) (2 ^ 32)))),(IntKind.u64.wrap (x*y)),())
def CS:=fun x:aK=>QU.T x.1 x.2.1
abbrev ZR:aG:=⟨[.v false [CT.int .u64],.v false [CT.int .u64]],[(false,[CT.int .u64]),(false,[CT.int .u64])],CS,[]⟩
theorem Zp:aF Dr Tryz.prog 184 ZR:=bg mix .nil (by kernel_rfl) fun x=>by kernel_rfl
def SI.T(a b:Int):Option (aK):=(CS (a,b,())).bind fun y1=>some (y1.1,y1.2.1,())
def KA:=fun x:aK=>SI.T x.1 x.2.1
abbrev aaS:aG:=⟨[.v false [CT.int .u64],.v false [CT.int .u64]],[(true,ct1)],KA,[]⟩
theorem aaw:aF Dr Tryz.prog 175 aaS:=bg mix (.c Zp .nil) (by kernel_rfl) fun x=>by kernel_rfl
def SG.T(a b:Int):Option (aK):=(KA ((IntKind.u64.wrap (a)),(IntKind.u64.wrap (b)),())).bind fun y1=>some (y1.1,y1.2.1,())
def wU:=fun x:aK=>SG.T x.1 x.2.1
abbrev aaQ:aG:=⟨[.v false [CT.int .i64],.v false [CT.int .i64]],[(true,ct1)],wU,[]⟩
theorem QS:aF Dr Tryz.prog 159 aaQ:=bg mix (.c aaw .nil) (by kernel_rfl) fun x=>by kernel_rfl
abbrev Ku:Is:=[.v false [CT.sl [CT.int .i64]]]
abbrev JV:Os:=[(false,[CT.int .i64])]
namespace uU
def aC:Nat→List Nat×List Nat:=fun k=>if k=3 then([3,6,7,8],[2,3])else([],[])
def zrc{R:Type}(k0:Nat)(p:List Nat):Env→List Ob→au R→Option R:=bJ Tryz.prog (aW []) 18 0 aC k0 (cO p (dI Tryz.prog 172))
def R0{R:Type}(nx0:Y0 R)(ex0:Y1 R)(ex1:Y2 R)(zero:Int)(t6x:List (Int×Unit))(t7x t8x:Int):Option R:=cond (decide (t8x<t7x)) (if 0≤t8x∧t8x<(t6x.length:Int)then cond ((rd (0,()) t6x t8x).1 != zero) (ex0 ((rd (0,()) t6x t8x).1) zero) (nx0 zero t6x t7x (af (t8x+1)))else none) (ex1 zero)
def A0(vals:List (Int×Unit))(t2x zero:Int):Option (Int×Unit):=some (t2x,())
def A1(vals:List (Int×Unit))(zero:Int):Option (Int×Unit):=some (zero,())
def T(lo0:Y0 (Int×Unit))(vals:List (Int×Unit)):Option (Int×Unit):=lo0 0 vals (vals.length:Int) 0
def K0{R:Type}(k0:Nat)(K:au R):au R:=bF 0 (bI (fun env ob=>zrc k0 [1,1,1] env ob (K)) (K))
def L0:Y0 R:=fun zero t6x t7x t8x=>iter 0 [3,6,7,8] [2,3] (zrc k0 [1,1,0,1,0,0]) k [(3,.int .i64 zero),(6,.sl [CT.int .i64] t6x),(7,.int .i64 t7x),(8,.int .i64 t8x)] [] K
def H0:Y1 R:=fun t2x zero=>K .ret [(2,.int .i64 t2x),(3,.int .i64 zero)] []
def H1:Y2 R:=fun zero=>K (.exit 0) [(2,.undef),(3,.int .i64 zero)] []
theorem zs0:L0 k0 (k+1) K=R0 (L0 k0 k K) (H0 K) (H1 K):=by kernel_rfl
def G0{R:Type}(k0:Nat)(hx0:Y1 R)(hx1:Y2 R):Nat→Y0 R
 |0=>fun _ _ _ _=>none
 |k+1=>R0 (G0 k0 hx0 hx1 k) hx0 hx1
theorem aS:∀ k,L0 k0 k K=G0 k0 (H0 K) (H1 K) k:=bK rfl fun k ih=>by rw[zs0,G0];(try simp only[ih]);try rfl
variable (vals:List (Int×Unit))
def aB:au (Int×Unit):=dm Tryz.prog [.tmp 2] Ku JV (vals,())
theorem aZ:H0 (K0 k0 (aB vals))=A0 vals:=by kernel_rfl
theorem dw:H1 (K0 k0 (aB vals))=A1 vals:=by kernel_rfl
def FF:Option (Int×Unit):=T (G0 k0 (A0 vals) (A1 vals) k0) vals
theorem aY:dB Tryz.prog (aW []) aC k0 172 Ku JV [] (vals,())=FF k0 vals:=Eq.trans (b:=T (L0 k0 k0 (K0 k0 (aB vals))) vals) (by kernel_rfl) (by rw[FF];(try simp only[aS,aZ,dw]);try rfl)
def _root_.Go.Rv.zW:=fun x:(List (Int×Unit))×Unit=>FF (300+x.1.length) x.1
abbrev _root_.Go.Rv.abm:aG:=⟨Ku,JV,zW,[]⟩
theorem _root_.Go.Rv.RX:aF Dr Tryz.prog 172 abm:=dJ mix .nil (by kernel_rfl) fun x=>⟨aC,_,aY _ _⟩
end uU
def QD.T(x:Int):Option (Bool×Unit):=some ((x != x),())
def CO:=fun x:Int×Unit=>QD.T x.1
abbrev ZE:aG:=⟨[.v false [CT.int .u64]],[(false,[CT.bool])],CO,[]⟩
theorem Zj:aF Dr Tryz.prog 195 ZE:=bg mix .nil (by kernel_rfl) fun x=>by kernel_rfl
def Qb.T(x y:Int):Option (Int×Unit):=(CO (x,())).bind fun y1=>(CO (y,())).bind fun y2=>cond y1.1 (cond y2.1 (some (0,())) (some ((-1),()))) (cond y2.1 (some (1,())) (cond (decide (x<y)) (some ((-1),())) (cond (decide (x>y)) (some (1,())) (some (0,())))))
def zl:=fun x:aK=>Qb.T x.1 x.2.1
abbrev Zd:aG:=⟨[.v false [CT.int .u64],.v false [CT.int .u64]],[(false,[CT.int .i64])],zl,[]⟩
theorem YX:aF Dr Tryz.prog 182 Zd:=bg mix (.c Zj .nil) (by kernel_rfl) fun x=>by kernel_rfl
def SL.T(a0 a1 b0 b1:Int):Option (Int×Unit):=(zl (a0,b0,())).bind fun y1=>(zl (a1,b1,())).bind fun y2=>(zW ([(y1.1,()),(y2.1,())],())).bind fun y3=>some (y3.1,())
def KC:=fun x:U8=>SL.T x.1 x.2.1 x.2.2.1 x.2.2.2.1
abbrev aaU:aG:=⟨[.v true ct1,.v true ct1],[(false,[CT.int .i64])],KC,[]⟩
theorem aay:aF Dr Tryz.prog 173 aaU:=bg mix (.c RX (.c YX .nil)) (by kernel_rfl) fun x=>by kernel_rfl
def Qo.T(a b c d:Int):Option (Int×Unit):=(wU (a,b,())).bind fun y1=>(wU (c,d,())).bind fun y2=>(KC (y1.1,y1.2.1,y2.1,y2.2.1,())).bind fun y3=>some (y3.1,())
def zn:=fun x:U8=>Qo.T x.1 x.2.1 x.2.2.1 x.2.2.2.1
abbrev Zk:aG:=⟨[.v false [CT.int .i64],.v false [CT.int .i64],.v false [CT.int .i64],.v false [CT.int .i64]],[(false,[CT.int .i64])],zn,[]⟩
theorem PN:aF Dr Tryz.prog 157 Zk:=bg mix (.c QS (.c aay .nil)) (by kernel_rfl) fun x=>by kernel_rfl
def QX.T(a0 a1 a2 b0 b1 b2:Int):Option (Int×Unit):=(zn (a1,b2,b1,a2,())).bind fun y1=>(qi (a0,b0,())).bind fun y2=>(zW ([(y1.1,()),(y2.1,())],())).bind fun y3=>some (y3.1,())
def Jy:=fun x:Int×U6=>QX.T x.1 x.2.1 x.2.2.1 x.2.2.2.1 x.2.2.2.2.1 x.2.2.2.2.2.1
abbrev ZW:aG:=⟨[.v true ct0,.v true ct0],[(false,[CT.int .i64])],Jy,[]⟩
theorem Zu:aF Dr Tryz.prog 156 ZW:=bg mix (.c BZ (.c PN (.c RX .nil))) (by kernel_rfl) fun x=>by kernel_rfl
end Go.Rv
end
