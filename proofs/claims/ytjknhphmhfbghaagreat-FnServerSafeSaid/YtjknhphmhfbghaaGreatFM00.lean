/- What functions come to on pure values (printed by a program of ours). -/
import Derived.Test.YtjknhphmhfbghaaGreatFRvD
import Derived.Test.YtjknhphmhfbghaaGreatProg
import Derived.KernelRfl
set_option linter.unusedVariables false
set_option linter.unusedSimpArgs false
set_option linter.unusedSectionVars false
set_option maxRecDepth 100000
noncomputable section
namespace Go.Rv
open Go.Proofs
variable {Dr:Kn} {R:Type} (k0 k:Nat) (K:au R)
abbrev ct0:List CT:=[CT.int .i64,CT.int .i64,CT.int .i64]
abbrev ct1:List CT:=[CT.int .u64,CT.int .u64]
abbrev aA:List CT:=[CT.int .i64,CT.int .i64,CT.int .i64,CT.int .i64]
abbrev iZ:List CT:=[CT.int .i64,CT.int .i64,CT.int .i64,CT.int .i64,CT.sl aA,CT.sl aA,CT.sl ct0]
abbrev fE:List CT:=[CT.int .i64,CT.int .i64,CT.int .i64,CT.int .i64,CT.int .i64]
abbrev gQ:List CT:=[CT.int .i64,CT.sl aA,CT.sl aA]
abbrev dM:List CT:=[CT.int .i64,CT.int .i64]
abbrev ct7:List CT:=[CT.sl [CT.int .i64],CT.int .i64,CT.int .i64,CT.int .i64,CT.sl [CT.bool]]
abbrev Yf:List CT:=[CT.int .u64,CT.int .u64,CT.int .u64]
abbrev FQ:List CT:=[CT.int .i64,CT.int .i64,CT.int .i64,CT.int .i64,CT.sl aA,CT.sl aA,CT.sl ct0,CT.int .i64,CT.int .i64,CT.int .i64]
abbrev rq:List CT:=[CT.sh [CT.int .u8],CT.int .i64,CT.int .u64,CT.int .i64]
abbrev BO:List CT:=[CT.int .i64,CT.sl aA,CT.sl aA,CT.int .i64,CT.int .i64]
abbrev X9:List CT:=[CT.int .u64,CT.int .u64,CT.bool,CT.int .i64]
abbrev KN:Kn:=Kn.no
abbrev U0:=Int×Int×Int×Int×(List (Int×Int×Int×Int×Unit))×(List (Int×Int×Int×Int×Unit))×(List (Int×Int×Int×Unit))×Int×Int×Int×Unit
abbrev U1:=Int×Int×Int×Int×(List (Int×Int×Int×Int×Unit))×(List (Int×Int×Int×Int×Unit))×(List (Int×Int×Int×Unit))×Unit
abbrev U2:=Int×(List (Int×Int×Int×Int×Unit))×(List (Int×Int×Int×Int×Unit))×Int×Int×Unit
abbrev U3:=Int×(List (Int×Int×Int×Int×Unit))×(List (Int×Int×Int×Int×Unit))×Unit
abbrev U4:=(List (Int×Unit))×Int×Int×Int×(List (Bool×Unit))×Unit
abbrev U5:=(List (Int×Unit))×Int×Int×Int×Unit
abbrev U6:=Int×Int×Int×Int×Int×Unit
abbrev U7:=Int×Int×Bool×Int×Unit
abbrev U8:=Int×Int×Int×Int×Unit
abbrev U9:=Int×Int×Int×Unit
abbrev aH:=Int×Int×Unit
abbrev Is:=List bF
abbrev Os:=List (Bool×List CT)
theorem mix:Tryz.prog.follows .mixedOrders=true:=by kernel_rfl
abbrev kR:ByteArray:=qO [0,1,2,2,3,3,3,3,4,4,4,4,4,4,4,4,5,5,5,5,5,5,5,5,5,5,5,5,5,5,5,5,6,6,6,6,6,6,6,6,6,6,6,6,6,6,6,6,6,6,6,6,6,6,6,6,6,6,6,6,6,6,6,6,7,7,7,7,7,7,7,7,7,7,7,7,7,7,7,7,7,7,7,7,7,7,7,7,7,7,7,7,7,7,7,7,7,7,7,7,7,7,7,7,7,7,7,7,7,7,7,7,7,7,7,7,7,7,7,7,7,7,7,7,7,7,7,7,8,8,8,8,8,8,8,8,8,8,8,8,8,8,8,8,8,8,8,8,8,8,8,8,8,8,8,8,8,8,8,8,8,8,8,8,8,8,8,8,8,8,8,8,8,8,8,8,8,8,8,8,8,8,8,8,8,8,8,8,8,8,8,8,8,8,8,8,8,8,8,8,8,8,8,8,8,8,8,8,8,8,8,8,8,8,8,8,8,8,8,8,8,8,8,8,8,8,8,8,8,8,8,8,8,8,8,8,8,8,8,8,8,8,8,8,8,8,8,8,8,8,8,8,8,8,8,8]
abbrev Y0(R:Type):=Int→(List (Int×Unit))→Int→Int→Option R
abbrev Y1(R:Type):=Int→Int→Option R
abbrev Y2(R:Type):=Int→Option R
abbrev Y3(R:Type):=(List U8)→Int→Int→Int→Int→Option R
abbrev Y4(R:Type):=(List U8)→Int→Int→Int→Option R
abbrev Y5(R:Type):=Int→(List U8)→Int→Int→Int→(List U8)→(List U8)→(List U9)→(List (Int×Unit))→(List (Int×Unit))→Option R
abbrev Y6(R:Type):=Int→Int→(List U8)→(List U8)→(List U9)→(List (Int×Unit))→(List (Int×Unit))→Option R
abbrev Y7(R:Type):=Int→(List U8)→Int→Int→(List U9)→(List (Int×Unit))→(List (Int×Unit))→Option R
abbrev Y8(R:Type):=(List U9)→(List (Int×Unit))→(List (Int×Unit))→Option R
abbrev Y9(R:Type):=(List U9)→Int→Int→Int→Int→Int→Option R
abbrev eF(R:Type):=Unit→Option R
abbrev uF(R:Type):=Int→Int→Int→Int→Int→Int→Int→Int→Int→Option R
abbrev zq(R:Type):=Int→Int→Int→Int→Int→Int→Int→Int→Option R
abbrev PY(R:Type):=Int→Int→Int→Int→Int→Int→Option R
abbrev Gy(R:Type):=(List U9)→Int→Int→(List U9)→Int→Int→Int→Int→Int→Int→(List (Int×Unit))→(List (Bool×Unit))→Option R
abbrev PX(R:Type):=(List U9)→Int→Int→Int→Int→Int→Int→(List (Int×Unit))→(List (Bool×Unit))→Option R
abbrev vZ(R:Type):=Nat→Nat→(List U9)→Int→Int→Int→Int→Int→Int→(List U9)→(List (Int×Unit))→(List (Bool×Unit))→Option R
abbrev vY(R:Type):=(List U9)→Int→Int→Int→Int→Int→Int→(List U9)→(List (Int×Unit))→(List (Bool×Unit))→Option R
abbrev Gx(R:Type):=Int→Int→Int→(List U9)→Int→Int→Int→Int→Int→Int→(List (Bool×Unit))→(List U9)→(List (Int×Unit))→(List (Bool×Unit))→Option R
abbrev Cf(R:Type):=Int→(List U9)→Int→Int→Int→Int→Int→Int→(List (Bool×Unit))→(List (Int×Unit))→(List (Bool×Unit))→Option R
abbrev Gw(R:Type):=Int→Nat→Nat→Int→Int→(List U9)→Int→Int→Int→Int→Int→Int→(List (Bool×Unit))→(List U9)→(List (Int×Unit))→(List (Bool×Unit))→Option R
abbrev Gv(R:Type):=Int→Int→Int→Int→Int→Int→Int→Int→Int→(List (Bool×Unit))→(List (Int×Unit))→(List (Bool×Unit))→Option R
abbrev PW(R:Type):=Int→Int→Int→Int→Int→Int→(List (Int×Unit))→(List (Bool×Unit))→Option R
abbrev uD(R:Type):=Int→Int→(List aH)→(List aH)→(List (Int×Unit))→(List (Int×Unit))→(List (Int×Unit))→Option R
abbrev PU(R:Type):=(List aH)→(List aH)→(List (Int×Unit))→(List (Int×Unit))→(List (Int×Unit))→Option R
abbrev zo(R:Type):=(List aH)→(List aH)→Option R
abbrev nY(R:Type):=(List U8)→Int→Int→Int→(List U8)→(List U8)→(List aH)→(List aH)→Option R
abbrev zn(R:Type):=Int→(List U8)→(List U8)→(List aH)→(List aH)→Option R
abbrev Gu(R:Type):=Int→Int→Int→(List U9)→Int→Int→Option R
abbrev uz(R:Type):=(List U9)→Int→Int→Int→Int→Option R
abbrev PS(R:Type):=(List U9)→Int→Int→Int→Option R
abbrev uw(R:Type):=(List U8)→(Int×Unit)→Int→Int→Option R
abbrev uq(R:Type):=Int→Int→Int→(List U8)→(List U8)→Option R
abbrev uo(R:Type):=Int→Int→(List U8)→(List U8)→Option R
abbrev zl(R:Type):=Bool→Int→(List U8)→(List U8)→Option R
abbrev zk(R:Type):=Int→(List U8)→(List U8)→Option R
abbrev jr(R:Type):=Bool→Option R
abbrev Gt(R:Type):=(List U9)→Int→Option R
abbrev Gs(R:Type):=Int→Int→Int→Int→Int→(List U8)→(List U8)→(List U9)→Option R
abbrev um(R:Type):=(List U8)→Int→Int→Int→(List U8)→(List U8)→Option R
abbrev Gq(R:Type):=(List U9)→(List U9)→Int→Int→Option R
abbrev PO(R:Type):=(List U9)→Bool→Option R
abbrev PN(R:Type):=(List U9)→Option R
abbrev Gp(R:Type):=(List U9)→Int→Int→Int→Int→Int→Int→(List U8)→(List U8)→(List U9)→Option R
abbrev Gn(R:Type):=(List (Int×Unit))→Int→(List (Int×Unit))→Int→Int→Int→Option R
abbrev PL(R:Type):=(List (Int×Unit))→(List (Int×Unit))→Int→Int→Int→Option R
abbrev uj(R:Type):=Bool→Int→Int→(List U8)→(List U8)→Int→Int→Int→Int→Int→Int→Int→Int→Int→(List U8)→(List U8)→Option R
abbrev zi(R:Type):=Bool→Int→Int→Int→Int→Int→Int→Int→Int→Int→(List U8)→(List U8)→Option R
abbrev ug(R:Type):=Int→Int→Int→(List U8)→(List U8)→Int→Int→Int→Int→Int→Int→Int→Int→Option R
abbrev PK(R:Type):=Int→Int→(List U8)→(List U8)→Int→Int→Int→Int→Int→Int→Int→Int→(List U8)→(List U8)→Option R
abbrev PI(R:Type):=Int→Int→(List U8)→(List U8)→Int→Int→Int→Int→Int→Int→Int→Int→Option R
abbrev PG(R:Type):=Int→Int→(List U8)→(List U8)→Int→Int→Int→(List U8)→(List U8)→Option R
abbrev PE(R:Type):=Int→Int→(List U8)→(List U8)→Int→Int→Int→Option R
abbrev zh(R:Type):=(List (Int×Unit))→Option R
abbrev uf(R:Type):=Int→Int→Int→Int→(List U8)→(List U8)→(List (Int×Unit))→Option R
abbrev zf(R:Type):=Int→Int→Int→(List U8)→(List U8)→(List (Int×Unit))→Option R
abbrev Gm(R:Type):=Int→Int→(List U8)→(List U8)→(List (Int×Unit))→Option R
abbrev Gl(R:Type):=Int→Int→Int→(List U8)→(List U8)→(List (Int×Unit))→(List aH)→(List U9)→Option R
abbrev PD(R:Type):=Int→Int→(List U8)→(List U8)→(List aH)→(List U9)→Option R
abbrev Gj(R:Type):=Int→Int→Int→(List U8)→(List U8)→(List aH)→(List U9)→Option R
abbrev Pz(R:Type):=(List aH)→(List U9)→Option R
abbrev tZ(R:Type):=Int→Int→Int→Int→Int→Option R
abbrev rD(R:Type):=Int→Int→Int→Int→Option R
abbrev Gi(R:Type):=Int→Int→Int→Int→Int→Int→Int→Option R
abbrev Gg(R:Type):=Int→Int→Int→Int→Int→Int→Int→Int→Int→Int→Int→Int→Option R
abbrev vX(R:Type):=(List U9)→Int→Int→Int→(List (Int×Unit))→(List (Bool×Unit))→Option R
abbrev lZ(R:Type):=(List U9)→Int→Int→(List (Int×Unit))→(List (Bool×Unit))→Option R
abbrev tY(R:Type):=(List U9)→Int→Int→Int→Int→(List (Int×Unit))→(List (Bool×Unit))→Option R
abbrev Py(R:Type):=(List U9)→Int→(List (Int×Unit))→(List (Bool×Unit))→Option R
abbrev Px(R:Type):=(List (Int×Unit))→(List (Int×Unit))→Option R
abbrev Gf(R:Type):=Int→Int→Int→(List U8)→(List U8)→(List (Int×Unit))→(List (Int×Unit))→(List aH)→(List (Int×Unit))→Option R
abbrev vW(R:Type):=Int→Int→(List U8)→(List U8)→(List (Int×Unit))→(List (Int×Unit))→Option R
abbrev F9(R:Type):=Int→Int→(List U8)→(List U8)→(List aH)→(List (Int×Unit))→Option R
abbrev Pv(R:Type):=(List aH)→Option R
abbrev F8(R:Type):=(List U9)→Bool→Int→Int→Int→Int→(List U9)→(List U9)→Option R
abbrev Pq(R:Type):=Bool→Int→Int→Int→(List U9)→(List U9)→Option R
abbrev F7(R:Type):=Int→Int→Int→Int→Int→Int→(List U8)→(List U8)→(List U9)→Int→Int→Int→Int→Int→Int→Int→Int→Int→Int→Int→Int→Int→Int→Int→Int→(List aH)→(List U8)→(List U8)→(List U9)→Option R
abbrev Po(R:Type):=Int→Int→Int→Int→Int→(List U8)→(List U8)→(List U9)→Int→Int→Int→Int→Int→Int→Int→Int→Int→Int→Int→Int→Int→Int→Int→Int→(List U8)→(List U8)→(List U9)→Option R
abbrev F6(R:Type):=(List (Int×Unit))→Int→Int→Option R
abbrev F5(R:Type):=(List (Int×Unit))→Int→Int→Int→Int→Int→(List U8)→(List U8)→(List U9)→Int→Int→Int→Int→Int→Int→Int→Int→(List U8)→(List U8)→(List U9)→Option R
abbrev Pn(R:Type):=Int→Int→Int→Int→Int→Int→Int→Int→(List U8)→(List U8)→(List U9)→Option R
abbrev vV(R:Type):=Int→Int→Int→Int→Int→(List U8)→(List U8)→(List U9)→Int→Int→Int→Int→Int→Int→Int→(List (Int×Unit))→Option R
abbrev yZ(R:Type):=Int→Int→Int→Int→(List U8)→(List U8)→(List U9)→Int→Int→Int→Int→Int→Int→Int→(List (Int×Unit))→Option R
abbrev FZ(R:Type):=Int→(List (Int×Unit))→Int→Int→Int→Int→Int→Int→Int→(List U6)→(List U8)→(List U8)→(List U9)→Option R
abbrev FY(R:Type):=Int→(List (Int×Unit))→Int→Int→Int→Int→Int→Int→Int→(List U8)→(List U8)→(List U9)→(List U6)→Option R
abbrev Ce(R:Type):=(List (Int×Unit))→Int→Int→Int→(List U6)→Option R
abbrev FX(R:Type):=(List U6)→Int→Int→Int→Int→Int→(List U9)→Int→Int→Int→Int→(List U8)→(List U8)→(List U9)→Option R
abbrev Pm(R:Type):=Int→Int→Int→Int→(List U9)→Int→Int→Int→Int→(List U8)→(List U8)→(List U9)→Option R
abbrev FW(R:Type):=Int→(List (Int×Unit))→Int→Int→Int→Int→Int→Int→Int→Int→Int→Int→Int→(List U8)→(List U8)→(List U9)→Option R
abbrev Pj(R:Type):=(List (Int×Unit))→Int→Int→Int→Int→Int→Int→Int→Int→Int→Int→Int→(List U8)→(List U8)→(List U9)→Option R
abbrev FV(R:Type):=(List aH)→Int→Int→Int→Int→Option R
abbrev Cc(R:Type):=Int→Int→Int→Int→Int→(List U6)→Int→Int→Int→Int→(List U9)→(List aH)→(List U8)→(List U8)→(List U9)→(List U8)→(List U8)→(List U9)→Option R
abbrev FU(R:Type):=Int→Int→Int→Int→Int→Int→(List U6)→Int→Int→Int→Int→(List U9)→(List aH)→Int→Int→Int→Int→Int→Int→Int→Int→Int→Int→Int→Int→(List U9)→(List U8)→(List U8)→(List U9)→(List U8)→(List U8)→(List U9)→Option R
abbrev Ph(R:Type):=Int→Int→Int→Int→Int→(List U6)→Int→Int→Int→Int→(List aH)→Int→Int→Int→Int→Int→Int→Int→Int→Int→Int→Int→Int→(List U9)→(List U8)→(List U8)→(List U9)→(List U8)→(List U8)→(List U9)→Option R
abbrev FT(R:Type):=Int→Int→Int→Int→Int→Int→Int→(List U6)→Int→Int→Int→Int→(List U9)→(List aH)→(List U8)→(List U8)→(List U9)→(List U8)→(List U8)→(List U9)→Option R
abbrev Pg(R:Type):=Int→Int→Int→Int→Int→Int→(List U6)→Int→Int→Int→Int→(List U9)→(List aH)→(List U8)→(List U8)→(List U9)→(List U8)→(List U8)→(List U9)→Option R
def KE.T(x:Int):Option (Bool×Unit):=some ((x != x),())
def wL:=fun x:Int×Unit=>KE.T x.1
abbrev aag:aG:=⟨[.v false [CT.int .i64]],[(false,[CT.bool])],wL,[]⟩
theorem ZF:aF Dr Tryz.prog 122 aag:=bC mix .nil (by kernel_rfl) fun x=>by kernel_rfl
def JI.T(x y:Int):Option (Int×Unit):=(wL (x,())).bind fun y1=>(wL (y,())).bind fun y2=>cond y1.1 (cond y2.1 (some (0,())) (some ((-1),()))) (cond y2.1 (some (1,())) (cond (decide (x<y)) (some ((-1),())) (cond (decide (x>y)) (some (1,())) (some (0,())))))
def qw:=fun x:aH=>JI.T x.1 x.2.1
abbrev Zv:aG:=⟨[.v false [CT.int .i64],.v false [CT.int .i64]],[(false,[CT.int .i64])],qw,[]⟩
theorem CP:aF Dr Tryz.prog 105 Zv:=bC mix (.c ZF .nil) (by kernel_rfl) fun x=>by kernel_rfl
def Rh.T(x y:Int):Option (aH):=some ((IntKind.u64.wrap ((IntKind.u64.wrap ((IntKind.u64.wrap ((Int.fdiv x (2 ^ 32))*(Int.fdiv y (2 ^ 32))))+(Int.fdiv (IntKind.u64.wrap ((IntKind.u64.wrap ((Int.fdiv x (2 ^ 32))*(IntKind.u64.wrap (((BitVec.ofInt 64 y) &&& (BitVec.ofInt 64 4294967295)).toNat))))+(Int.fdiv (IntKind.u64.wrap ((IntKind.u64.wrap (((BitVec.ofInt 64 x) &&& (BitVec.ofInt 64 4294967295)).toNat))*(IntKind.u64.wrap (((BitVec.ofInt 64 y) &&& (BitVec.ofInt 64 4294967295)).toNat)))) (2 ^ 32)))) (2 ^ 32))))+(Int.fdiv (IntKind.u64.wrap ((IntKind.u64.wrap (((BitVec.ofInt 64 (IntKind.u64.wrap ((IntKind.u64.wrap ((Int.fdiv x (2 ^ 32))*(IntKind.u64.wrap (((BitVec.ofInt 64 y) &&& (BitVec.ofInt 64 4294967295)).toNat))))+(Int.fdiv (IntKind.u64.wrap ((IntKind.u64.wrap (((BitVec.ofInt 64 x) &&& (BitVec.ofInt 64 4294967295)).toNat))*(IntKind.u64.wrap (((BitVec.ofInt 64 y) &&& (BitVec.ofInt 64 4294967295)).toNat)))) (2 ^ 32))))) &&& (BitVec.ofInt 64 4294967295)).toNat))+(IntKind.u64.wrap ((IntKind.u64.wrap (((BitVec.ofInt 64 x) &&& (BitVec.ofInt 64 4294967295)).toNat))*(Int.fdiv y (2 ^ 32)))))) (2 ^ 32)))),(IntKind.u64.wrap (x*y)),())
def Dc:=fun x:aH=>Rh.T x.1 x.2.1
abbrev Z7:aG:=⟨[.v false [CT.int .u64],.v false [CT.int .u64]],[(false,[CT.int .u64]),(false,[CT.int .u64])],Dc,[]⟩
theorem Zy:aF Dr Tryz.prog 184 Z7:=bC mix .nil (by kernel_rfl) fun x=>by kernel_rfl
def Tc.T(a b:Int):Option (aH):=(Dc (a,b,())).bind fun y1=>some (y1.1,y1.2.1,())
def KU:=fun x:aH=>Tc.T x.1 x.2.1
abbrev aa5:aG:=⟨[.v false [CT.int .u64],.v false [CT.int .u64]],[(true,ct1)],KU,[]⟩
theorem aaF:aF Dr Tryz.prog 175 aa5:=bC mix (.c Zy .nil) (by kernel_rfl) fun x=>by kernel_rfl
def SY.T(a b:Int):Option (aH):=(KU ((IntKind.u64.wrap (a)),(IntKind.u64.wrap (b)),())).bind fun y1=>some (y1.1,y1.2.1,())
def wX:=fun x:aH=>SY.T x.1 x.2.1
abbrev aa3:aG:=⟨[.v false [CT.int .i64],.v false [CT.int .i64]],[(true,ct1)],wX,[]⟩
theorem Q9:aF Dr Tryz.prog 159 aa3:=bC mix (.c aaF .nil) (by kernel_rfl) fun x=>by kernel_rfl
abbrev KO:Is:=[.v false [CT.sl [CT.int .i64]]]
abbrev Kr:Os:=[(false,[CT.int .i64])]
namespace uY
def aC:Nat→List Nat×List Nat:=fun k=>if k=3 then([3,6,7,8],[2,3])else([],[])
def zrc{R:Type}(k0:Nat)(p:List Nat):Env→List Ob→au R→Option R:=bJ Tryz.prog (aV []) 18 0 aC k0 (cO p (dH Tryz.prog 172))
def R0{R:Type}(nx0:Y0 R)(ex0:Y1 R)(ex1:Y2 R)(zero:Int)(t6x:List (Int×Unit))(t7x t8x:Int):Option R:=cond (decide (t8x<t7x)) (if 0≤t8x∧t8x<(t6x.length:Int)then cond ((rd (0,()) t6x t8x).1 != zero) (ex0 ((rd (0,()) t6x t8x).1) zero) (nx0 zero t6x t7x (af (t8x+1)))else none) (ex1 zero)
def A0(vals:List (Int×Unit))(t2x zero:Int):Option (Int×Unit):=some (t2x,())
def A1(vals:List (Int×Unit))(zero:Int):Option (Int×Unit):=some (zero,())
def T(lo0:Y0 (Int×Unit))(vals:List (Int×Unit)):Option (Int×Unit):=lo0 0 vals (vals.length:Int) 0
def K0{R:Type}(k0:Nat)(K:au R):au R:=bg 0 (bG (fun env ob=>zrc k0 [1,1,1] env ob (K)) (K))
def L0:Y0 R:=fun zero t6x t7x t8x=>iter 0 [3,6,7,8] [2,3] (zrc k0 [1,1,0,1,0,0]) k [(3,.int .i64 zero),(6,.sl [CT.int .i64] t6x),(7,.int .i64 t7x),(8,.int .i64 t8x)] [] K
def H0:Y1 R:=fun t2x zero=>K .ret [(2,.int .i64 t2x),(3,.int .i64 zero)] []
def H1:Y2 R:=fun zero=>K (.exit 0) [(2,.undef),(3,.int .i64 zero)] []
theorem zs0:L0 k0 (k+1) K=R0 (L0 k0 k K) (H0 K) (H1 K):=by kernel_rfl
def G0{R:Type}(k0:Nat)(hx0:Y1 R)(hx1:Y2 R):Nat→Y0 R
 |0=>fun _ _ _ _=>none
 |k+1=>R0 (G0 k0 hx0 hx1 k) hx0 hx1
theorem aQ:∀ k,L0 k0 k K=G0 k0 (H0 K) (H1 K) k:=bK rfl fun k ih=>by rw[zs0,G0];(try simp only[ih]);try rfl
variable (vals:List (Int×Unit))
def aB:au (Int×Unit):=di Tryz.prog [.tmp 2] KO Kr (vals,())
theorem aY:H0 (K0 k0 (aB vals))=A0 vals:=by kernel_rfl
theorem dA:H1 (K0 k0 (aB vals))=A1 vals:=by kernel_rfl
def FF:Option (Int×Unit):=T (G0 k0 (A0 vals) (A1 vals) k0) vals
theorem aX:dw Tryz.prog (aV []) aC k0 172 KO Kr [] (vals,())=FF k0 vals:=Eq.trans (b:=T (L0 k0 k0 (K0 k0 (aB vals))) vals) (by kernel_rfl) (by rw[FF];(try simp only[aQ,aY,dA]);try rfl)
def _root_.Go.Rv.Ai:=fun x:(List (Int×Unit))×Unit=>FF (300+x.1.length) x.1
abbrev _root_.Go.Rv.abA:aG:=⟨KO,Kr,Ai,[]⟩
theorem _root_.Go.Rv.Sv:aF Dr Tryz.prog 172 abA:=dI mix .nil (by kernel_rfl) fun x=>⟨aC,_,aX _ _⟩
end uY
def QM.T(x:Int):Option (Bool×Unit):=some ((x != x),())
def CY:=fun x:Int×Unit=>QM.T x.1
abbrev ZL:aG:=⟨[.v false [CT.int .u64]],[(false,[CT.bool])],CY,[]⟩
theorem Zr:aF Dr Tryz.prog 195 ZL:=bC mix .nil (by kernel_rfl) fun x=>by kernel_rfl
def Qr.T(x y:Int):Option (Int×Unit):=(CY (x,())).bind fun y1=>(CY (y,())).bind fun y2=>cond y1.1 (cond y2.1 (some (0,())) (some ((-1),()))) (cond y2.1 (some (1,())) (cond (decide (x<y)) (some ((-1),())) (cond (decide (x>y)) (some (1,())) (some (0,())))))
def zB:=fun x:aH=>Qr.T x.1 x.2.1
abbrev Zk:aG:=⟨[.v false [CT.int .u64],.v false [CT.int .u64]],[(false,[CT.int .i64])],zB,[]⟩
theorem Ze:aF Dr Tryz.prog 182 Zk:=bC mix (.c Zr .nil) (by kernel_rfl) fun x=>by kernel_rfl
def Tf.T(a0 a1 b0 b1:Int):Option (Int×Unit):=(zB (a0,b0,())).bind fun y1=>(zB (a1,b1,())).bind fun y2=>(Ai ([(y1.1,()),(y2.1,())],())).bind fun y3=>some (y3.1,())
def KW:=fun x:U8=>Tf.T x.1 x.2.1 x.2.2.1 x.2.2.2.1
abbrev aa7:aG:=⟨[.v true ct1,.v true ct1],[(false,[CT.int .i64])],KW,[]⟩
theorem aaH:aF Dr Tryz.prog 173 aa7:=bC mix (.c Sv (.c Ze .nil)) (by kernel_rfl) fun x=>by kernel_rfl
def QA.T(a b c d:Int):Option (Int×Unit):=(wX (a,b,())).bind fun y1=>(wX (c,d,())).bind fun y2=>(KW (y1.1,y1.2.1,y2.1,y2.2.1,())).bind fun y3=>some (y3.1,())
def zD:=fun x:U8=>QA.T x.1 x.2.1 x.2.2.1 x.2.2.2.1
abbrev Zt:aG:=⟨[.v false [CT.int .i64],.v false [CT.int .i64],.v false [CT.int .i64],.v false [CT.int .i64]],[(false,[CT.int .i64])],zD,[]⟩
theorem Qe:aF Dr Tryz.prog 157 Zt:=bC mix (.c Q9 (.c aaH .nil)) (by kernel_rfl) fun x=>by kernel_rfl
def Rj.T(a0 a1 a2 b0 b1 b2:Int):Option (Int×Unit):=(zD (a1,b2,b1,a2,())).bind fun y1=>(qw (a0,b0,())).bind fun y2=>(Ai ([(y1.1,()),(y2.1,())],())).bind fun y3=>some (y3.1,())
def JJ:=fun x:Int×U6=>Rj.T x.1 x.2.1 x.2.2.1 x.2.2.2.1 x.2.2.2.2.1 x.2.2.2.2.2.1
abbrev aad:aG:=⟨[.v true ct0,.v true ct0],[(false,[CT.int .i64])],JJ,[]⟩
theorem ZC:aF Dr Tryz.prog 156 aad:=bC mix (.c CP (.c Qe (.c Sv .nil))) (by kernel_rfl) fun x=>by kernel_rfl
end Go.Rv
end
