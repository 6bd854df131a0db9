/- What functions come to on pure values (printed by a program of ours). -/
import Derived.Test.YtjknhphmhfbghaaGreatLRvD
import Derived.Test.YtjknhphmhfbghaaGreatProg
import Derived.KernelRfl
set_option linter.unusedVariables false
set_option linter.unusedSimpArgs false
set_option linter.unusedSectionVars false
set_option maxRecDepth 100000
noncomputable section
namespace Go.Rv
open Go.Proofs
variable {Dr:Kn} {R:Type} (k0 k:Nat) (K:au R)
abbrev ct0:List CT:=[CT.int .i64,CT.int .i64,CT.int .i64]
abbrev ct1:List CT:=[CT.int .u64,CT.int .u64]
abbrev aC:List CT:=[CT.int .i64,CT.int .i64,CT.int .i64,CT.int .i64]
abbrev jg:List CT:=[CT.int .i64,CT.int .i64,CT.int .i64,CT.int .i64,CT.sl aC,CT.sl aC,CT.sl ct0]
abbrev fZ:List CT:=[CT.int .i64,CT.int .i64,CT.int .i64,CT.int .i64,CT.int .i64]
abbrev gI:List CT:=[CT.int .i64,CT.sl aC,CT.sl aC]
abbrev eH:List CT:=[CT.int .i64,CT.int .i64]
abbrev ct7:List CT:=[CT.sl [CT.int .i64],CT.int .i64,CT.int .i64,CT.int .i64,CT.sl [CT.bool]]
abbrev XE:List CT:=[CT.int .u64,CT.int .u64,CT.int .u64]
abbrev qV:List CT:=[CT.sh [CT.int .u8],CT.int .i64,CT.int .u64,CT.int .i64]
abbrev Fa:List CT:=[CT.int .i64,CT.int .i64,CT.int .i64,CT.int .i64,CT.sl aC,CT.sl aC,CT.sl ct0,CT.int .i64,CT.int .i64,CT.int .i64]
abbrev Bz:List CT:=[CT.int .i64,CT.sl aC,CT.sl aC,CT.int .i64,CT.int .i64]
abbrev Xy:List CT:=[CT.int .u64,CT.int .u64,CT.bool,CT.int .i64]
abbrev KN:Kn:=Kn.no
abbrev U0:=Int×Int×Int×Int×(List (Int×Int×Int×Int×Unit))×(List (Int×Int×Int×Int×Unit))×(List (Int×Int×Int×Unit))×Int×Int×Int×Unit
abbrev U1:=Int×Int×Int×Int×(List (Int×Int×Int×Int×Unit))×(List (Int×Int×Int×Int×Unit))×(List (Int×Int×Int×Unit))×Unit
abbrev U2:=Int×(List (Int×Int×Int×Int×Unit))×(List (Int×Int×Int×Int×Unit))×Int×Int×Unit
abbrev U3:=Int×(List (Int×Int×Int×Int×Unit))×(List (Int×Int×Int×Int×Unit))×Unit
abbrev U4:=(List (Int×Unit))×Int×Int×Int×(List (Bool×Unit))×Unit
abbrev U5:=(List (Int×Unit))×Int×Int×Int×Unit
abbrev U6:=Int×Int×Int×Int×Int×Unit
abbrev U7:=Int×Int×Bool×Int×Unit
abbrev U8:=Int×Int×Int×Int×Unit
abbrev U9:=Int×Int×Int×Unit
abbrev aN:=Int×Int×Unit
abbrev Is:=List bD
abbrev Os:=List (Bool×List CT)
theorem mix:Tryz.prog.follows .mixedOrders=true:=by kernel_rfl
abbrev kK:ByteArray:=qG [0,1,2,2,3,3,3,3,4,4,4,4,4,4,4,4,5,5,5,5,5,5,5,5,5,5,5,5,5,5,5,5,6,6,6,6,6,6,6,6,6,6,6,6,6,6,6,6,6,6,6,6,6,6,6,6,6,6,6,6,6,6,6,6,7,7,7,7,7,7,7,7,7,7,7,7,7,7,7,7,7,7,7,7,7,7,7,7,7,7,7,7,7,7,7,7,7,7,7,7,7,7,7,7,7,7,7,7,7,7,7,7,7,7,7,7,7,7,7,7,7,7,7,7,7,7,7,7,8,8,8,8,8,8,8,8,8,8,8,8,8,8,8,8,8,8,8,8,8,8,8,8,8,8,8,8,8,8,8,8,8,8,8,8,8,8,8,8,8,8,8,8,8,8,8,8,8,8,8,8,8,8,8,8,8,8,8,8,8,8,8,8,8,8,8,8,8,8,8,8,8,8,8,8,8,8,8,8,8,8,8,8,8,8,8,8,8,8,8,8,8,8,8,8,8,8,8,8,8,8,8,8,8,8,8,8,8,8,8,8,8,8,8,8,8,8,8,8,8,8,8,8,8,8,8,8]
abbrev Y0(R:Type):=Int→(List (Int×Unit))→Int→Int→Option R
abbrev Y1(R:Type):=Int→Int→Option R
abbrev Y2(R:Type):=Int→Option R
abbrev Y3(R:Type):=(List U8)→Int→Int→Int→Int→Option R
abbrev Y4(R:Type):=(List U8)→Int→Int→Int→Option R
abbrev Y5(R:Type):=Int→(List U8)→Int→Int→Int→(List U8)→(List U8)→(List U9)→(List (Int×Unit))→(List (Int×Unit))→Option R
abbrev Y6(R:Type):=Int→Int→(List U8)→(List U8)→(List U9)→(List (Int×Unit))→(List (Int×Unit))→Option R
abbrev Y7(R:Type):=Int→(List U8)→Int→Int→(List U9)→(List (Int×Unit))→(List (Int×Unit))→Option R
abbrev Y8(R:Type):=(List U9)→(List (Int×Unit))→(List (Int×Unit))→Option R
abbrev Y9(R:Type):=(List U9)→Int→Int→Int→Int→Int→Option R
abbrev eY(R:Type):=Unit→Option R
abbrev tZ(R:Type):=Int→Int→Int→Int→Int→Int→Int→Int→Int→Option R
abbrev yX(R:Type):=Int→Int→Int→Int→Int→Int→Int→Int→Option R
abbrev Pe(R:Type):=Int→Int→Int→Int→Int→Int→Option R
abbrev F6(R:Type):=(List U9)→Int→Int→(List U9)→Int→Int→Int→Int→Int→Int→(List (Int×Unit))→(List (Bool×Unit))→Option R
abbrev O9(R:Type):=(List U9)→Int→Int→Int→Int→Int→Int→(List (Int×Unit))→(List (Bool×Unit))→Option R
abbrev vO(R:Type):=Nat→Nat→(List U9)→Int→Int→Int→Int→Int→Int→(List U9)→(List (Int×Unit))→(List (Bool×Unit))→Option R
abbrev vN(R:Type):=(List U9)→Int→Int→Int→Int→Int→Int→(List U9)→(List (Int×Unit))→(List (Bool×Unit))→Option R
abbrev F5(R:Type):=Int→Int→Int→(List U9)→Int→Int→Int→Int→Int→Int→(List (Bool×Unit))→(List U9)→(List (Int×Unit))→(List (Bool×Unit))→Option R
abbrev BM(R:Type):=Int→(List U9)→Int→Int→Int→Int→Int→Int→(List (Bool×Unit))→(List (Int×Unit))→(List (Bool×Unit))→Option R
abbrev FZ(R:Type):=Int→Nat→Nat→Int→Int→(List U9)→Int→Int→Int→Int→Int→Int→(List (Bool×Unit))→(List U9)→(List (Int×Unit))→(List (Bool×Unit))→Option R
abbrev FY(R:Type):=Int→Int→Int→Int→Int→Int→Int→Int→Int→(List (Bool×Unit))→(List (Int×Unit))→(List (Bool×Unit))→Option R
abbrev O8(R:Type):=Int→Int→Int→Int→Int→Int→(List (Int×Unit))→(List (Bool×Unit))→Option R
abbrev tY(R:Type):=Int→Int→(List aN)→(List aN)→(List (Int×Unit))→(List (Int×Unit))→(List (Int×Unit))→Option R
abbrev O7(R:Type):=(List aN)→(List aN)→(List (Int×Unit))→(List (Int×Unit))→(List (Int×Unit))→Option R
abbrev yV(R:Type):=(List aN)→(List aN)→Option R
abbrev nT(R:Type):=(List U8)→Int→Int→Int→(List U8)→(List U8)→(List aN)→(List aN)→Option R
abbrev yU(R:Type):=Int→(List U8)→(List U8)→(List aN)→(List aN)→Option R
abbrev FX(R:Type):=Int→Int→Int→(List U9)→Int→Int→Option R
abbrev tX(R:Type):=(List U9)→Int→Int→Int→Int→Option R
abbrev O6(R:Type):=(List U9)→Int→Int→Int→Option R
abbrev tV(R:Type):=(List U8)→(Int×Unit)→Int→Int→Option R
abbrev FW(R:Type):=(List (Int×Unit))→Int→(List (Int×Unit))→Int→Int→Int→Option R
abbrev O5(R:Type):=(List (Int×Unit))→(List (Int×Unit))→Int→Int→Int→Option R
abbrev tN(R:Type):=Int→Int→Int→(List U8)→(List U8)→Option R
abbrev tK(R:Type):=Int→Int→(List U8)→(List U8)→Option R
abbrev yT(R:Type):=Bool→Int→(List U8)→(List U8)→Option R
abbrev yS(R:Type):=Int→(List U8)→(List U8)→Option R
abbrev jM(R:Type):=Bool→Option R
abbrev FV(R:Type):=(List U9)→Int→Option R
abbrev FU(R:Type):=Int→Int→Int→Int→Int→(List U8)→(List U8)→(List U9)→Option R
abbrev tJ(R:Type):=Bool→Int→Int→(List U8)→(List U8)→Int→Int→Int→Int→Int→Int→Int→Int→Int→(List U8)→(List U8)→Option R
abbrev yR(R:Type):=Bool→Int→Int→Int→Int→Int→Int→Int→Int→Int→(List U8)→(List U8)→Option R
abbrev tH(R:Type):=Int→Int→Int→(List U8)→(List U8)→Int→Int→Int→Int→Int→Int→Int→Int→Option R
abbrev O4(R:Type):=Int→Int→(List U8)→(List U8)→Int→Int→Int→Int→Int→Int→Int→Int→(List U8)→(List U8)→Option R
abbrev O3(R:Type):=Int→Int→(List U8)→(List U8)→Int→Int→Int→Int→Int→Int→Int→Int→Option R
abbrev O1(R:Type):=Int→Int→(List U8)→(List U8)→Int→Int→Int→(List U8)→(List U8)→Option R
abbrev O0(R:Type):=Int→Int→(List U8)→(List U8)→Int→Int→Int→Option R
abbrev yQ(R:Type):=(List (Int×Unit))→Option R
abbrev tC(R:Type):=Int→Int→Int→Int→(List U8)→(List U8)→(List (Int×Unit))→Option R
abbrev yP(R:Type):=Int→Int→Int→(List U8)→(List U8)→(List (Int×Unit))→Option R
abbrev FT(R:Type):=Int→Int→(List U8)→(List U8)→(List (Int×Unit))→Option R
abbrev FQ(R:Type):=Int→Int→Int→(List U8)→(List U8)→(List (Int×Unit))→(List aN)→(List U9)→Option R
abbrev OZ(R:Type):=Int→Int→(List U8)→(List U8)→(List aN)→(List U9)→Option R
abbrev FP(R:Type):=Int→Int→Int→(List U8)→(List U8)→(List aN)→(List U9)→Option R
abbrev OY(R:Type):=(List aN)→(List U9)→Option R
abbrev tu(R:Type):=Int→Int→Int→Int→Int→Option R
abbrev qW(R:Type):=Int→Int→Int→Int→Option R
abbrev FO(R:Type):=Int→Int→Int→Int→Int→Int→Int→Option R
abbrev FN(R:Type):=Int→Int→Int→Int→Int→Int→Int→Int→Int→Int→Int→Int→Option R
abbrev vM(R:Type):=(List U9)→Int→Int→Int→(List (Int×Unit))→(List (Bool×Unit))→Option R
abbrev lU(R:Type):=(List U9)→Int→Int→(List (Int×Unit))→(List (Bool×Unit))→Option R
abbrev tq(R:Type):=(List U9)→Int→Int→Int→Int→(List (Int×Unit))→(List (Bool×Unit))→Option R
abbrev OX(R:Type):=(List U9)→Int→(List (Int×Unit))→(List (Bool×Unit))→Option R
abbrev OW(R:Type):=(List (Int×Unit))→(List (Int×Unit))→Option R
abbrev FM(R:Type):=Int→Int→Int→(List U8)→(List U8)→(List (Int×Unit))→(List (Int×Unit))→(List aN)→(List (Int×Unit))→Option R
abbrev vK(R:Type):=Int→Int→(List U8)→(List U8)→(List (Int×Unit))→(List (Int×Unit))→Option R
abbrev FK(R:Type):=Int→Int→(List U8)→(List U8)→(List aN)→(List (Int×Unit))→Option R
abbrev OV(R:Type):=(List aN)→Option R
abbrev FI(R:Type):=(List U9)→Bool→Int→Int→Int→Int→(List U9)→(List U9)→Option R
abbrev OU(R:Type):=Bool→Int→Int→Int→(List U9)→(List U9)→Option R
abbrev FH(R:Type):=Int→Int→Int→Int→Int→Int→(List U8)→(List U8)→(List U9)→Int→Int→Int→Int→Int→Int→Int→Int→Int→Int→Int→Int→Int→Int→Int→Int→(List aN)→(List U8)→(List U8)→(List U9)→Option R
abbrev OT(R:Type):=Int→Int→Int→Int→Int→(List U8)→(List U8)→(List U9)→Int→Int→Int→Int→Int→Int→Int→Int→Int→Int→Int→Int→Int→Int→Int→Int→(List U8)→(List U8)→(List U9)→Option R
abbrev FD(R:Type):=(List (Int×Unit))→Int→Int→Option R
abbrev FC(R:Type):=(List (Int×Unit))→Int→Int→Int→Int→Int→(List U8)→(List U8)→(List U9)→Int→Int→Int→Int→Int→Int→Int→Int→(List U8)→(List U8)→(List U9)→Option R
abbrev OQ(R:Type):=Int→Int→Int→Int→Int→Int→Int→Int→(List U8)→(List U8)→(List U9)→Option R
abbrev vJ(R:Type):=Int→Int→Int→Int→Int→(List U8)→(List U8)→(List U9)→Int→Int→Int→Int→Int→Int→Int→(List (Int×Unit))→Option R
abbrev yO(R:Type):=Int→Int→Int→Int→(List U8)→(List U8)→(List U9)→Int→Int→Int→Int→Int→Int→Int→(List (Int×Unit))→Option R
abbrev FB(R:Type):=Int→(List (Int×Unit))→Int→Int→Int→Int→Int→Int→Int→(List U6)→(List U8)→(List U8)→(List U9)→Option R
abbrev Fz(R:Type):=Int→(List (Int×Unit))→Int→Int→Int→Int→Int→Int→Int→(List U8)→(List U8)→(List U9)→(List U6)→Option R
abbrev BL(R:Type):=(List (Int×Unit))→Int→Int→Int→(List U6)→Option R
abbrev Fv(R:Type):=(List U6)→Int→Int→Int→Int→Int→(List U9)→Int→Int→Int→Int→(List U8)→(List U8)→(List U9)→Option R
abbrev OO(R:Type):=Int→Int→Int→Int→(List U9)→Int→Int→Int→Int→(List U8)→(List U8)→(List U9)→Option R
abbrev Fq(R:Type):=Int→(List (Int×Unit))→Int→Int→Int→Int→Int→Int→Int→Int→Int→Int→Int→(List U8)→(List U8)→(List U9)→Option R
abbrev OM(R:Type):=(List (Int×Unit))→Int→Int→Int→Int→Int→Int→Int→Int→Int→Int→Int→(List U8)→(List U8)→(List U9)→Option R
abbrev sZ(R:Type):=(List U8)→Int→Int→Int→(List U8)→(List U8)→Option R
abbrev Fp(R:Type):=(List U9)→(List U9)→Int→Int→Option R
abbrev OL(R:Type):=(List U9)→Bool→Option R
abbrev OJ(R:Type):=(List U9)→Option R
abbrev Fj(R:Type):=(List U9)→Int→Int→Int→Int→Int→Int→(List U8)→(List U8)→(List U9)→Option R
def JX.T(x:Int):Option (Bool×Unit):=some ((x != x),())
def wC:=fun x:Int×Unit=>JX.T x.1
abbrev ZC:aG:=⟨[.v false [CT.int .i64]],[(false,[CT.bool])],wC,[]⟩
theorem YZ:aF Dr Tryz.prog 122 ZC:=bC mix .nil (by kernel_rfl) fun x=>by kernel_rfl
def Jk.T(x y:Int):Option (Int×Unit):=(wC (x,())).bind fun y1=>(wC (y,())).bind fun y2=>cond y1.1 (cond y2.1 (some (0,())) (some ((-1),()))) (cond y2.1 (some (1,())) (cond (decide (x<y)) (some ((-1),())) (cond (decide (x>y)) (some (1,())) (some (0,())))))
def qf:=fun x:aN=>Jk.T x.1 x.2.1
abbrev YO:aG:=⟨[.v false [CT.int .i64],.v false [CT.int .i64]],[(false,[CT.int .i64])],qf,[]⟩
theorem BX:aF Dr Tryz.prog 105 YO:=bC mix (.c YZ .nil) (by kernel_rfl) fun x=>by kernel_rfl
def QC.T(x y:Int):Option (aN):=some ((IntKind.u64.wrap ((IntKind.u64.wrap ((IntKind.u64.wrap ((Int.fdiv x (2 ^ 32))*(Int.fdiv y (2 ^ 32))))+(Int.fdiv (IntKind.u64.wrap ((IntKind.u64.wrap ((Int.fdiv x (2 ^ 32))*(IntKind.u64.wrap (((BitVec.ofInt 64 y) &&& (BitVec.ofInt 64 4294967295)).toNat))))+(Int.fdiv (IntKind.u64.wrap ((IntKind.u64.wrap (((BitVec.ofInt 64 x) &&& (BitVec.ofInt 64 4294967295)).toNat))*(IntKind.u64.wrap (((BitVec.ofInt 64 y) &&& (BitVec.ofInt 64 4294967295)).toNat)))) (2 ^ 32)))) (2 ^ 32))))+(Int.fdiv (IntKind.u64.wrap ((IntKind.u64.wrap (((BitVec.ofInt 64 (IntKind.u64.wrap ((IntKind.u64.wrap ((Int.fdiv x (2 ^ 32))*(IntKind.u64.wrap (((BitVec.ofInt 64 y) &&& (BitVec.ofInt 64 4294967295)).toNat))))+(Int.fdiv (IntKind.u64.wrap ((IntKind.u64.wrap (((BitVec.ofInt 64 x) &&& (BitVec.ofInt 64 4294967295)).toNat))*(IntKind.u64.wrap (((BitVec.ofInt 64 y) &&& (BitVec.ofInt 64 4294967295)).toNat)))) (2 ^ 32))))) &&& (BitVec.ofInt 64 4294967295)).toNat))+(IntKind.u64.wrap ((IntKind.u64.wrap (((BitVec.ofInt 64 x) &&& (BitVec.ofInt 64 4294967295)).toNat))*(Int.fdiv y (2 ^ 32)))))) (2 ^ 32)))),(IntKind.u64.wrap (x*y)),())
def CG:=fun x:aN=>QC.T x.1 x.2.1
abbrev Zv:aG:=⟨[.v false [CT.int .u64],.v false [CT.int .u64]],[(false,[CT.int .u64]),(false,[CT.int .u64])],CG,[]⟩
theorem YR:aF Dr Tryz.prog 184 Zv:=bC mix .nil (by kernel_rfl) fun x=>by kernel_rfl
def RQ.T(a b:Int):Option (aN):=(CG (a,b,())).bind fun y1=>some (y1.1,y1.2.1,())
def Kq:=fun x:aN=>RQ.T x.1 x.2.1
abbrev aay:aG:=⟨[.v false [CT.int .u64],.v false [CT.int .u64]],[(true,ct1)],Kq,[]⟩
theorem Z7:aF Dr Tryz.prog 175 aay:=bC mix (.c YR .nil) (by kernel_rfl) fun x=>by kernel_rfl
def RN.T(a b:Int):Option (aN):=(Kq ((IntKind.u64.wrap (a)),(IntKind.u64.wrap (b)),())).bind fun y1=>some (y1.1,y1.2.1,())
def wP:=fun x:aN=>RN.T x.1 x.2.1
abbrev aaw:aG:=⟨[.v false [CT.int .i64],.v false [CT.int .i64]],[(true,ct1)],wP,[]⟩
theorem QA:aF Dr Tryz.prog 159 aaw:=bC mix (.c Z7 .nil) (by kernel_rfl) fun x=>by kernel_rfl
abbrev J6:Is:=[.v false [CT.sl [CT.int .i64]]]
abbrev JL:Os:=[(false,[CT.int .i64])]
namespace uM
def aB:Nat→List Nat×List Nat:=fun k=>if k=3 then([3,6,7,8],[2,3])else([],[])
def zrc{R:Type}(k0:Nat)(p:List Nat):Env→List Ob→au R→Option R:=bJ Tryz.prog (aW []) 18 0 aB k0 (cO p (dI Tryz.prog 172))
def R0{R:Type}(nx0:Y0 R)(ex0:Y1 R)(ex1:Y2 R)(zero:Int)(t6x:List (Int×Unit))(t7x t8x:Int):Option R:=cond (decide (t8x<t7x)) (if 0≤t8x∧t8x<(t6x.length:Int)then cond ((rd (0,()) t6x t8x).1 != zero) (ex0 ((rd (0,()) t6x t8x).1) zero) (nx0 zero t6x t7x (af (t8x+1)))else none) (ex1 zero)
def A0(vals:List (Int×Unit))(t2x zero:Int):Option (Int×Unit):=some (t2x,())
def A1(vals:List (Int×Unit))(zero:Int):Option (Int×Unit):=some (zero,())
def T(lo0:Y0 (Int×Unit))(vals:List (Int×Unit)):Option (Int×Unit):=lo0 0 vals (vals.length:Int) 0
def K0{R:Type}(k0:Nat)(K:au R):au R:=bF 0 (bI (fun env ob=>zrc k0 [1,1,1] env ob (K)) (K))
def L0:Y0 R:=fun zero t6x t7x t8x=>iter 0 [3,6,7,8] [2,3] (zrc k0 [1,1,0,1,0,0]) k [(3,.int .i64 zero),(6,.sl [CT.int .i64] t6x),(7,.int .i64 t7x),(8,.int .i64 t8x)] [] K
def H0:Y1 R:=fun t2x zero=>K .ret [(2,.int .i64 t2x),(3,.int .i64 zero)] []
def H1:Y2 R:=fun zero=>K (.exit 0) [(2,.undef),(3,.int .i64 zero)] []
theorem zs0:L0 k0 (k+1) K=R0 (L0 k0 k K) (H0 K) (H1 K):=by kernel_rfl
def G0{R:Type}(k0:Nat)(hx0:Y1 R)(hx1:Y2 R):Nat→Y0 R
 |0=>fun _ _ _ _=>none
 |k+1=>R0 (G0 k0 hx0 hx1 k) hx0 hx1
theorem aS:∀ k,L0 k0 k K=G0 k0 (H0 K) (H1 K) k:=bP rfl fun k ih=>by rw[zs0,G0];(try simp only[ih]);try rfl
variable (vals:List (Int×Unit))
def aA:au (Int×Unit):=dw Tryz.prog [.tmp 2] J6 JL (vals,())
theorem bf:H0 (K0 k0 (aA vals))=A0 vals:=by kernel_rfl
theorem dB:H1 (K0 k0 (aA vals))=A1 vals:=by kernel_rfl
def FF:Option (Int×Unit):=T (G0 k0 (A0 vals) (A1 vals) k0) vals
theorem aZ:dA Tryz.prog (aW []) aB k0 172 J6 JL [] (vals,())=FF k0 vals:=Eq.trans (b:=T (L0 k0 k0 (K0 k0 (aA vals))) vals) (by kernel_rfl) (by rw[FF];(try simp only[aS,bf,dB]);try rfl)
def _root_.Go.Rv.zT:=fun x:(List (Int×Unit))×Unit=>FF (300+x.1.length) x.1
abbrev _root_.Go.Rv.aaZ:aG:=⟨J6,JL,zT,[]⟩
theorem _root_.Go.Rv.Rn:aF Dr Tryz.prog 172 aaZ:=dJ mix .nil (by kernel_rfl) fun x=>⟨aB,_,aZ _ _⟩
end uM
def Qm.T(x:Int):Option (Bool×Unit):=some ((x != x),())
def Cj:=fun x:Int×Unit=>Qm.T x.1
abbrev Zg:aG:=⟨[.v false [CT.int .u64]],[(false,[CT.bool])],Cj,[]⟩
theorem YK:aF Dr Tryz.prog 195 Zg:=bC mix .nil (by kernel_rfl) fun x=>by kernel_rfl
def PS.T(x y:Int):Option (Int×Unit):=(Cj (x,())).bind fun y1=>(Cj (y,())).bind fun y2=>cond y1.1 (cond y2.1 (some (0,())) (some ((-1),()))) (cond y2.1 (some (1,())) (cond (decide (x<y)) (some ((-1),())) (cond (decide (x>y)) (some (1,())) (some (0,())))))
def zf:=fun x:aN=>PS.T x.1 x.2.1
abbrev YC:aG:=⟨[.v false [CT.int .u64],.v false [CT.int .u64]],[(false,[CT.int .i64])],zf,[]⟩
theorem Yx:aF Dr Tryz.prog 182 YC:=bC mix (.c YK .nil) (by kernel_rfl) fun x=>by kernel_rfl
def RU.T(a0 a1 b0 b1:Int):Option (Int×Unit):=(zf (a0,b0,())).bind fun y1=>(zf (a1,b1,())).bind fun y2=>(zT ([(y1.1,()),(y2.1,())],())).bind fun y3=>some (y3.1,())
def Kr:=fun x:U8=>RU.T x.1 x.2.1 x.2.2.1 x.2.2.2.1
abbrev aaA:aG:=⟨[.v true ct1,.v true ct1],[(false,[CT.int .i64])],Kr,[]⟩
theorem Z9:aF Dr Tryz.prog 173 aaA:=bC mix (.c Rn (.c Yx .nil)) (by kernel_rfl) fun x=>by kernel_rfl
def P8.T(a b c d:Int):Option (Int×Unit):=(wP (a,b,())).bind fun y1=>(wP (c,d,())).bind fun y2=>(Kr (y1.1,y1.2.1,y2.1,y2.2.1,())).bind fun y3=>some (y3.1,())
def zh:=fun x:U8=>P8.T x.1 x.2.1 x.2.2.1 x.2.2.2.1
abbrev YM:aG:=⟨[.v false [CT.int .i64],.v false [CT.int .i64],.v false [CT.int .i64],.v false [CT.int .i64]],[(false,[CT.int .i64])],zh,[]⟩
theorem Pz:aF Dr Tryz.prog 157 YM:=bC mix (.c QA (.c Z9 .nil)) (by kernel_rfl) fun x=>by kernel_rfl
def QE.T(a0 a1 a2 b0 b1 b2:Int):Option (Int×Unit):=(zh (a1,b2,b1,a2,())).bind fun y1=>(qf (a0,b0,())).bind fun y2=>(zT ([(y1.1,()),(y2.1,())],())).bind fun y3=>some (y3.1,())
def Jm:=fun x:Int×U6=>QE.T x.1 x.2.1 x.2.2.1 x.2.2.2.1 x.2.2.2.2.1 x.2.2.2.2.2.1
abbrev Zz:aG:=⟨[.v true ct0,.v true ct0],[(false,[CT.int .i64])],Jm,[]⟩
theorem YW:aF Dr Tryz.prog 156 Zz:=bC mix (.c BX (.c Pz (.c Rn .nil))) (by kernel_rfl) fun x=>by kernel_rfl
end Go.Rv
end
