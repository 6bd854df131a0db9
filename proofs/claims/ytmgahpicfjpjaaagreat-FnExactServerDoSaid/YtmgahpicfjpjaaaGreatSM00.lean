/- What functions come to on pure values (printed by a program of ours). -/
import Derived.Test.YtmgahpicfjpjaaaGreatSRvD
import Derived.Test.YtmgahpicfjpjaaaGreatProg
import Derived.KernelRfl
set_option linter.unusedVariables false
set_option linter.unusedSimpArgs false
set_option linter.unusedSectionVars false
set_option maxRecDepth 100000
noncomputable section
namespace Go.Rv
open Go.Proofs
variable {Dr:Kn} {R:Type} (k0 k:Nat) (K:au R)
abbrev ct0:List CT:=[CT.int .i64,CT.int .i64,CT.int .i64]
abbrev ct1:List CT:=[CT.int .u64,CT.int .u64]
abbrev aC:List CT:=[CT.int .i64,CT.int .i64,CT.int .i64,CT.int .i64]
abbrev jf:List CT:=[CT.int .i64,CT.int .i64,CT.int .i64,CT.int .i64,CT.sl aC,CT.sl aC,CT.sl ct0]
abbrev iK:List CT:=[CT.int .i64,CT.int .i64,CT.int .i64,CT.int .i64,CT.int .i64]
abbrev eG:List CT:=[CT.int .i64,CT.sl aC,CT.sl aC]
abbrev eF:List CT:=[CT.int .i64,CT.int .i64]
abbrev ct7:List CT:=[CT.sl [CT.int .i64],CT.int .i64,CT.int .i64,CT.int .i64,CT.sl [CT.bool]]
abbrev Yo:List CT:=[CT.int .u64,CT.int .u64,CT.int .u64]
abbrev sU:List CT:=[CT.int .i64,CT.int .i64,CT.int .i64,CT.int .i64,CT.sl aC,CT.sl aC,CT.sl ct0,CT.int .i64,CT.int .i64,CT.int .i64]
abbrev BG:List CT:=[CT.int .i64,CT.sl aC,CT.sl aC,CT.int .i64,CT.int .i64]
abbrev Yk:List CT:=[CT.int .u64,CT.int .u64,CT.bool,CT.int .i64]
def fH(p:Int×Int×Int×Int×Unit)(x:Int):Int×Int×Int×Int×Unit:=(x,p.2.1,p.2.2.1,p.2.2.2.1,())
def lH(p:Int×Int×Int×Int×Unit)(x:Int):Int×Int×Int×Int×Unit:=(p.1,x,p.2.2.1,p.2.2.2.1,())
def yu(p:Int×Int×Int×Int×Unit)(x:Int):Int×Int×Int×Int×Unit:=(p.1,p.2.1,x,p.2.2.2.1,())
def X0(p:Int×Int×Int×Int×Unit)(x:Int):Int×Int×Int×Int×Unit:=(p.1,p.2.1,p.2.2.1,x,())
abbrev KN:Kn:=Kn.no
abbrev U0:=Int×Int×Int×Int×(List (Int×Int×Int×Int×Unit))×(List (Int×Int×Int×Int×Unit))×(List (Int×Int×Int×Unit))×Int×Int×Int×Unit
abbrev U1:=Int×Int×Int×Int×(List (Int×Int×Int×Int×Unit))×(List (Int×Int×Int×Int×Unit))×(List (Int×Int×Int×Unit))×Unit
abbrev U2:=Int×(List (Int×Int×Int×Int×Unit))×(List (Int×Int×Int×Int×Unit))×Int×Int×Unit
abbrev U3:=Int×(List (Int×Int×Int×Int×Unit))×(List (Int×Int×Int×Int×Unit))×Unit
abbrev U4:=(List (Int×Unit))×Int×Int×Int×(List (Bool×Unit))×Unit
abbrev U5:=Int×Int×Int×Int×Int×Unit
abbrev U6:=Int×Int×Bool×Int×Unit
abbrev U7:=Int×Int×Int×Int×Unit
abbrev U8:=Int×Int×Int×Unit
abbrev U9:=Int×Int×Unit
abbrev Is:=List bC
abbrev Os:=List (Bool×List CT)
theorem mix:Tryz.prog.follows .mixedOrders=true:=by kernel_rfl
abbrev ku:ByteArray:=qC [0,1,2,2,3,3,3,3,4,4,4,4,4,4,4,4,5,5,5,5,5,5,5,5,5,5,5,5,5,5,5,5,6,6,6,6,6,6,6,6,6,6,6,6,6,6,6,6,6,6,6,6,6,6,6,6,6,6,6,6,6,6,6,6,7,7,7,7,7,7,7,7,7,7,7,7,7,7,7,7,7,7,7,7,7,7,7,7,7,7,7,7,7,7,7,7,7,7,7,7,7,7,7,7,7,7,7,7,7,7,7,7,7,7,7,7,7,7,7,7,7,7,7,7,7,7,7,7,8,8,8,8,8,8,8,8,8,8,8,8,8,8,8,8,8,8,8,8,8,8,8,8,8,8,8,8,8,8,8,8,8,8,8,8,8,8,8,8,8,8,8,8,8,8,8,8,8,8,8,8,8,8,8,8,8,8,8,8,8,8,8,8,8,8,8,8,8,8,8,8,8,8,8,8,8,8,8,8,8,8,8,8,8,8,8,8,8,8,8,8,8,8,8,8,8,8,8,8,8,8,8,8,8,8,8,8,8,8,8,8,8,8,8,8,8,8,8,8,8,8,8,8,8,8,8,8]
abbrev Y0(R:Type):=Int→(List (Int×Unit))→Int→Int→Option R
abbrev Y1(R:Type):=Int→Int→Option R
abbrev Y2(R:Type):=Int→Option R
abbrev Y3(R:Type):=(List U7)→Int→Int→Int→Int→Option R
abbrev Y4(R:Type):=(List U7)→Int→Int→Int→Option R
abbrev Y5(R:Type):=Int→(List U7)→Int→Int→Int→(List U7)→(List U7)→(List U8)→(List (Int×Unit))→(List (Int×Unit))→Option R
abbrev Y6(R:Type):=Int→Int→(List U7)→(List U7)→(List U8)→(List (Int×Unit))→(List (Int×Unit))→Option R
abbrev Y7(R:Type):=Int→(List U7)→Int→Int→(List U8)→(List (Int×Unit))→(List (Int×Unit))→Option R
abbrev Y8(R:Type):=(List U8)→(List (Int×Unit))→(List (Int×Unit))→Option R
abbrev Y9(R:Type):=(List U8)→Int→Int→Int→Int→Int→Option R
abbrev dI(R:Type):=Unit→Option R
abbrev uj(R:Type):=Int→Int→Int→Int→Int→Int→Int→Int→Int→Option R
abbrev yX(R:Type):=Int→Int→Int→Int→Int→Int→Int→Int→Option R
abbrev Qe(R:Type):=Int→Int→Int→Int→Int→Int→Option R
abbrev Gq(R:Type):=(List U8)→Int→Int→(List U8)→Int→Int→Int→Int→Int→Int→(List (Int×Unit))→(List (Bool×Unit))→Option R
abbrev Qd(R:Type):=(List U8)→Int→Int→Int→Int→Int→Int→(List (Int×Unit))→(List (Bool×Unit))→Option R
abbrev vN(R:Type):=Nat→Nat→(List U8)→Int→Int→Int→Int→Int→Int→(List U8)→(List (Int×Unit))→(List (Bool×Unit))→Option R
abbrev vM(R:Type):=(List U8)→Int→Int→Int→Int→Int→Int→(List U8)→(List (Int×Unit))→(List (Bool×Unit))→Option R
abbrev Gp(R:Type):=Int→Int→Int→(List U8)→Int→Int→Int→Int→Int→Int→(List (Bool×Unit))→(List U8)→(List (Int×Unit))→(List (Bool×Unit))→Option R
abbrev BR(R:Type):=Int→(List U8)→Int→Int→Int→Int→Int→Int→(List (Bool×Unit))→(List (Int×Unit))→(List (Bool×Unit))→Option R
abbrev Gn(R:Type):=Int→Nat→Nat→Int→Int→(List U8)→Int→Int→Int→Int→Int→Int→(List (Bool×Unit))→(List U8)→(List (Int×Unit))→(List (Bool×Unit))→Option R
abbrev Gm(R:Type):=Int→Int→Int→Int→Int→Int→Int→Int→Int→(List (Bool×Unit))→(List (Int×Unit))→(List (Bool×Unit))→Option R
abbrev Qc(R:Type):=Int→Int→Int→Int→Int→Int→(List (Int×Unit))→(List (Bool×Unit))→Option R
abbrev ug(R:Type):=Int→Int→(List U9)→(List U9)→(List (Int×Unit))→(List (Int×Unit))→(List (Int×Unit))→Option R
abbrev Qb(R:Type):=(List U9)→(List U9)→(List (Int×Unit))→(List (Int×Unit))→(List (Int×Unit))→Option R
abbrev yV(R:Type):=(List U9)→(List U9)→Option R
abbrev nS(R:Type):=(List U7)→Int→Int→Int→(List U7)→(List U7)→(List U9)→(List U9)→Option R
abbrev yU(R:Type):=Int→(List U7)→(List U7)→(List U9)→(List U9)→Option R
abbrev Gl(R:Type):=Int→Int→Int→(List U8)→Int→Int→Option R
abbrev uf(R:Type):=(List U8)→Int→Int→Int→Int→Option R
abbrev Qa(R:Type):=(List U8)→Int→Int→Int→Option R
abbrev tZ(R:Type):=(List U7)→(Int×Unit)→Int→Int→Option R
abbrev tY(R:Type):=Int→Int→Int→(List U7)→(List U7)→Option R
abbrev tX(R:Type):=Int→Int→(List U7)→(List U7)→Option R
abbrev yT(R:Type):=Bool→Int→(List U7)→(List U7)→Option R
abbrev yS(R:Type):=Int→(List U7)→(List U7)→Option R
abbrev gu(R:Type):=Bool→Option R
abbrev Gj(R:Type):=(List U8)→Int→Option R
abbrev Gi(R:Type):=Int→Int→Int→Int→Int→(List U7)→(List U7)→(List U8)→Option R
abbrev tV(R:Type):=Bool→Int→Int→(List U7)→(List U7)→Int→Int→Int→Int→Int→Int→Int→Int→Int→(List U7)→(List U7)→Option R
abbrev yR(R:Type):=Bool→Int→Int→Int→Int→Int→Int→Int→Int→Int→(List U7)→(List U7)→Option R
abbrev tN(R:Type):=Int→Int→Int→(List U7)→(List U7)→Int→Int→Int→Int→Int→Int→Int→Int→Option R
abbrev P9(R:Type):=Int→Int→(List U7)→(List U7)→Int→Int→Int→Int→Int→Int→Int→Int→(List U7)→(List U7)→Option R
abbrev P8(R:Type):=Int→Int→(List U7)→(List U7)→Int→Int→Int→Int→Int→Int→Int→Int→Option R
abbrev P7(R:Type):=Int→Int→(List U7)→(List U7)→Int→Int→Int→(List U7)→(List U7)→Option R
abbrev P6(R:Type):=Int→Int→(List U7)→(List U7)→Int→Int→Int→Option R
abbrev yQ(R:Type):=(List (Int×Unit))→Option R
abbrev tK(R:Type):=Int→Int→Int→Int→(List U7)→(List U7)→(List (Int×Unit))→Option R
abbrev yP(R:Type):=Int→Int→Int→(List U7)→(List U7)→(List (Int×Unit))→Option R
abbrev Gg(R:Type):=Int→Int→(List U7)→(List U7)→(List (Int×Unit))→Option R
abbrev Gf(R:Type):=Int→Int→Int→(List U7)→(List U7)→(List (Int×Unit))→(List U9)→(List U8)→Option R
abbrev P5(R:Type):=Int→Int→(List U7)→(List U7)→(List U9)→(List U8)→Option R
abbrev F9(R:Type):=Int→Int→Int→(List U7)→(List U7)→(List U9)→(List U8)→Option R
abbrev PZ(R:Type):=(List U9)→(List U8)→Option R
abbrev tJ(R:Type):=Int→Int→Int→Int→Int→Option R
abbrev qQ(R:Type):=Int→Int→Int→Int→Option R
abbrev F8(R:Type):=Int→Int→Int→Int→Int→Int→Int→Option R
abbrev F7(R:Type):=Int→Int→Int→Int→Int→Int→Int→Int→Int→Int→Int→Int→Option R
abbrev vK(R:Type):=(List U8)→Int→Int→Int→(List (Int×Unit))→(List (Bool×Unit))→Option R
abbrev lK(R:Type):=(List U8)→Int→Int→(List (Int×Unit))→(List (Bool×Unit))→Option R
abbrev tH(R:Type):=(List U8)→Int→Int→Int→Int→(List (Int×Unit))→(List (Bool×Unit))→Option R
abbrev PY(R:Type):=(List U8)→Int→(List (Int×Unit))→(List (Bool×Unit))→Option R
abbrev PX(R:Type):=(List (Int×Unit))→(List (Int×Unit))→Option R
abbrev F6(R:Type):=Int→Int→Int→(List U7)→(List U7)→(List (Int×Unit))→(List (Int×Unit))→(List U9)→(List (Int×Unit))→Option R
abbrev vJ(R:Type):=Int→Int→(List U7)→(List U7)→(List (Int×Unit))→(List (Int×Unit))→Option R
abbrev F5(R:Type):=Int→Int→(List U7)→(List U7)→(List U9)→(List (Int×Unit))→Option R
abbrev PW(R:Type):=(List U9)→Option R
abbrev FZ(R:Type):=(List U8)→Bool→Int→Int→Int→Int→(List U8)→(List U8)→Option R
abbrev PU(R:Type):=Bool→Int→Int→Int→(List U8)→(List U8)→Option R
abbrev FY(R:Type):=Int→Int→Int→Int→Int→Int→(List U7)→(List U7)→(List U8)→Int→Int→Int→Int→Int→Int→Int→Int→Int→Int→Int→Int→Int→Int→Int→Int→(List U9)→(List U7)→(List U7)→(List U8)→Option R
abbrev PS(R:Type):=Int→Int→Int→Int→Int→(List U7)→(List U7)→(List U8)→Int→Int→Int→Int→Int→Int→Int→Int→Int→Int→Int→Int→Int→Int→Int→Int→(List U7)→(List U7)→(List U8)→Option R
abbrev FX(R:Type):=(List (Int×Unit))→Int→Int→Option R
abbrev FW(R:Type):=(List (Int×Unit))→Int→Int→Int→Int→Int→(List U7)→(List U7)→(List U8)→Int→Int→Int→Int→Int→Int→Int→Int→(List U7)→(List U7)→(List U8)→Option R
abbrev PO(R:Type):=Int→Int→Int→Int→Int→Int→Int→Int→(List U7)→(List U7)→(List U8)→Option R
abbrev vI(R:Type):=Int→Int→Int→Int→Int→(List U7)→(List U7)→(List U8)→Int→Int→Int→Int→Int→Int→Int→(List (Int×Unit))→Option R
abbrev yO(R:Type):=Int→Int→Int→Int→(List U7)→(List U7)→(List U8)→Int→Int→Int→Int→Int→Int→Int→(List (Int×Unit))→Option R
abbrev tC(R:Type):=(List U7)→Int→(List U7)→Option R
abbrev yN(R:Type):=(List U7)→Option R
abbrev FV(R:Type):=(List U8)→Int→(List U8)→Option R
abbrev yM(R:Type):=(List U8)→Option R
abbrev tu(R:Type):=(List U7)→Int→Int→Int→(List U7)→(List U7)→Option R
abbrev FU(R:Type):=(List U8)→(List U8)→Int→Int→Option R
abbrev PN(R:Type):=(List U8)→Bool→Option R
abbrev FT(R:Type):=(List U8)→Int→Int→Int→Int→Int→Int→(List U7)→(List U7)→(List U8)→Option R
abbrev tq(R:Type):=(List U7)→(List U7)→Int→Option R
abbrev FQ(R:Type):=(List U8)→(List U8)→Int→Option R
abbrev sZ(R:Type):=Int→Int→(List U7)→Option R
abbrev yL(R:Type):=Int→(List U7)→Option R
abbrev FP(R:Type):=Int→Int→(List U8)→Option R
abbrev PL(R:Type):=Int→(List U8)→Option R
abbrev sW(R:Type):=(List U7)→Int→Int→Option R
abbrev FO(R:Type):=(List U8)→Int→Int→Option R
def KP.T(x:Int):Option (Bool×Unit):=some ((x != x),())
def wu:=fun x:Int×Unit=>KP.T x.1
abbrev aaF:aG:=⟨[.v false [CT.int .i64]],[(false,[CT.bool])],wu,[]⟩
theorem ZV:aF Dr Tryz.prog 138 aaF:=aW mix .nil (by kernel_rfl) fun x=>by kernel_rfl
def JP.T(x y:Int):Option (Int×Unit):=(wu (x,())).bind fun y1=>(wu (y,())).bind fun y2=>cond y1.1 (cond y2.1 (some (0,())) (some ((-1),()))) (cond y2.1 (some (1,())) (cond (decide (x<y)) (some ((-1),())) (cond (decide (x>y)) (some (1,())) (some (0,())))))
def pW:=fun x:U9=>JP.T x.1 x.2.1
abbrev ZG:aG:=⟨[.v false [CT.int .i64],.v false [CT.int .i64]],[(false,[CT.int .i64])],pW,[]⟩
theorem Ci:aF Dr Tryz.prog 118 ZG:=aW mix (.c ZV .nil) (by kernel_rfl) fun x=>by kernel_rfl
def Rj.T(x y:Int):Option (U9):=some ((IntKind.u64.wrap ((IntKind.u64.wrap ((IntKind.u64.wrap ((Int.fdiv x (2 ^ 32))*(Int.fdiv y (2 ^ 32))))+(Int.fdiv (IntKind.u64.wrap ((IntKind.u64.wrap ((Int.fdiv x (2 ^ 32))*(IntKind.u64.wrap (((BitVec.ofInt 64 y) &&& (BitVec.ofInt 64 4294967295)).toNat))))+(Int.fdiv (IntKind.u64.wrap ((IntKind.u64.wrap (((BitVec.ofInt 64 x) &&& (BitVec.ofInt 64 4294967295)).toNat))*(IntKind.u64.wrap (((BitVec.ofInt 64 y) &&& (BitVec.ofInt 64 4294967295)).toNat)))) (2 ^ 32)))) (2 ^ 32))))+(Int.fdiv (IntKind.u64.wrap ((IntKind.u64.wrap (((BitVec.ofInt 64 (IntKind.u64.wrap ((IntKind.u64.wrap ((Int.fdiv x (2 ^ 32))*(IntKind.u64.wrap (((BitVec.ofInt 64 y) &&& (BitVec.ofInt 64 4294967295)).toNat))))+(Int.fdiv (IntKind.u64.wrap ((IntKind.u64.wrap (((BitVec.ofInt 64 x) &&& (BitVec.ofInt 64 4294967295)).toNat))*(IntKind.u64.wrap (((BitVec.ofInt 64 y) &&& (BitVec.ofInt 64 4294967295)).toNat)))) (2 ^ 32))))) &&& (BitVec.ofInt 64 4294967295)).toNat))+(IntKind.u64.wrap ((IntKind.u64.wrap (((BitVec.ofInt 64 x) &&& (BitVec.ofInt 64 4294967295)).toNat))*(Int.fdiv y (2 ^ 32)))))) (2 ^ 32)))),(IntKind.u64.wrap (x*y)),())
def CU:=fun x:U9=>Rj.T x.1 x.2.1
abbrev aar:aG:=⟨[.v false [CT.int .u64],.v false [CT.int .u64]],[(false,[CT.int .u64]),(false,[CT.int .u64])],CU,[]⟩
theorem ZJ:aF Dr Tryz.prog 200 aar:=aW mix .nil (by kernel_rfl) fun x=>by kernel_rfl
def Tq.T(a b:Int):Option (U9):=(CU (a,b,())).bind fun y1=>some (y1.1,y1.2.1,())
def LG:=fun x:U9=>Tq.T x.1 x.2.1
abbrev ab4:aG:=⟨[.v false [CT.int .u64],.v false [CT.int .u64]],[(true,ct1)],LG,[]⟩
theorem abo:aF Dr Tryz.prog 194 ab4:=aW mix (.c ZJ .nil) (by kernel_rfl) fun x=>by kernel_rfl
def Tm.T(a b:Int):Option (U9):=(LG ((IntKind.u64.wrap (a)),(IntKind.u64.wrap (b)),())).bind fun y1=>some (y1.1,y1.2.1,())
def wK:=fun x:U9=>Tm.T x.1 x.2.1
abbrev ab2:aG:=⟨[.v false [CT.int .i64],.v false [CT.int .i64]],[(true,ct1)],wK,[]⟩
theorem Rh:aF Dr Tryz.prog 185 ab2:=aW mix (.c abo .nil) (by kernel_rfl) fun x=>by kernel_rfl
abbrev Le:Is:=[.v false [CT.sl [CT.int .i64]]]
abbrev KD:Os:=[(false,[CT.int .i64])]
namespace uN
def aA:Nat→List Nat×List Nat:=fun k=>if k=3 then([3,6,7,8],[2,3])else([],[])
def zrc{R:Type}(k0:Nat)(p:List Nat):Env→List Ob→au R→Option R:=bF Tryz.prog (aS []) 18 0 aA k0 (bV p (dm Tryz.prog 191))
def R0{R:Type}(nx0:Y0 R)(ex0:Y1 R)(ex1:Y2 R)(zero:Int)(t6x:List (Int×Unit))(t7x t8x:Int):Option R:=cond (decide (t8x<t7x)) (if 0≤t8x∧t8x<(t6x.length:Int)then cond ((rd (0,()) t6x t8x).1 != zero) (ex0 ((rd (0,()) t6x t8x).1) zero) (nx0 zero t6x t7x (af (t8x+1)))else none) (ex1 zero)
def A0(vals:List (Int×Unit))(t2x zero:Int):Option (Int×Unit):=some (t2x,())
def A1(vals:List (Int×Unit))(zero:Int):Option (Int×Unit):=some (zero,())
def T(lo0:Y0 (Int×Unit))(vals:List (Int×Unit)):Option (Int×Unit):=lo0 0 vals (vals.length:Int) 0
def K0{R:Type}(k0:Nat)(K:au R):au R:=bf 0 (bD (fun env ob=>zrc k0 [1,1,1] env ob (K)) (K))
def L0:Y0 R:=fun zero t6x t7x t8x=>iter 0 [3,6,7,8] [2,3] (zrc k0 [1,1,0,1,0,0]) k [(3,.int .i64 zero),(6,.sl [CT.int .i64] t6x),(7,.int .i64 t7x),(8,.int .i64 t8x)] [] K
def H0:Y1 R:=fun t2x zero=>K .ret [(2,.int .i64 t2x),(3,.int .i64 zero)] []
def H1:Y2 R:=fun zero=>K (.exit 0) [(2,.undef),(3,.int .i64 zero)] []
theorem zs0:L0 k0 (k+1) K=R0 (L0 k0 k K) (H0 K) (H1 K):=by kernel_rfl
def G0{R:Type}(k0:Nat)(hx0:Y1 R)(hx1:Y2 R):Nat→Y0 R
 |0=>fun _ _ _ _=>none
 |k+1=>R0 (G0 k0 hx0 hx1 k) hx0 hx1
theorem aO:∀ k,L0 k0 k K=G0 k0 (H0 K) (H1 K) k:=bI rfl fun k ih=>by rw[zs0,G0];(try simp only[ih]);try rfl
variable (vals:List (Int×Unit))
def aB:au (Int×Unit):=cu Tryz.prog [.tmp 2] Le KD (vals,())
theorem aU:H0 (K0 k0 (aB vals))=A0 vals:=by kernel_rfl
theorem bW:H1 (K0 k0 (aB vals))=A1 vals:=by kernel_rfl
def FF:Option (Int×Unit):=T (G0 k0 (A0 vals) (A1 vals) k0) vals
theorem aT:cO Tryz.prog (aS []) aA k0 191 Le KD [] (vals,())=FF k0 vals:=Eq.trans (b:=T (L0 k0 k0 (K0 k0 (aB vals))) vals) (by kernel_rfl) (by rw[FF];(try simp only[aO,aU,bW]);try rfl)
def _root_.Go.Rv.zX:=fun x:(List (Int×Unit))×Unit=>FF (300+x.1.length) x.1
abbrev _root_.Go.Rv.acI:aG:=⟨Le,KD,zX,[]⟩
theorem _root_.Go.Rv.Sr:aF Dr Tryz.prog 191 acI:=dw mix .nil (by kernel_rfl) fun x=>⟨aA,_,aT _ _⟩
end uN
def QU.T(x:Int):Option (Bool×Unit):=some ((x != x),())
def CP:=fun x:Int×Unit=>QU.T x.1
abbrev aac:aG:=⟨[.v false [CT.int .u64]],[(false,[CT.bool])],CP,[]⟩
theorem ZC:aF Dr Tryz.prog 211 aac:=aW mix .nil (by kernel_rfl) fun x=>by kernel_rfl
def QA.T(x y:Int):Option (Int×Unit):=(CP (x,())).bind fun y1=>(CP (y,())).bind fun y2=>cond y1.1 (cond y2.1 (some (0,())) (some ((-1),()))) (cond y2.1 (some (1,())) (cond (decide (x<y)) (some ((-1),())) (cond (decide (x>y)) (some (1,())) (some (0,())))))
def zi:=fun x:U9=>QA.T x.1 x.2.1
abbrev Zq:aG:=⟨[.v false [CT.int .u64],.v false [CT.int .u64]],[(false,[CT.int .i64])],zi,[]⟩
theorem Zk:aF Dr Tryz.prog 198 Zq:=aW mix (.c ZC .nil) (by kernel_rfl) fun x=>by kernel_rfl
def Tv.T(a0 a1 b0 b1:Int):Option (Int×Unit):=(zi (a0,b0,())).bind fun y1=>(zi (a1,b1,())).bind fun y2=>(zX ([(y1.1,()),(y2.1,())],())).bind fun y3=>some (y3.1,())
def LH:=fun x:U7=>Tv.T x.1 x.2.1 x.2.2.1 x.2.2.2.1
abbrev ab6:aG:=⟨[.v true ct1,.v true ct1],[(false,[CT.int .i64])],LH,[]⟩
theorem abq:aF Dr Tryz.prog 192 ab6:=aW mix (.c Sr (.c Zk .nil)) (by kernel_rfl) fun x=>by kernel_rfl
def QG.T(a b c d:Int):Option (Int×Unit):=(wK (a,b,())).bind fun y1=>(wK (c,d,())).bind fun y2=>(LH (y1.1,y1.2.1,y2.1,y2.2.1,())).bind fun y3=>some (y3.1,())
def zk:=fun x:U7=>QG.T x.1 x.2.1 x.2.2.1 x.2.2.2.1
abbrev ZE:aG:=⟨[.v false [CT.int .i64],.v false [CT.int .i64],.v false [CT.int .i64],.v false [CT.int .i64]],[(false,[CT.int .i64])],zk,[]⟩
theorem Qo:aF Dr Tryz.prog 183 ZE:=aW mix (.c Rh (.c abq .nil)) (by kernel_rfl) fun x=>by kernel_rfl
def Ro.T(a0 a1 a2 b0 b1 b2:Int):Option (Int×Unit):=(zk (a1,b2,b1,a2,())).bind fun y1=>(pW (a0,b0,())).bind fun y2=>(zX ([(y1.1,()),(y2.1,())],())).bind fun y3=>some (y3.1,())
def JV:=fun x:Int×U5=>Ro.T x.1 x.2.1 x.2.2.1 x.2.2.2.1 x.2.2.2.2.1 x.2.2.2.2.2.1
abbrev aaC:aG:=⟨[.v true ct0,.v true ct0],[(false,[CT.int .i64])],JV,[]⟩
theorem ZT:aF Dr Tryz.prog 182 aaC:=aW mix (.c Ci (.c Qo (.c Sr .nil))) (by kernel_rfl) fun x=>by kernel_rfl
end Go.Rv
end
