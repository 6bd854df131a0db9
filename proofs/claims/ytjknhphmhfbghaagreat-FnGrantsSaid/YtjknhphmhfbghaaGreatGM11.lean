/- What functions come to on pure values (printed by a program of ours). -/
import Derived.Test.YtjknhphmhfbghaaGreatGM10
set_option linter.unusedVariables false
set_option linter.unusedSimpArgs false
set_option linter.unusedSectionVars false
set_option maxRecDepth 100000
noncomputable section
namespace Go.Rv
open Go.Proofs
variable {Dr:Kn} {R:Type} (k0 k:Nat) (K:au R)
def Jv.T(g0 g1 g2 g3 id:Int):Option (Int×Unit):=(qi (g0,id,())).bind fun y1=>some (y1.1,())
def zo:=fun x:U6=>Jv.T x.1 x.2.1 x.2.2.1 x.2.2.2.1 x.2.2.2.2.1
abbrev IK:aG:=⟨[.v true aA,.v false [CT.int .i64]],[(false,[CT.int .i64])],zo,[]⟩
theorem Zb:aF Dr Tryz.prog 126 IK:=bg mix (.c BZ .nil) (by kernel_rfl) fun x=>by kernel_rfl
abbrev Gx:Is:=[.v false [CT.sl aA],.v false [CT.int .i64],.cl 126 []]
abbrev Gv:Os:=[(false,[CT.int .i64]),(false,[CT.bool])]
namespace vY
def aC:Nat→List Nat×List Nat:=fun k=>if k=3 then([0,1,2,8,9,10],[0,1,2,8,9])else([],[])
def zrc{R:Type}(k0:Nat)(p:List Nat):Env→List Ob→au R→Option R:=bJ Tryz.prog (aW [(126,[],IK)]) 49 0 aC k0 (cO p (dI Tryz.prog 125))
def R0{R:Type}(nx0:Y3 R)(ex0:Y4 R)(x2:List U8)(target2 n i j:Int):Option R:=cond (decide (i<j)) (if 0≤(af ((Int.fdiv (IntKind.u64.wrap ((af (i+j)))) (2 ^ 1))))∧(af ((Int.fdiv (IntKind.u64.wrap ((af (i+j)))) (2 ^ 1))))<(x2.length:Int)then(zo ((rd (0,0,0,0,()) x2 (af ((Int.fdiv (IntKind.u64.wrap ((af (i+j)))) (2 ^ 1))))).1,(rd (0,0,0,0,()) x2 (af ((Int.fdiv (IntKind.u64.wrap ((af (i+j)))) (2 ^ 1))))).2.1,(rd (0,0,0,0,()) x2 (af ((Int.fdiv (IntKind.u64.wrap ((af (i+j)))) (2 ^ 1))))).2.2.1,(rd (0,0,0,0,()) x2 (af ((Int.fdiv (IntKind.u64.wrap ((af (i+j)))) (2 ^ 1))))).2.2.2.1,target2,())).bind fun y1=>cond (decide (y1.1<0)) (nx0 x2 target2 n (af ((af ((Int.fdiv (IntKind.u64.wrap ((af (i+j)))) (2 ^ 1))))+1)) j) (nx0 x2 target2 n i (af ((Int.fdiv (IntKind.u64.wrap ((af (i+j)))) (2 ^ 1)))))else none) (ex0 x2 target2 n i)
def A0(x:List U8)(target:Int)(x2:List U8)(target2 n i:Int):Option (Int×Bool×Unit):=cond (decide (i<n)) (if 0≤i∧i<(x2.length:Int)then(zo ((rd (0,0,0,0,()) x2 i).1,(rd (0,0,0,0,()) x2 i).2.1,(rd (0,0,0,0,()) x2 i).2.2.1,(rd (0,0,0,0,()) x2 i).2.2.2.1,target2,())).bind fun y1=>some (i,(y1.1==0),())else none) (some (i,false,()))
def T(lo0:Y3 (Int×Bool×Unit))(x:List U8)(target:Int):Option (Int×Bool×Unit):=lo0 x target (x.length:Int) 0 (x.length:Int)
def K0{R:Type}(k0:Nat)(K:au R):au R:=bF 0 (bI (fun env ob=>zrc k0 [1,1,1,1] env ob (K)) (K))
def L0:Y3 R:=fun x2 target2 n i j=>iter 0 [0,1,2,8,9,10] [0,1,2,8,9] (zrc k0 [1,1,1,0,0,0]) k [(0,.sl aA x2),(1,.int .i64 target2),(2,.fn 126 []),(8,.int .i64 n),(9,.int .i64 i),(10,.int .i64 j)] [] K
def H0:Y4 R:=fun x2 target2 n i=>K (.exit 0) [(0,.sl aA x2),(1,.int .i64 target2),(2,.fn 126 []),(8,.int .i64 n),(9,.int .i64 i)] []
theorem zs0:L0 k0 (k+1) K=R0 (L0 k0 k K) (H0 K):=by kernel_rfl
def G0{R:Type}(k0:Nat)(hx0:Y4 R):Nat→Y3 R
 |0=>fun _ _ _ _ _=>none
 |k+1=>R0 (G0 k0 hx0 k) hx0
theorem aS:∀ k,L0 k0 k K=G0 k0 (H0 K) k:=bK rfl fun k ih=>by rw[zs0,G0];(try simp only[ih]);try rfl
variable (x:List U8) (target:Int)
def aB:au (Int×Bool×Unit):=dm Tryz.prog [.tmp 6,.tmp 7] Gx Gv (x,target,())
theorem aZ:H0 (K0 k0 (aB x target))=A0 x target:=by kernel_rfl
def FF:Option (Int×Bool×Unit):=T (G0 k0 (A0 x target) k0) x target
theorem aY:dB Tryz.prog (aW [(126,[],IK)]) aC k0 125 Gx Gv [] (x,target,())=FF k0 x target:=Eq.trans (b:=T (L0 k0 k0 (K0 k0 (aB x target))) x target) (by kernel_rfl) (by rw[FF];(try simp only[aS,aZ]);try rfl)
def _root_.Go.Rv.Gz:=fun x:(List U8)×Int×Unit=>FF (300+x.1.length) x.1 x.2.1
abbrev _root_.Go.Rv.Yd:aG:=⟨Gx,Gv,Gz,[]⟩
theorem _root_.Go.Rv.Yc:aF Dr Tryz.prog 125 Yd:=dJ mix (.c Zb .nil) (by kernel_rfl) fun x=>⟨aC,_,aY _ _ _⟩
end vY
def J6.T(f0:Int)(f1 f2:List U8)(id:Int):Option (Int×Bool×Unit):=(Gz (f1,id,())).bind fun y1=>some (y1.1,y1.2.1,())
def qm:=fun x:Int×(List U8)×(List U8)×Int×Unit=>J6.T x.1 x.2.1 x.2.2.1 x.2.2.2.1
abbrev ZX:aG:=⟨[.v true gu,.v false [CT.int .i64]],[(false,[CT.int .i64]),(false,[CT.bool])],qm,[]⟩
theorem Cj:aF Dr Tryz.prog 109 ZX:=bg mix (.cf [126] Yc .nil) (by kernel_rfl) fun x=>by kernel_rfl
def RY.T(f0:Int)(f1 f2:List U8)(id:Int):Option (Int×Unit):=cond (id==0) (some (f0,())) ((qm (f0,f1,f2,id,())).bind fun y1=>if 0≤y1.1∧y1.1<(f1.length:Int)then some ((rd (0,0,0,0,()) f1 y1.1).2.2.1,())else none)
def zL:=fun x:Int×(List U8)×(List U8)×Int×Unit=>RY.T x.1 x.2.1 x.2.2.1 x.2.2.2.1
abbrev Rj:aG:=⟨[.v true gu,.v false [CT.int .i64]],[(false,[CT.int .i64])],zL,[]⟩
theorem aag:aF Dr Tryz.prog 153 Rj:=bg mix (.c Cj .nil) (by kernel_rfl) fun x=>by kernel_rfl
abbrev oP:Is:=[.v true gu,.v false [CT.int .i64]]
abbrev oO:Os:=[(false,[CT.int .i64])]
namespace jw
def dF(rc:Int×(List U8)×(List U8)×Int×Unit→Option (Int×Unit)):dV:=aW [(134,[],⟨oP,oO,rc,[]⟩),(153,[],Rj)]
def EU:Code:=((Tryz.prog.funcs[134]?).bind (·.body)).getD .skip
def aC:Nat→List Nat×List Nat:=fun k=>if k=3 then([1,2,5,11,12,13],[1,2,5])else if k=9 then([1,2,5,29,30,31],[1,2,5])else([],[])
def R0{R:Type}(rc:Int×(List U8)×(List U8)×Int×Unit→Option (Int×Unit))(nx0:(Int→Int→(List U8)→Int→Int→Int→(List U8)→(List U8)→Option R))(ex0:(Int→Int→Int→(List U8)→(List U8)→Option R))(id2 sum:Int)(t11x:List U8)(t12x t13x f:Int)(f3 f4:List U8):Option R:=cond (decide (t13x<t12x)) (if 0≤t13x∧t13x<(t11x.length:Int)then cond ((rd (0,0,0,0,()) t11x t13x).2.1==id2) ((rc (f,f3,f4,(rd (0,0,0,0,()) t11x t13x).1,())).bind fun y1=>nx0 id2 (af (sum+y1.1)) t11x t12x (af (t13x+1)) f f3 f4) (nx0 id2 sum t11x t12x (af (t13x+1)) f f3 f4)else none) (ex0 id2 sum f f3 f4)
def R1{R:Type}(rc:Int×(List U8)×(List U8)×Int×Unit→Option (Int×Unit))(nx1:(Int→Int→(List U8)→Int→Int→Int→(List U8)→(List U8)→Option R))(ex1:(Int→Int→Int→(List U8)→(List U8)→Option R))(id2 sum:Int)(t29x:List U8)(t30x t31x f:Int)(f3 f4:List U8):Option R:=cond (decide (t31x<t30x)) (if 0≤t31x∧t31x<(t29x.length:Int)then cond ((rd (0,0,0,0,()) t29x t31x).2.1==id2) (nx1 id2 (af (sum+(rd (0,0,0,0,()) t29x t31x).2.2.1)) t29x t30x (af (t31x+1)) f f3 f4) (nx1 id2 sum t29x t30x (af (t31x+1)) f f3 f4)else none) (ex1 id2 sum f f3 f4)
def A0(rc:Int×(List U8)×(List U8)×Int×Unit→Option (Int×Unit))(lo1:(Int→Int→(List U8)→Int→Int→Int→(List U8)→(List U8)→Option (Int×Unit)))(f0:Int)(f1 f2:List U8)(id:Int)(id2 sum f:Int)(f3 f4:List U8):Option (Int×Unit):=lo1 id2 sum f4 (f4.length:Int) 0 f f3 f4
def A1(rc:Int×(List U8)×(List U8)×Int×Unit→Option (Int×Unit))(f0:Int)(f1 f2:List U8)(id:Int)(id2 sum f:Int)(f3 f4:List U8):Option (Int×Unit):=(zL (f,f3,f4,id2,())).bind fun y1=>some ((mn sum y1.1),())
def T(rc:Int×(List U8)×(List U8)×Int×Unit→Option (Int×Unit))(lo0:(Int→Int→(List U8)→Int→Int→Int→(List U8)→(List U8)→Option (Int×Unit)))(f0:Int)(f1 f2:List U8)(id:Int):Option (Int×Unit):=lo0 id 0 f1 (f1.length:Int) 0 f0 f1 f2
def aeZ{R:Type}(rc:Int×(List U8)×(List U8)×Int×Unit→Option (Int×Unit))(k0:Nat):Env→List Ob→au R→Option R:=fun env ob K=>bJ Tryz.prog (dF rc) 49 0 aC k0 (cO [1,1,0,1,0,0] EU) env ob K
def K0{R:Type}(rc:Int×(List U8)×(List U8)×Int×Unit→Option (Int×Unit))(k0:Nat)(K:au R):au R:=bF 0 (bI (fun env ob=>bJ Tryz.prog (dF rc) 49 0 aC k0 (cO [1,1,1] EU) env ob (K)) (K))
def aeY{R:Type}(rc:Int×(List U8)×(List U8)×Int×Unit→Option (Int×Unit))(k0:Nat):Env→List Ob→au R→Option R:=fun env ob K=>bJ Tryz.prog (dF rc) 49 0 aC k0 (cO [1,1,1,0,1,0,0] EU) env ob K
def K1{R:Type}(rc:Int×(List U8)×(List U8)×Int×Unit→Option (Int×Unit))(k0:Nat)(K:au R):au R:=bF 2 (bI (fun env ob=>bJ Tryz.prog (dF rc) 49 0 aC k0 (cO [1,1,1,1] EU) env ob (K)) (K))
def L0{R:Type}(rc:Int×(List U8)×(List U8)×Int×Unit→Option (Int×Unit))(k0 k:Nat)(K:au R)(id2 sum:Int)(t11x:List U8)(t12x t13x f:Int)(f3 f4:List U8):Option R:=iter 0 [1,2,5,11,12,13] [1,2,5] (aeZ rc k0) k [(1,.int .i64 id2),(2,.ptr 0 0 0 0),(5,.int .i64 sum),(11,.sl aA t11x),(12,.int .i64 t12x),(13,.int .i64 t13x)] [.box [.int .i64 f,.sl aA f3,.sl aA f4]] K
def L1{R:Type}(rc:Int×(List U8)×(List U8)×Int×Unit→Option (Int×Unit))(k0 k:Nat)(K:au R)(id2 sum:Int)(t29x:List U8)(t30x t31x f:Int)(f3 f4:List U8):Option R:=iter 0 [1,2,5,29,30,31] [1,2,5] (aeY rc k0) k [(1,.int .i64 id2),(2,.ptr 0 0 0 0),(5,.int .i64 sum),(29,.sl aA t29x),(30,.int .i64 t30x),(31,.int .i64 t31x)] [.box [.int .i64 f,.sl aA f3,.sl aA f4]] K
theorem zs0{R:Type}(rc:Int×(List U8)×(List U8)×Int×Unit→Option (Int×Unit))(k0 k:Nat)(K:au R)(id2 sum:Int)(t11x:List U8)(t12x t13x f:Int)(f3 f4:List U8):L0 rc k0 (k+1) K id2 sum t11x t12x t13x f f3 f4=R0 rc (L0 rc k0 k K) (fun id2 sum f f3 f4=>K (.exit 0) [(1,.int .i64 id2),(2,.ptr 0 0 0 0),(5,.int .i64 sum)] [.box [.int .i64 f,.sl aA f3,.sl aA f4]]) id2 sum t11x t12x t13x f f3 f4:=by kernel_rfl
theorem zs1{R:Type}(rc:Int×(List U8)×(List U8)×Int×Unit→Option (Int×Unit))(k0 k:Nat)(K:au R)(id2 sum:Int)(t29x:List U8)(t30x t31x f:Int)(f3 f4:List U8):L1 rc k0 (k+1) K id2 sum t29x t30x t31x f f3 f4=R1 rc (L1 rc k0 k K) (fun id2 sum f f3 f4=>K (.exit 2) [(1,.int .i64 id2),(2,.ptr 0 0 0 0),(5,.int .i64 sum)] [.box [.int .i64 f,.sl aA f3,.sl aA f4]]) id2 sum t29x t30x t31x f f3 f4:=by kernel_rfl
theorem aZ(rc:Int×(List U8)×(List U8)×Int×Unit→Option (Int×Unit))(k0:Nat)(f0:Int)(f1 f2:List U8)(id:Int)(id2 sum f:Int)(f3 f4:List U8):K0 (R:=(Int×Unit)) rc k0 (dm Tryz.prog [.tmp 4] oP oO (f0,f1,f2,id,())) (.exit 0) [(1,.int .i64 id2),(2,.ptr 0 0 0 0),(5,.int .i64 sum)] [.box [.int .i64 f,.sl aA f3,.sl aA f4]]=A0 rc (L1 (R:=(Int×Unit)) rc k0 k0 (K1 (R:=(Int×Unit)) rc k0 ((dm Tryz.prog [.tmp 4] oP oO (f0,f1,f2,id,()))))) f0 f1 f2 id id2 sum f f3 f4:=by kernel_rfl
theorem dw(rc:Int×(List U8)×(List U8)×Int×Unit→Option (Int×Unit))(k0:Nat)(f0:Int)(f1 f2:List U8)(id:Int)(id2 sum f:Int)(f3 f4:List U8):K1 (R:=(Int×Unit)) rc k0 (dm Tryz.prog [.tmp 4] oP oO (f0,f1,f2,id,())) (.exit 2) [(1,.int .i64 id2),(2,.ptr 0 0 0 0),(5,.int .i64 sum)] [.box [.int .i64 f,.sl aA f3,.sl aA f4]]=A1 rc f0 f1 f2 id id2 sum f f3 f4:=by kernel_rfl
theorem aeX(rc:Int×(List U8)×(List U8)×Int×Unit→Option (Int×Unit))(k0:Nat)(f0:Int)(f1 f2:List U8)(id:Int):dB Tryz.prog (dF rc) aC k0 134 oP oO [] (f0,f1,f2,id,())=T rc (L0 (R:=(Int×Unit)) rc k0 k0 (K0 (R:=(Int×Unit)) rc k0 ((dm Tryz.prog [.tmp 4] oP oO (f0,f1,f2,id,()))))) f0 f1 f2 id:=by kernel_rfl
def G0{R:Type}(rc:Int×(List U8)×(List U8)×Int×Unit→Option (Int×Unit))(k0:Nat)(hx0:(Int→Int→Int→(List U8)→(List U8)→Option R)):Nat→Int→Int→(List U8)→Int→Int→Int→(List U8)→(List U8)→Option R
 |0,_,_,_,_,_,_,_,_=>none
 |k+1,id2,sum,t11x,t12x,t13x,f,f3,f4=>R0 rc (G0 rc k0 hx0 k) hx0 id2 sum t11x t12x t13x f f3 f4
theorem aS{R:Type}(rc:Int×(List U8)×(List U8)×Int×Unit→Option (Int×Unit))(k0:Nat)(K:au R):∀ k:Nat,L0 rc k0 k K=G0 rc k0 (fun id2 sum f f3 f4=>K (.exit 0) [(1,.int .i64 id2),(2,.ptr 0 0 0 0),(5,.int .i64 sum)] [.box [.int .i64 f,.sl aA f3,.sl aA f4]]) k:=by
 intro k
 induction k with
 |zero=>funext id2 sum t11x t12x t13x f f3 f4;rfl
 |succ k ih=>funext id2 sum t11x t12x t13x f f3 f4;rw[zs0,G0];(try simp only[ih]);try rfl
def G1{R:Type}(rc:Int×(List U8)×(List U8)×Int×Unit→Option (Int×Unit))(k0:Nat)(hx1:(Int→Int→Int→(List U8)→(List U8)→Option R)):Nat→Int→Int→(List U8)→Int→Int→Int→(List U8)→(List U8)→Option R
 |0,_,_,_,_,_,_,_,_=>none
 |k+1,id2,sum,t29x,t30x,t31x,f,f3,f4=>R1 rc (G1 rc k0 hx1 k) hx1 id2 sum t29x t30x t31x f f3 f4
theorem dL{R:Type}(rc:Int×(List U8)×(List U8)×Int×Unit→Option (Int×Unit))(k0:Nat)(K:au R):∀ k:Nat,L1 rc k0 k K=G1 rc k0 (fun id2 sum f f3 f4=>K (.exit 2) [(1,.int .i64 id2),(2,.ptr 0 0 0 0),(5,.int .i64 sum)] [.box [.int .i64 f,.sl aA f3,.sl aA f4]]) k:=by
 intro k
 induction k with
 |zero=>funext id2 sum t29x t30x t31x f f3 f4;rfl
 |succ k ih=>funext id2 sum t29x t30x t31x f f3 f4;rw[zs1,G1];(try simp only[ih,aS]);try rfl
def FF(rc:Int×(List U8)×(List U8)×Int×Unit→Option (Int×Unit))(k0:Nat)(f0:Int)(f1 f2:List U8)(id:Int):Option (Int×Unit):=T rc (G0 rc k0 (A0 rc (G1 rc k0 (A1 rc f0 f1 f2 id) k0) f0 f1 f2 id) k0) f0 f1 f2 id
theorem aY(rc:Int×(List U8)×(List U8)×Int×Unit→Option (Int×Unit))(k0:Nat)(f0:Int)(f1 f2:List U8)(id:Int):dB Tryz.prog (dF rc) aC k0 134 oP oO [] (f0,f1,f2,id,())=FF rc k0 f0 f1 f2 id:=by
 rw[aeX,FF];(try simp only[aS,dL,aZ,dw]);try rfl
def _root_.Go.Rv.um:Nat→Int×(List U8)×(List U8)×Int×Unit→Option (Int×Unit)
 |0,_=>none
 |n+1,x=>(fun(f0:Int) (f1 f2:List U8) (id:Int)=>FF (um n) (300+f1.length+f2.length) f0 f1 f2 id) x.1 x.2.1 x.2.2.1 x.2.2.2.1
def _root_.Go.Rv.JU:Int×(List U8)×(List U8)×Int×Unit→Option (Int×Unit):=fun x=>(fun(f0:Int) (f1 f2:List U8) (id:Int)=>um (300+f1.length+f2.length) x) x.1 x.2.1 x.2.2.1 x.2.2.2.1
theorem ad1(rc:Int×(List U8)×(List U8)×Int×Unit→Option (Int×Unit))(hr:aF Dr Tryz.prog 134 ⟨oP,oO,rc,[]⟩):∀ g fs S,(dF rc) g fs=some S→aF Dr Tryz.prog g S:=Nq (.cons hr (.cons aag .nil))
abbrev _root_.Go.Rv.JQ:aG:=⟨oP,oO,JU,[]⟩
theorem _root_.Go.Rv.P7:∀ n,aF Dr Tryz.prog 134 ⟨oP,oO,um n,[]⟩
 |0=>⟨fun args w=>jS (by kernel_rfl) args w,fun w T J x y vals avals _ _ _ _ h=>by cases h⟩
 |n+1=>MK (by kernel_rfl) (ad1 (um n) (P7 n)) (by kernel_rfl) fun x y h=>⟨aC,_,(aY (um n) _ x.1 x.2.1 x.2.2.1 x.2.2.2.1).trans h⟩
theorem _root_.Go.Rv.ZM:aF Dr Tryz.prog 134 JQ:=⟨fun args w=>jS (by kernel_rfl) args w,fun w T J x y vals avals h1 h2 h3 h4 h5 h6=>(P7 _).2 w T J x y vals avals h1 h2 h3 h4 h5 h6⟩
end jw
abbrev I9:Is:=[.v true gu,.v false [CT.int .i64]]
abbrev IB:Os:=[(false,[CT.sl ct0]),(false,[CT.sl [CT.int .i64]]),(false,[CT.sl [CT.int .i64]])]
namespace iV
def aC:Nat→List Nat×List Nat:=fun k=>if k=3 then([1,2,7,8,9,18,19,20],[1,2,7,8,9])else if k=9 then([1,7,8,9,48,49,50],[7,8,9])else([],[])
def zrc{R:Type}(k0:Nat)(p:List Nat):Env→List Ob→au R→Option R:=bJ Tryz.prog (aW [(134,[],JQ)]) 78 0 aC k0 (cO p (dI Tryz.prog 116))
def R0{R:Type}(nx0:Y5 R)(ex0:Y6 R)(id2:Int)(t18x:List U8)(t19x t20x f:Int)(f3 f4:List U8)(items:List U9)(groups members:List (Int×Unit)):Option R:=cond (decide (t20x<t19x)) (if 0≤t20x∧t20x<(t18x.length:Int)then cond ((rd (0,0,0,0,()) t18x t20x).2.1==id2) ((JU (f,f3,f4,(rd (0,0,0,0,()) t18x t20x).1,())).bind fun y1=>if items.length+[((af ((items.length:Int)+1)),y1.1,(rd (0,0,0,0,()) t18x t20x).2.2.2.1,())].length≤maxRow then if groups.length+[(t20x,())].length≤maxRow then nx0 id2 t18x t19x (af (t20x+1)) f f3 f4 (items++[((af ((items.length:Int)+1)),y1.1,(rd (0,0,0,0,()) t18x t20x).2.2.2.1,())]) (groups++[(t20x,())]) members else none else none) (nx0 id2 t18x t19x (af (t20x+1)) f f3 f4 items groups members)else none) (ex0 id2 f f3 f4 items groups members)
def R1{R:Type}(nx1:Y7 R)(ex1:Y8 R)(id2:Int)(t48x:List U8)(t49x t50x:Int)(items:List U9)(groups members:List (Int×Unit)):Option R:=cond (decide (t50x<t49x)) (if 0≤t50x∧t50x<(t48x.length:Int)then cond ((rd (0,0,0,0,()) t48x t50x).2.1==id2) (if items.length+[((af ((items.length:Int)+1)),(rd (0,0,0,0,()) t48x t50x).2.2.1,(rd (0,0,0,0,()) t48x t50x).2.2.2.1,())].length≤maxRow then if members.length+[(t50x,())].length≤maxRow then nx1 id2 t48x t49x (af (t50x+1)) (items++[((af ((items.length:Int)+1)),(rd (0,0,0,0,()) t48x t50x).2.2.1,(rd (0,0,0,0,()) t48x t50x).2.2.2.1,())]) groups (members++[(t50x,())])else none else none) (nx1 id2 t48x t49x (af (t50x+1)) items groups members)else none) (ex1 items groups members)
def A0(lo1:Y7 ((List U9)×(List (Int×Unit))×(List (Int×Unit))×Unit))(f0:Int)(f1 f2:List U8)(id:Int)(id2 f:Int)(f3 f4:List U8)(items:List U9)(groups members:List (Int×Unit)):Option ((List U9)×(List (Int×Unit))×(List (Int×Unit))×Unit):=lo1 id2 f4 (f4.length:Int) 0 items groups members
def A1(f0:Int)(f1 f2:List U8)(id:Int)(items:List U9)(groups members:List (Int×Unit)):Option ((List U9)×(List (Int×Unit))×(List (Int×Unit))×Unit):=some (items,groups,members,())
def T(lo0:Y5 ((List U9)×(List (Int×Unit))×(List (Int×Unit))×Unit))(f0:Int)(f1 f2:List U8)(id:Int):Option ((List U9)×(List (Int×Unit))×(List (Int×Unit))×Unit):=lo0 id f1 (f1.length:Int) 0 f0 f1 f2 ([]:List U9) ([]:List (Int×Unit)) ([]:List (Int×Unit))
def K0{R:Type}(k0:Nat)(K:au R):au R:=bF 0 (bI (fun env ob=>zrc k0 [1,1,1] env ob (K)) (K))
def K1{R:Type}(k0:Nat)(K:au R):au R:=bF 2 (bI (fun env ob=>zrc k0 [1,1,1,1] env ob (K)) (K))
def L0:Y5 R:=fun id2 t18x t19x t20x f f3 f4 items groups members=>iter 0 [1,2,7,8,9,18,19,20] [1,2,7,8,9] (zrc k0 [1,1,0,1,0,0]) k [(1,.int .i64 id2),(2,.ptr 0 0 0 0),(7,.own 1),(8,.own 2),(9,.own 3),(18,.sl aA t18x),(19,.int .i64 t19x),(20,.int .i64 t20x)] [.box [.int .i64 f,.sl aA f3,.sl aA f4],.arr ct0 items,.arr [CT.int .i64] groups,.arr [CT.int .i64] members] K
def L1:Y7 R:=fun id2 t48x t49x t50x items groups members=>iter 0 [1,7,8,9,48,49,50] [7,8,9] (zrc k0 [1,1,1,0,1,0,0]) k [(1,.int .i64 id2),(7,.own 0),(8,.own 1),(9,.own 2),(48,.sl aA t48x),(49,.int .i64 t49x),(50,.int .i64 t50x)] [.arr ct0 items,.arr [CT.int .i64] groups,.arr [CT.int .i64] members] K
def H0:Y6 R:=fun id2 f f3 f4 items groups members=>K (.exit 0) [(1,.int .i64 id2),(2,.ptr 0 0 0 0),(7,.own 1),(8,.own 2),(9,.own 3)] [.box [.int .i64 f,.sl aA f3,.sl aA f4],.arr ct0 items,.arr [CT.int .i64] groups,.arr [CT.int .i64] members]
def H1:Y8 R:=fun items groups members=>K (.exit 2) [(7,.own 0),(8,.own 1),(9,.own 2)] [.arr ct0 items,.arr [CT.int .i64] groups,.arr [CT.int .i64] members]
theorem zs0:L0 k0 (k+1) K=R0 (L0 k0 k K) (H0 K):=by kernel_rfl
theorem zs1:L1 k0 (k+1) K=R1 (L1 k0 k K) (H1 K):=by kernel_rfl
def G0{R:Type}(k0:Nat)(hx0:Y6 R):Nat→Y5 R
 |0=>fun _ _ _ _ _ _ _ _ _ _=>none
 |k+1=>R0 (G0 k0 hx0 k) hx0
theorem aS:∀ k,L0 k0 k K=G0 k0 (H0 K) k:=bK rfl fun k ih=>by rw[zs0,G0];(try simp only[ih]);try rfl
def G1{R:Type}(k0:Nat)(hx1:Y8 R):Nat→Y7 R
 |0=>fun _ _ _ _ _ _ _=>none
 |k+1=>R1 (G1 k0 hx1 k) hx1
theorem dL:∀ k,L1 k0 k K=G1 k0 (H1 K) k:=bK rfl fun k ih=>by rw[zs1,G1];(try simp only[ih,aS]);try rfl
variable (f0:Int) (f1 f2:List U8) (id:Int)
def aB:au ((List U9)×(List (Int×Unit))×(List (Int×Unit))×Unit):=dm Tryz.prog [.tmp 4,.tmp 5,.tmp 6] I9 IB (f0,f1,f2,id,())
theorem aZ:H0 (K0 k0 (aB f0 f1 f2 id))=A0 (L1 k0 k0 (K1 k0 (aB f0 f1 f2 id))) f0 f1 f2 id:=by kernel_rfl
theorem dw:H1 (K1 k0 (aB f0 f1 f2 id))=A1 f0 f1 f2 id:=by kernel_rfl
def FF:Option ((List U9)×(List (Int×Unit))×(List (Int×Unit))×Unit):=T (G0 k0 (A0 (G1 k0 (A1 f0 f1 f2 id) k0) f0 f1 f2 id) k0) f0 f1 f2 id
theorem aY:dB Tryz.prog (aW [(134,[],JQ)]) aC k0 116 I9 IB [] (f0,f1,f2,id,())=FF k0 f0 f1 f2 id:=Eq.trans (b:=T (L0 k0 k0 (K0 k0 (aB f0 f1 f2 id))) f0 f1 f2 id) (by kernel_rfl) (by rw[FF];(try simp only[aS,dL,aZ,dw]);try rfl)
def _root_.Go.Rv.Di:=fun x:Int×(List U8)×(List U8)×Int×Unit=>FF (300+x.2.1.length+x.2.2.1.length) x.1 x.2.1 x.2.2.1 x.2.2.2.1
abbrev _root_.Go.Rv.JS:aG:=⟨I9,IB,Di,[]⟩
theorem _root_.Go.Rv.ZO:aF Dr Tryz.prog 116 JS:=dJ mix (.c ZM .nil) (by kernel_rfl) fun x=>⟨aC,_,aY _ _ _ _ _⟩
end iV
abbrev G7:Is:=[.v false [CT.sl ct0],.v true ct0]
abbrev GZ:Os:=[(false,[CT.int .i64])]
namespace qY
def aC:Nat→List Nat×List Nat:=fun k=>if k=2 then([0,3,7,8],[4])else([],[])
def zrc{R:Type}(k0:Nat)(p:List Nat):Env→List Ob→au R→Option R:=bJ Tryz.prog (aW []) 19 0 aC k0 (cO p (dI Tryz.prog 137))
def R0{R:Type}(nx0:Y9 R)(ex0:Y2 R)(ex1:dY R)(s2:List U9)(t7x t8x v v3 v4:Int):Option R:=cond (decide (t8x<t7x)) (if 0≤t8x∧t8x<(s2.length:Int)then cond ((v==(rd (0,0,0,()) s2 t8x).1)&&((v3==(rd (0,0,0,()) s2 t8x).2.1)&&((v4==(rd (0,0,0,()) s2 t8x).2.2.1)&&true))) (ex0 t8x) (nx0 s2 t7x (af (t8x+1)) v v3 v4)else none) (ex1 ())
def A0(s:List U9)(v0 v1 v2:Int)(t4x:Int):Option (Int×Unit):=some (t4x,())
def A1(s:List U9)(v0 v1 v2:Int)(_u:Unit):Option (Int×Unit):=some ((-1),())
def T(lo0:Y9 (Int×Unit))(s:List U9)(v0 v1 v2:Int):Option (Int×Unit):=lo0 s (s.length:Int) 0 v0 v1 v2
def K0{R:Type}(k0:Nat)(K:au R):au R:=bF 0 (bI (fun env ob=>zrc k0 [1,1] env ob (K)) (K))
def L0:Y9 R:=fun s2 t7x t8x v v3 v4=>iter 0 [0,3,7,8] [4] (zrc k0 [1,0,1,0,0]) k [(0,.sl ct0 s2),(3,.ptr 0 0 0 0),(7,.int .i64 t7x),(8,.int .i64 t8x)] [.box [.int .i64 v,.int .i64 v3,.int .i64 v4]] K
def H0:Y2 R:=fun t4x=>K .ret [(4,.int .i64 t4x)] []
def H1:dY R:=fun _=>K (.exit 0) [(4,.undef)] []
theorem zs0:L0 k0 (k+1) K=R0 (L0 k0 k K) (H0 K) (H1 K):=by kernel_rfl
def G0{R:Type}(k0:Nat)(hx0:Y2 R)(hx1:dY R):Nat→Y9 R
 |0=>fun _ _ _ _ _ _=>none
 |k+1=>R0 (G0 k0 hx0 hx1 k) hx0 hx1
theorem aS:∀ k,L0 k0 k K=G0 k0 (H0 K) (H1 K) k:=bK rfl fun k ih=>by rw[zs0,G0];(try simp only[ih]);try rfl
variable (s:List U9) (v0 v1 v2:Int)
def aB:au (Int×Unit):=dm Tryz.prog [.tmp 4] G7 GZ (s,v0,v1,v2,())
theorem aZ:H0 (K0 k0 (aB s v0 v1 v2))=A0 s v0 v1 v2:=by kernel_rfl
theorem dw:H1 (K0 k0 (aB s v0 v1 v2))=A1 s v0 v1 v2:=by kernel_rfl
def FF:Option (Int×Unit):=T (G0 k0 (A0 s v0 v1 v2) (A1 s v0 v1 v2) k0) s v0 v1 v2
theorem aY:dB Tryz.prog (aW []) aC k0 137 G7 GZ [] (s,v0,v1,v2,())=FF k0 s v0 v1 v2:=Eq.trans (b:=T (L0 k0 k0 (K0 k0 (aB s v0 v1 v2))) s v0 v1 v2) (by kernel_rfl) (by rw[FF];(try simp only[aS,aZ,dw]);try rfl)
def _root_.Go.Rv.BU:=fun x:(List U9)×U9=>FF (300+x.1.length) x.1 x.2.1 x.2.2.1 x.2.2.2.1
abbrev _root_.Go.Rv.YJ:aG:=⟨G7,GZ,BU,[]⟩
theorem _root_.Go.Rv.YI:aF Dr Tryz.prog 137 YJ:=dJ mix .nil (by kernel_rfl) fun x=>⟨aC,_,aY _ _ _ _ _⟩
end qY
def Tz.T(a0 a1 a2:Int)(a'0:List U9):Option (Int×Unit):=(BU ((a'0,()).1,a0,a1,a2,())).bind fun y1=>some (y1.1,())
def uN:=fun x:Int×Int×Int×(List U9)×Unit=>Tz.T x.1 x.2.1 x.2.2.1 x.2.2.2.1
abbrev Sl:aG:=⟨[.v true ct0,.r [CT.sl ct0]],[(false,[CT.int .i64])],uN,[]⟩
theorem aaL:aF Dr Tryz.prog 136 Sl:=bg mix (.c YI .nil) (by kernel_rfl) fun x=>by kernel_rfl
def Rz.T(a0 a1 a2 amount all:Int):Option (Bool×Unit):=cond (decide (amount≥0)) ((zn (a1,all,amount,a2,())).bind fun y1=>some ((decide (y1.1≤0)),())) (some (false,()))
def zC:=fun x:U6=>Rz.T x.1 x.2.1 x.2.2.1 x.2.2.2.1 x.2.2.2.2.1
abbrev QJ:aG:=⟨[.v true ct0,.v false [CT.int .i64],.v false [CT.int .i64]],[(false,[CT.bool])],zC,[]⟩
theorem ZL:aF Dr Tryz.prog 138 QJ:=bg mix (.c PN .nil) (by kernel_rfl) fun x=>by kernel_rfl
def aaA.T(x:Int):Option (Int×Unit):=cond (decide (x≥4294967296)) (cond (decide ((Int.fdiv x (2 ^ 32))≥65536)) (cond (decide ((Int.fdiv (Int.fdiv x (2 ^ 32)) (2 ^ 16))≥256)) (if 0≤(IntKind.u8.wrap ((Int.fdiv (Int.fdiv (Int.fdiv x (2 ^ 32)) (2 ^ 16)) (2 ^ 8))))∧(IntKind.u8.wrap ((Int.fdiv (Int.fdiv (Int.fdiv x (2 ^ 32)) (2 ^ 16)) (2 ^ 8))))<((kL).size:Int)then some ((af ((af ((af (32+16))+8))+(af ((bt (kL) (IntKind.u8.wrap ((Int.fdiv (Int.fdiv (Int.fdiv x (2 ^ 32)) (2 ^ 16)) (2 ^ 8))))))))),())else none) (if 0≤(IntKind.u8.wrap ((Int.fdiv (Int.fdiv x (2 ^ 32)) (2 ^ 16))))∧(IntKind.u8.wrap ((Int.fdiv (Int.fdiv x (2 ^ 32)) (2 ^ 16))))<((kL).size:Int)then some ((af ((af (32+16))+(af ((bt (kL) (IntKind.u8.wrap ((Int.fdiv (Int.fdiv x (2 ^ 32)) (2 ^ 16))))))))),())else none)) (cond (decide ((Int.fdiv x (2 ^ 32))≥256)) (if 0≤(IntKind.u8.wrap ((Int.fdiv (Int.fdiv x (2 ^ 32)) (2 ^ 8))))∧(IntKind.u8.wrap ((Int.fdiv (Int.fdiv x (2 ^ 32)) (2 ^ 8))))<((kL).size:Int)then some ((af ((af (32+8))+(af ((bt (kL) (IntKind.u8.wrap ((Int.fdiv (Int.fdiv x (2 ^ 32)) (2 ^ 8))))))))),())else none) (if 0≤(IntKind.u8.wrap ((Int.fdiv x (2 ^ 32))))∧(IntKind.u8.wrap ((Int.fdiv x (2 ^ 32))))<((kL).size:Int)then some ((af (32+(af ((bt (kL) (IntKind.u8.wrap ((Int.fdiv x (2 ^ 32))))))))),())else none))) (cond (decide (x≥65536)) (cond (decide ((Int.fdiv x (2 ^ 16))≥256)) (if 0≤(IntKind.u8.wrap ((Int.fdiv (Int.fdiv x (2 ^ 16)) (2 ^ 8))))∧(IntKind.u8.wrap ((Int.fdiv (Int.fdiv x (2 ^ 16)) (2 ^ 8))))<((kL).size:Int)then some ((af ((af ((af (0+16))+8))+(af ((bt (kL) (IntKind.u8.wrap ((Int.fdiv (Int.fdiv x (2 ^ 16)) (2 ^ 8))))))))),())else none) (if 0≤(IntKind.u8.wrap ((Int.fdiv x (2 ^ 16))))∧(IntKind.u8.wrap ((Int.fdiv x (2 ^ 16))))<((kL).size:Int)then some ((af ((af (0+16))+(af ((bt (kL) (IntKind.u8.wrap ((Int.fdiv x (2 ^ 16))))))))),())else none)) (cond (decide (x≥256)) (if 0≤(IntKind.u8.wrap ((Int.fdiv x (2 ^ 8))))∧(IntKind.u8.wrap ((Int.fdiv x (2 ^ 8))))<((kL).size:Int)then some ((af ((af (0+8))+(af ((bt (kL) (IntKind.u8.wrap ((Int.fdiv x (2 ^ 8))))))))),())else none) (if 0≤(IntKind.u8.wrap (x))∧(IntKind.u8.wrap (x))<((kL).size:Int)then some ((af (0+(af ((bt (kL) (IntKind.u8.wrap (x))))))),())else none)))
def CU:=fun x:Int×Unit=>aaA.T x.1
abbrev ZT:aG:=⟨[.v false [CT.int .u64]],[(false,[CT.int .i64])],CU,[]⟩
theorem Zq:aF Dr Tryz.prog 194 ZT:=bg mix .nil (by kernel_rfl) fun x=>by kernel_rfl
def PG.T(x:Int):Option (Int×Unit):=(CU (x,())).bind fun y1=>some ((af (64 - y1.1)),())
def BV:=fun x:Int×Unit=>PG.T x.1
abbrev Hg:aG:=⟨[.v false [CT.int .u64]],[(false,[CT.int .i64])],BV,[]⟩
theorem YK:aF Dr Tryz.prog 183 Hg:=bg mix (.c Zq .nil) (by kernel_rfl) fun x=>by kernel_rfl
abbrev II:Is:=[.v false [CT.int .u64],.v false [CT.int .u64],.v false [CT.int .u64]]
abbrev Ig:Os:=[(false,[CT.int .u64]),(false,[CT.int .u64])]
namespace lY
def aC:Nat→List Nat×List Nat:=fun k=>if k=17 then([2,8,9,10,11,13,14,15,16],[2,8,9,10,11,13,14,15])else if k=24 then([2,8,9,10,14,15,16,17,18],[2,8,14,15,17,18])else([],[])
def zrc{R:Type}(k0:Nat)(p:List Nat):Env→List Ob→au R→Option R:=bJ Tryz.prog (aW [(183,[],Hg)]) 135 0 aC k0 (cO p (dI Tryz.prog 174))
def R0{R:Type}(nx0:uj R)(ex0:zh R)(y2 s yn1 yn0 un32 un1 un0 q1 rhat:Int):Option R:=cond (decide (q1≥4294967296)) (cond (decide ((IntKind.u64.wrap (rhat+yn1))≥4294967296)) (ex0 y2 s yn1 yn0 un32 un1 un0 (IntKind.u64.wrap (q1 - 1))) (nx0 y2 s yn1 yn0 un32 un1 un0 (IntKind.u64.wrap (q1 - 1)) (IntKind.u64.wrap (rhat+yn1)))) (cond (decide ((IntKind.u64.wrap (q1*yn0))>(IntKind.u64.wrap ((IntKind.u64.wrap (4294967296*rhat))+un1)))) (cond (decide ((IntKind.u64.wrap (rhat+yn1))≥4294967296)) (ex0 y2 s yn1 yn0 un32 un1 un0 (IntKind.u64.wrap (q1 - 1))) (nx0 y2 s yn1 yn0 un32 un1 un0 (IntKind.u64.wrap (q1 - 1)) (IntKind.u64.wrap (rhat+yn1)))) (ex0 y2 s yn1 yn0 un32 un1 un0 q1))
def R1{R:Type}(nx1:uj R)(ex1:Pq R)(y2 s yn1 yn0 un0 q1 rhat un21 q0:Int):Option R:=cond (decide (q0≥4294967296)) (cond (decide ((IntKind.u64.wrap (rhat+yn1))≥4294967296)) (ex1 y2 s un0 q1 un21 (IntKind.u64.wrap (q0 - 1))) (nx1 y2 s yn1 yn0 un0 q1 (IntKind.u64.wrap (rhat+yn1)) un21 (IntKind.u64.wrap (q0 - 1)))) (cond (decide ((IntKind.u64.wrap (q0*yn0))>(IntKind.u64.wrap ((IntKind.u64.wrap (4294967296*rhat))+un0)))) (cond (decide ((IntKind.u64.wrap (rhat+yn1))≥4294967296)) (ex1 y2 s un0 q1 un21 (IntKind.u64.wrap (q0 - 1))) (nx1 y2 s yn1 yn0 un0 q1 (IntKind.u64.wrap (rhat+yn1)) un21 (IntKind.u64.wrap (q0 - 1)))) (ex1 y2 s un0 q1 un21 q0))
def A0(lo1:uj (aK))(hi lo y:Int)(y2 s yn1 yn0 un32 un1 un0 q1:Int):Option (aK):=if yn1=0 then none else lo1 y2 s yn1 yn0 un0 q1 (IntKind.u64.wrap ((IntKind.u64.wrap ((IntKind.u64.wrap ((IntKind.u64.wrap (un32*4294967296))+un1)) - (IntKind.u64.wrap (q1*y2)))) - (IntKind.u64.wrap ((IntKind.u64.wrap (Int.tdiv (IntKind.u64.wrap ((IntKind.u64.wrap ((IntKind.u64.wrap (un32*4294967296))+un1)) - (IntKind.u64.wrap (q1*y2)))) yn1))*yn1)))) (IntKind.u64.wrap ((IntKind.u64.wrap ((IntKind.u64.wrap (un32*4294967296))+un1)) - (IntKind.u64.wrap (q1*y2)))) (IntKind.u64.wrap (Int.tdiv (IntKind.u64.wrap ((IntKind.u64.wrap ((IntKind.u64.wrap (un32*4294967296))+un1)) - (IntKind.u64.wrap (q1*y2)))) yn1))
def A1(hi lo y:Int)(y2 s un0 q1 un21 q0:Int):Option (aK):=if s<0 then none else some ((IntKind.u64.wrap ((IntKind.u64.wrap (q1*4294967296))+q0)),(Int.fdiv (IntKind.u64.wrap ((IntKind.u64.wrap ((IntKind.u64.wrap (un21*4294967296))+un0)) - (IntKind.u64.wrap (q0*y2)))) (2 ^ (min ((s:Int)).toNat 64))),())
def T(lo0:uj (aK))(hi lo y:Int):Option (aK):=cond (y==0) (none) (cond (decide (y≤hi)) (none) (cond (hi==0) (if y=0 then none else if y=0 then none else some ((IntKind.u64.wrap (Int.tdiv lo y)),(Int.tmod lo y),())) ((BV (y,())).bind fun y1=>if(IntKind.u64.wrap (y1.1))<0 then none else if(IntKind.u64.wrap (y1.1))<0 then none else if(IntKind.u64.wrap (64 - (IntKind.u64.wrap (y1.1))))<0 then none else if(IntKind.u64.wrap (y1.1))<0 then none else if(Int.fdiv (IntKind.u64.wrap (y*2 ^ (min (((IntKind.u64.wrap (y1.1)):Int)).toNat 64))) (2 ^ 32))=0 then none else lo0 (IntKind.u64.wrap (y*2 ^ (min (((IntKind.u64.wrap (y1.1)):Int)).toNat 64))) (IntKind.u64.wrap (y1.1)) (Int.fdiv (IntKind.u64.wrap (y*2 ^ (min (((IntKind.u64.wrap (y1.1)):Int)).toNat 64))) (2 ^ 32)) (IntKind.u64.wrap (((BitVec.ofInt 64 (IntKind.u64.wrap (y*2 ^ (min (((IntKind.u64.wrap (y1.1)):Int)).toNat 64)))) &&& (BitVec.ofInt 64 4294967295)).toNat)) (IntKind.u64.wrap (((BitVec.ofInt 64 (IntKind.u64.wrap (hi*2 ^ (min (((IntKind.u64.wrap (y1.1)):Int)).toNat 64)))) ||| (BitVec.ofInt 64 (Int.fdiv lo (2 ^ (min (((IntKind.u64.wrap (64 - (IntKind.u64.wrap (y1.1)))):Int)).toNat 64))))).toNat)) (Int.fdiv (IntKind.u64.wrap (lo*2 ^ (min (((IntKind.u64.wrap (y1.1)):Int)).toNat 64))) (2 ^ 32)) (IntKind.u64.wrap (((BitVec.ofInt 64 (IntKind.u64.wrap (lo*2 ^ (min (((IntKind.u64.wrap (y1.1)):Int)).toNat 64)))) &&& (BitVec.ofInt 64 4294967295)).toNat)) (IntKind.u64.wrap (Int.tdiv (IntKind.u64.wrap (((BitVec.ofInt 64 (IntKind.u64.wrap (hi*2 ^ (min (((IntKind.u64.wrap (y1.1)):Int)).toNat 64)))) ||| (BitVec.ofInt 64 (Int.fdiv lo (2 ^ (min (((IntKind.u64.wrap (64 - (IntKind.u64.wrap (y1.1)))):Int)).toNat 64))))).toNat)) (Int.fdiv (IntKind.u64.wrap (y*2 ^ (min (((IntKind.u64.wrap (y1.1)):Int)).toNat 64))) (2 ^ 32)))) (IntKind.u64.wrap ((IntKind.u64.wrap (((BitVec.ofInt 64 (IntKind.u64.wrap (hi*2 ^ (min (((IntKind.u64.wrap (y1.1)):Int)).toNat 64)))) ||| (BitVec.ofInt 64 (Int.fdiv lo (2 ^ (min (((IntKind.u64.wrap (64 - (IntKind.u64.wrap (y1.1)))):Int)).toNat 64))))).toNat)) - (IntKind.u64.wrap ((IntKind.u64.wrap (Int.tdiv (IntKind.u64.wrap (((BitVec.ofInt 64 (IntKind.u64.wrap (hi*2 ^ (min (((IntKind.u64.wrap (y1.1)):Int)).toNat 64)))) ||| (BitVec.ofInt 64 (Int.fdiv lo (2 ^ (min (((IntKind.u64.wrap (64 - (IntKind.u64.wrap (y1.1)))):Int)).toNat 64))))).toNat)) (Int.fdiv (IntKind.u64.wrap (y*2 ^ (min (((IntKind.u64.wrap (y1.1)):Int)).toNat 64))) (2 ^ 32))))*(Int.fdiv (IntKind.u64.wrap (y*2 ^ (min (((IntKind.u64.wrap (y1.1)):Int)).toNat 64))) (2 ^ 32)))))))))
def K0{R:Type}(k0:Nat)(K:au R):au R:=bF 0 (bI (fun env ob=>zrc k0 [1,1,1,1,1,1,1,1,1,1,1,1,1,1,1] env ob (K)) (K))
def K1{R:Type}(k0:Nat)(K:au R):au R:=bF 2 (bI (fun env ob=>zrc k0 [1,1,1,1,1,1,1,1,1,1,1,1,1,1,1,1,1,1,1] env ob (K)) (K))
def L0:uj R:=fun y2 s yn1 yn0 un32 un1 un0 q1 rhat=>iter 0 [2,8,9,10,11,13,14,15,16] [2,8,9,10,11,13,14,15] (zrc k0 [1,1,1,1,1,1,1,1,1,1,1,1,1,1,0,0,0]) k [(2,.int .u64 y2),(8,.int .u64 s),(9,.int .u64 yn1),(10,.int .u64 yn0),(11,.int .u64 un32),(13,.int .u64 un1),(14,.int .u64 un0),(15,.int .u64 q1),(16,.int .u64 rhat)] [] K
def L1:uj R:=fun y2 s yn1 yn0 un0 q1 rhat un21 q0=>iter 0 [2,8,9,10,14,15,16,17,18] [2,8,14,15,17,18] (zrc k0 [1,1,1,1,1,1,1,1,1,1,1,1,1,1,1,1,1,1,0,0,0]) k [(2,.int .u64 y2),(8,.int .u64 s),(9,.int .u64 yn1),(10,.int .u64 yn0),(14,.int .u64 un0),(15,.int .u64 q1),(16,.int .u64 rhat),(17,.int .u64 un21),(18,.int .u64 q0)] [] K
def H0:zh R:=fun y2 s yn1 yn0 un32 un1 un0 q1=>K (.exit 0) [(2,.int .u64 y2),(8,.int .u64 s),(9,.int .u64 yn1),(10,.int .u64 yn0),(11,.int .u64 un32),(13,.int .u64 un1),(14,.int .u64 un0),(15,.int .u64 q1)] []
def H1:Pq R:=fun y2 s un0 q1 un21 q0=>K (.exit 2) [(2,.int .u64 y2),(8,.int .u64 s),(14,.int .u64 un0),(15,.int .u64 q1),(17,.int .u64 un21),(18,.int .u64 q0)] []
theorem zs0:L0 k0 (k+1) K=R0 (L0 k0 k K) (H0 K):=by kernel_rfl
theorem zs1:L1 k0 (k+1) K=R1 (L1 k0 k K) (H1 K):=by kernel_rfl
def G0{R:Type}(k0:Nat)(hx0:zh R):Nat→uj R
 |0=>fun _ _ _ _ _ _ _ _ _=>none
 |k+1=>R0 (G0 k0 hx0 k) hx0
theorem aS:∀ k,L0 k0 k K=G0 k0 (H0 K) k:=bK rfl fun k ih=>by rw[zs0,G0];(try simp only[ih]);try rfl
def G1{R:Type}(k0:Nat)(hx1:Pq R):Nat→uj R
 |0=>fun _ _ _ _ _ _ _ _ _=>none
 |k+1=>R1 (G1 k0 hx1 k) hx1
theorem dL:∀ k,L1 k0 k K=G1 k0 (H1 K) k:=bK rfl fun k ih=>by rw[zs1,G1];(try simp only[ih,aS]);try rfl
variable (hi lo y:Int)
def aB:au (aK):=dm Tryz.prog [.tmp 6,.tmp 7] II Ig (hi,lo,y,())
theorem aZ:H0 (K0 k0 (aB hi lo y))=A0 (L1 k0 k0 (K1 k0 (aB hi lo y))) hi lo y:=by kernel_rfl
theorem dw:H1 (K1 k0 (aB hi lo y))=A1 hi lo y:=by kernel_rfl
def FF:Option (aK):=T (G0 k0 (A0 (G1 k0 (A1 hi lo y) k0) hi lo y) k0) hi lo y
theorem aY:dB Tryz.prog (aW [(183,[],Hg)]) aC k0 174 II Ig [] (hi,lo,y,())=FF k0 hi lo y:=Eq.trans (b:=T (L0 k0 k0 (K0 k0 (aB hi lo y))) hi lo y) (by kernel_rfl) (by rw[FF];(try simp only[aS,dL,aZ,dw]);try rfl)
def _root_.Go.Rv.CV:=fun x:U9=>FF (300) x.1 x.2.1 x.2.2.1
abbrev _root_.Go.Rv.ZU:aG:=⟨II,Ig,CV,[]⟩
theorem _root_.Go.Rv.Zr:aF Dr Tryz.prog 174 ZU:=dJ mix (.c YK .nil) (by kernel_rfl) fun x=>⟨aC,_,aY _ _ _ _⟩
end lY
def SK.T(a0 a1 d:Int):Option (U9):=cond (d==0) (some (0,0,0,())) (if d=0 then none else if d=0 then none else(CV ((Int.tmod a0 d),a1,d,())).bind fun y1=>some ((IntKind.u64.wrap (Int.tdiv a0 d)),y1.1,y1.2.1,()))
def DF:=fun x:U9=>SK.T x.1 x.2.1 x.2.2.1
abbrev aaT:aG:=⟨[.v true ct1,.v false [CT.int .u64]],[(true,X9)],DF,[]⟩
theorem aax:aF Dr Tryz.prog 158 aaT:=bg mix (.c Zr .nil) (by kernel_rfl) fun x=>by kernel_rfl
def Ue.T(amount weight all:Int):Option (Int×Unit):=(wU (amount,weight,())).bind fun y1=>(DF (y1.1,y1.2.1,(IntKind.u64.wrap (all)),())).bind fun y2=>some ((af (y2.2.1)),())
def wX:=fun x:U9=>Ue.T x.1 x.2.1 x.2.2.1
abbrev S9:aG:=⟨[.v false [CT.int .i64],.v false [CT.int .i64],.v false [CT.int .i64]],[(false,[CT.int .i64])],wX,[]⟩
theorem aa2:aF Dr Tryz.prog 139 S9:=bg mix (.c aax (.c QS .nil)) (by kernel_rfl) fun x=>by kernel_rfl
abbrev KE:Is:=[.v false [CT.int .i64],.v false [CT.sl ct0]]
abbrev Kt:Os:=[(true,ct7)]
namespace bY
def dF:Tb:=[(135,[],⟨QW,Qw,uK,[]⟩),(136,[],Sl),(138,[],QJ),(139,[],S9)]
def aC:Nat→List Nat×List Nat:=fun k=>if k=3 then([3,4,5,26,27,28],[3,4,5])else if k=9 then([3,4,5,8,9],[3,4,5,8,9])else if k=18 then([3,4,5,9,11,12,108,109,110],[3,4,5,11,12])else if k=25 then([4,5,11,12,142,143],[4,5])else([],[])
def zrc{R:Type}(k0:Nat)(p:List Nat):Env→List Ob→au R→Option R:=bJ Tryz.prog (aW dF) 172 0 aC k0 (cO p (dI Tryz.prog 117))
def R0{R:Type}(nx0:Gq R)(ex0:Po R)(t26x:List U9)(t27x t28x:Int)(list2:List U9)(t4x t4x2 t4x3 out out2 out3:Int)(o3:List (Int×Unit))(o4:List (Bool×Unit)):Option R:=cond (decide (t28x<t27x)) (if 0≤t28x∧t28x<(t26x.length:Int)then nx0 t26x t27x (af (t28x+1)) list2 t4x t4x2 t4x3 out (af (out2+(rd (0,0,0,()) t26x t28x).2.2.1)) out3 o3 o4 else none) (ex0 list2 t4x t4x2 t4x3 out out2 out3 o3 o4)
def R1{R:Type}(nx2:vV R)(ex1:vU R)(list2:List U9)(t4x t4x2 t4x3 out out2 out3:Int)(order:List U9)(o4:List (Int×Unit))(o5:List (Bool×Unit)):Option R:=cond (decide ((order.length:Int)>0)) (if(0:Int)≤0∧0<(order.length:Int)then(zC ((order.getD ((0:Int).toNat) (0,0,0,())).1,(order.getD ((0:Int).toNat) (0,0,0,())).2.1,(order.getD ((0:Int).toNat) (0,0,0,())).2.2.1,out,out2,())).bind fun y1=>cond y1.1 (if(0:Int)≤0∧0<(order.length:Int)then(uN ((order.getD ((0:Int).toNat) (0,0,0,())).1,(order.getD ((0:Int).toNat) (0,0,0,())).2.1,(order.getD ((0:Int).toNat) (0,0,0,())).2.2.1,list2,())).bind fun y2=>if 0≤y2.1∧y2.1<(o4.length:Int)then if(0:Int)≤1∧1≤(order.length:Int)then nx2 ((1:Int).toNat) (order.length - (1:Int).toNat) list2 t4x t4x2 t4x3 (af (out - (order.getD ((0:Int).toNat) (0,0,0,())).2.1)) (af (out2 - (order.getD ((0:Int).toNat) (0,0,0,())).2.2.1)) (af (out3+1)) order (o4.set ((y2.1).toNat) ((order.getD ((0:Int).toNat) (0,0,0,())).2.1,())) o5 else none else none else none) (ex1 list2 t4x t4x2 t4x3 out out2 out3 order o4 o5)else none) (ex1 list2 t4x t4x2 t4x3 out out2 out3 order o4 o5)
def R2{R:Type}(nx2 ex2:vV R)(ordero orderl:Nat)(list2:List U9)(t4x t4x2 t4x3 out out2 out3:Int)(order:List U9)(o4:List (Int×Unit))(o5:List (Bool×Unit)):Option R:=cond (decide ((orderl:Int)>0)) (if ordero+orderl≤order.length then if(0:Int)≤0∧0<(orderl:Int)then(zC ((order.getD (ordero+(0:Int).toNat) (0,0,0,())).1,(order.getD (ordero+(0:Int).toNat) (0,0,0,())).2.1,(order.getD (ordero+(0:Int).toNat) (0,0,0,())).2.2.1,out,out2,())).bind fun y1=>cond y1.1 (if ordero+orderl≤order.length then if(0:Int)≤0∧0<(orderl:Int)then(uN ((order.getD (ordero+(0:Int).toNat) (0,0,0,())).1,(order.getD (ordero+(0:Int).toNat) (0,0,0,())).2.1,(order.getD (ordero+(0:Int).toNat) (0,0,0,())).2.2.1,list2,())).bind fun y2=>if 0≤y2.1∧y2.1<(o4.length:Int)then if ordero+orderl≤order.length then if(0:Int)≤1∧1≤(orderl:Int)then nx2 (ordero+(1:Int).toNat) (orderl - (1:Int).toNat) list2 t4x t4x2 t4x3 (af (out - (order.getD (ordero+(0:Int).toNat) (0,0,0,())).2.1)) (af (out2 - (order.getD (ordero+(0:Int).toNat) (0,0,0,())).2.2.1)) (af (out3+1)) order (o4.set ((y2.1).toNat) ((order.getD (ordero+(0:Int).toNat) (0,0,0,())).2.1,())) o5 else none else none else none else none else none) (ex2 ordero orderl list2 t4x t4x2 t4x3 out out2 out3 order o4 o5)else none else none) (ex2 ordero orderl list2 t4x t4x2 t4x3 out out2 out3 order o4 o5)
def R3{R:Type}(nx3:Gp R)(ex3:BN R)(left t109x t110x:Int)(list2:List U9)(t4x t4x2 t4x3 out out2 out3:Int)(poor:List (Bool×Unit))(t108x:List U9)(o5:List (Int×Unit))(o6:List (Bool×Unit)):Option R:=cond (decide (t110x<t109x)) (if 0≤t110x∧t110x<(t108x.length:Int)then(uN ((t108x.getD t110x.toNat (0,0,0,())).1,(t108x.getD t110x.toNat (0,0,0,())).2.1,(t108x.getD t110x.toNat (0,0,0,())).2.2.1,list2,())).bind fun y1=>(wX (out,(t108x.getD t110x.toNat (0,0,0,())).2.2.1,out2,())).bind fun y2=>if 0≤y1.1∧y1.1<(o5.length:Int)then if 0≤y1.1∧y1.1<(poor.length:Int)then if 0≤y1.1∧y1.1<((o5.set ((y1.1).toNat) (y2.1,())).length:Int)then nx3 (af (left - ((o5.set ((y1.1).toNat) (y2.1,())).getD ((y1.1).toNat) (0,())).1)) t109x (af (t110x+1)) list2 t4x t4x2 t4x3 out out2 out3 (poor.set ((y1.1).toNat) (true,())) t108x (o5.set ((y1.1).toNat) (y2.1,())) o6 else none else none else none else none) (ex3 left list2 t4x t4x2 t4x3 out out2 out3 poor o5 o6)
def R4{R:Type}(nx4:Gn R)(ex3:BN R)(left:Int)(t108o t108l:Nat)(t109x t110x:Int)(list2:List U9)(t4x t4x2 t4x3 out out2 out3:Int)(poor:List (Bool×Unit))(t108x:List U9)(o5:List (Int×Unit))(o6:List (Bool×Unit)):Option R:=cond (decide (t110x<t109x)) (if t108o+t108l≤t108x.length then if 0≤t110x∧t110x<(t108l:Int)then(uN ((t108x.getD (t108o+t110x.toNat) (0,0,0,())).1,(t108x.getD (t108o+t110x.toNat) (0,0,0,())).2.1,(t108x.getD (t108o+t110x.toNat) (0,0,0,())).2.2.1,list2,())).bind fun y1=>(wX (out,(t108x.getD (t108o+t110x.toNat) (0,0,0,())).2.2.1,out2,())).bind fun y2=>if 0≤y1.1∧y1.1<(o5.length:Int)then if 0≤y1.1∧y1.1<(poor.length:Int)then if 0≤y1.1∧y1.1<((o5.set ((y1.1).toNat) (y2.1,())).length:Int)then nx4 (af (left - ((o5.set ((y1.1).toNat) (y2.1,())).getD ((y1.1).toNat) (0,())).1)) t108o t108l t109x (af (t110x+1)) list2 t4x t4x2 t4x3 out out2 out3 (poor.set ((y1.1).toNat) (true,())) t108x (o5.set ((y1.1).toNat) (y2.1,())) o6 else none else none else none else none else none) (ex3 left list2 t4x t4x2 t4x3 out out2 out3 poor o5 o6)
def R5{R:Type}(nx5:Gm R)(qV:Pn R)(left t142x t143x t4x t4x2 t4x3 out out2 out3:Int)(poor:List (Bool×Unit))(o3:List (Int×Unit))(o4:List (Bool×Unit)):Option R:=cond (decide (t143x<t142x)) (if 0≤t143x∧t143x<(poor.length:Int)then cond ((poor.getD t143x.toNat (false,())).1) (cond (decide (left>0)) (if 0≤t143x∧t143x<(o3.length:Int)then if 0≤t143x∧t143x<(o3.length:Int)then if 0≤t143x∧t143x<(o4.length:Int)then nx5 (af (left - 1)) t142x (af (t143x+1)) t4x t4x2 t4x3 out out2 out3 poor (o3.set t143x.toNat ((af ((o3.getD t143x.toNat (0,())).1+1)),())) (o4.set t143x.toNat (true,()))else none else none else none) (nx5 left t142x (af (t143x+1)) t4x t4x2 t4x3 out out2 out3 poor o3 o4)) (nx5 left t142x (af (t143x+1)) t4x t4x2 t4x3 out out2 out3 poor o3 o4)else none) (qV t4x t4x2 t4x3 out out2 out3 o3 o4)
def A0(lo1:vU (U4))(amount:Int)(list:List U9)(list2:List U9)(t4x t4x2 t4x3 out out2 out3:Int)(o3:List (Int×Unit))(o4:List (Bool×Unit)):Option (U4):=(uK (list2,())).bind fun y1=>lo1 list2 t4x t4x2 t4x3 out out2 out3 y1.1 o3 o4
def A1(lo3:Gp (U4))(amount:Int)(list:List U9)(list2:List U9)(t4x t4x2 t4x3 out out2 out3:Int)(order:List U9)(o4:List (Int×Unit))(o5:List (Bool×Unit)):Option (U4):=cond ((order.length:Int)==0) (some (o4,0,0,out3,o5,())) (if 0≤(list2.length:Int)∧(1:Int)*(list2.length:Int)≤281474976710656∧(list2.length:Int)≤9223372036854775807 then lo3 out (order.length:Int) 0 list2 t4x t4x2 t4x3 out out2 out3 (List.replicate (((list2.length:Int):Int)).toNat (false,())) order o4 o5 else none)
def A2(lo4:Gn (U4))(amount:Int)(list:List U9)(ordero orderl:Nat)(list2:List U9)(t4x t4x2 t4x3 out out2 out3:Int)(order:List U9)(o4:List (Int×Unit))(o5:List (Bool×Unit)):Option (U4):=cond ((orderl:Int)==0) (some (o4,0,0,out3,o5,())) (if 0≤(list2.length:Int)∧(1:Int)*(list2.length:Int)≤281474976710656∧(list2.length:Int)≤9223372036854775807 then lo4 out ordero orderl (orderl:Int) 0 list2 t4x t4x2 t4x3 out out2 out3 (List.replicate (((list2.length:Int):Int)).toNat (false,())) order o4 o5 else none)
def A3(lo5:Gm (U4))(amount:Int)(list:List U9)(left:Int)(list2:List U9)(t4x t4x2 t4x3 out out2 out3:Int)(poor:List (Bool×Unit))(o4:List (Int×Unit))(o5:List (Bool×Unit)):Option (U4):=lo5 left (list2.length:Int) 0 t4x t4x2 t4x3 out out2 out3 poor o4 o5
def A4(amount:Int)(list:List U9)(t4x t4x2 t4x3 out out2 out3:Int)(o2:List (Int×Unit))(o3:List (Bool×Unit)):Option (U4):=some (o2,out,out2,out3,o3,())
def T(lo0:Gq (U4))(amount:Int)(list:List U9):Option (U4):=if 0≤(list.length:Int)∧(8:Int)*(list.length:Int)≤281474976710656∧(list.length:Int)≤9223372036854775807 then if 0≤(list.length:Int)∧(1:Int)*(list.length:Int)≤281474976710656∧(list.length:Int)≤9223372036854775807 then lo0 list (list.length:Int) 0 list 0 0 0 amount 0 0 (List.replicate (((list.length:Int):Int)).toNat (0,())) (List.replicate (((list.length:Int):Int)).toNat (false,()))else none else none
def K0{R:Type}(k0:Nat)(K:au R):au R:=bF 0 (bI (fun env ob=>zrc k0 [1,1,1] env ob (K)) (K))
def K1{R:Type}(k0:Nat)(K:au R):au R:=bF 2 (bI (fun env ob=>zrc k0 [1,1,1,1,1,1] env ob (K)) (K))
def K2{R:Type}(k0:Nat)(K:au R):au R:=bF 4 (bI (fun env ob=>zrc k0 [1,1,1,1,1,1,1,1,1] env ob (K)) (K))
def K3{R:Type}(k0:Nat)(K:au R):au R:=bF 6 (bI (fun env ob=>zrc k0 [1,1,1,1,1,1,1,1,1,1] env ob (K)) (K))
def L0:Gq R:=fun t26x t27x t28x list2 t4x t4x2 t4x3 out out2 out3 o3 o4=>iter 0 [3,4,5,26,27,28] [3,4,5] (zrc k0 [1,1,0,1,0,0]) k [(3,.ptr 0 0 0 0),(4,.ptr 1 0 0 0),(5,.ptr 2 0 0 0),(26,.sl ct0 t26x),(27,.int .i64 t27x),(28,.int .i64 t28x)] [.box [.sl ct0 list2],.box [.nils,.int .i64 t4x,.int .i64 t4x2,.int .i64 t4x3,.nils],.box [.own 3,.int .i64 out,.int .i64 out2,.int .i64 out3,.own 4],.arr [CT.int .i64] o3,.arr [CT.bool] o4] K
def L1:vU R:=fun list2 t4x t4x2 t4x3 out out2 out3 order o4 o5=>iter 0 [3,4,5,8,9] [3,4,5,8,9] (zrc k0 [1,1,1,1,1,0,0,0]) k [(3,.ptr 0 0 0 0),(4,.ptr 1 0 0 0),(5,.ptr 2 0 0 0),(8,.own 3),(9,.fn 136 [.ptr 0 0 0 0])] [.box [.sl ct0 list2],.box [.nils,.int .i64 t4x,.int .i64 t4x2,.int .i64 t4x3,.nils],.box [.own 4,.int .i64 out,.int .i64 out2,.int .i64 out3,.own 5],.arr ct0 order,.arr [CT.int .i64] o4,.arr [CT.bool] o5] K
def L2:vV R:=fun ordero orderl list2 t4x t4x2 t4x3 out out2 out3 order o4 o5=>iter 0 [3,4,5,8,9] [3,4,5,8,9] (zrc k0 [1,1,1,1,1,0,0,0]) k [(3,.ptr 0 0 0 0),(4,.ptr 1 0 0 0),(5,.ptr 2 0 0 0),(8,.ref 3 3 ordero orderl),(9,.fn 136 [.ptr 0 0 0 0])] [.box [.sl ct0 list2],.box [.nils,.int .i64 t4x,.int .i64 t4x2,.int .i64 t4x3,.nils],.box [.own 4,.int .i64 out,.int .i64 out2,.int .i64 out3,.own 5],.arr ct0 order,.arr [CT.int .i64] o4,.arr [CT.bool] o5] K
def L3:Gp R:=fun left t109x t110x list2 t4x t4x2 t4x3 out out2 out3 poor t108x o5 o6=>iter 0 [3,4,5,9,11,12,108,109,110] [3,4,5,11,12] (zrc k0 [1,1,1,1,1,1,1,1,0,1,0,0]) k [(3,.ptr 0 0 0 0),(4,.ptr 1 0 0 0),(5,.ptr 2 0 0 0),(9,.fn 136 [.ptr 0 0 0 0]),(11,.int .i64 left),(12,.own 3),(108,.own 4),(109,.int .i64 t109x),(110,.int .i64 t110x)] [.box [.sl ct0 list2],.box [.nils,.int .i64 t4x,.int .i64 t4x2,.int .i64 t4x3,.nils],.box [.own 5,.int .i64 out,.int .i64 out2,.int .i64 out3,.own 6],.arr [CT.bool] poor,.arr ct0 t108x,.arr [CT.int .i64] o5,.arr [CT.bool] o6] K
def L4:Gn R:=fun left t108o t108l t109x t110x list2 t4x t4x2 t4x3 out out2 out3 poor t108x o5 o6=>iter 0 [3,4,5,9,11,12,108,109,110] [3,4,5,11,12] (zrc k0 [1,1,1,1,1,1,1,1,0,1,0,0]) k [(3,.ptr 0 0 0 0),(4,.ptr 1 0 0 0),(5,.ptr 2 0 0 0),(9,.fn 136 [.ptr 0 0 0 0]),(11,.int .i64 left),(12,.own 3),(108,.ref 4 3 t108o t108l),(109,.int .i64 t109x),(110,.int .i64 t110x)] [.box [.sl ct0 list2],.box [.nils,.int .i64 t4x,.int .i64 t4x2,.int .i64 t4x3,.nils],.box [.own 5,.int .i64 out,.int .i64 out2,.int .i64 out3,.own 6],.arr [CT.bool] poor,.arr ct0 t108x,.arr [CT.int .i64] o5,.arr [CT.bool] o6] K
def L5:Gm R:=fun left t142x t143x t4x t4x2 t4x3 out out2 out3 poor o3 o4=>iter 0 [4,5,11,12,142,143] [4,5] (zrc k0 [1,1,1,1,1,1,1,1,1,0,1,0,0]) k [(4,.ptr 0 0 0 0),(5,.ptr 1 0 0 0),(11,.int .i64 left),(12,.own 2),(142,.int .i64 t142x),(143,.int .i64 t143x)] [.box [.nils,.int .i64 t4x,.int .i64 t4x2,.int .i64 t4x3,.nils],.box [.own 3,.int .i64 out,.int .i64 out2,.int .i64 out3,.own 4],.arr [CT.bool] poor,.arr [CT.int .i64] o3,.arr [CT.bool] o4] K
def H0:Po R:=fun list2 t4x t4x2 t4x3 out out2 out3 o3 o4=>K (.exit 0) [(3,.ptr 0 0 0 0),(4,.ptr 1 0 0 0),(5,.ptr 2 0 0 0)] [.box [.sl ct0 list2],.box [.nils,.int .i64 t4x,.int .i64 t4x2,.int .i64 t4x3,.nils],.box [.own 3,.int .i64 out,.int .i64 out2,.int .i64 out3,.own 4],.arr [CT.int .i64] o3,.arr [CT.bool] o4]
def H1:vU R:=fun list2 t4x t4x2 t4x3 out out2 out3 order o4 o5=>K (.exit 2) [(3,.ptr 0 0 0 0),(4,.ptr 1 0 0 0),(5,.ptr 2 0 0 0),(8,.own 3),(9,.fn 136 [.ptr 0 0 0 0])] [.box [.sl ct0 list2],.box [.nils,.int .i64 t4x,.int .i64 t4x2,.int .i64 t4x3,.nils],.box [.own 4,.int .i64 out,.int .i64 out2,.int .i64 out3,.own 5],.arr ct0 order,.arr [CT.int .i64] o4,.arr [CT.bool] o5]
def H2:vV R:=fun ordero orderl list2 t4x t4x2 t4x3 out out2 out3 order o4 o5=>K (.exit 2) [(3,.ptr 0 0 0 0),(4,.ptr 1 0 0 0),(5,.ptr 2 0 0 0),(8,.ref 3 3 ordero orderl),(9,.fn 136 [.ptr 0 0 0 0])] [.box [.sl ct0 list2],.box [.nils,.int .i64 t4x,.int .i64 t4x2,.int .i64 t4x3,.nils],.box [.own 4,.int .i64 out,.int .i64 out2,.int .i64 out3,.own 5],.arr ct0 order,.arr [CT.int .i64] o4,.arr [CT.bool] o5]
def H3:BN R:=fun left list2 t4x t4x2 t4x3 out out2 out3 poor o4 o5=>K (.exit 4) [(3,.ptr 0 0 0 0),(4,.ptr 1 0 0 0),(5,.ptr 2 0 0 0),(11,.int .i64 left),(12,.own 3)] [.box [.sl ct0 list2],.box [.nils,.int .i64 t4x,.int .i64 t4x2,.int .i64 t4x3,.nils],.box [.own 4,.int .i64 out,.int .i64 out2,.int .i64 out3,.own 5],.arr [CT.bool] poor,.arr [CT.int .i64] o4,.arr [CT.bool] o5]
def H4:Pn R:=fun t4x t4x2 t4x3 out out2 out3 o2 o3=>K (.exit 6) [(4,.ptr 0 0 0 0),(5,.ptr 1 0 0 0)] [.box [.nils,.int .i64 t4x,.int .i64 t4x2,.int .i64 t4x3,.nils],.box [.own 2,.int .i64 out,.int .i64 out2,.int .i64 out3,.own 3],.arr [CT.int .i64] o2,.arr [CT.bool] o3]
theorem zs0:L0 k0 (k+1) K=R0 (L0 k0 k K) (H0 K):=by kernel_rfl
theorem zs1:L1 k0 (k+1) K=R1 (L2 k0 k K) (H1 K):=by kernel_rfl
theorem zs2:L2 k0 (k+1) K=R2 (L2 k0 k K) (H2 K):=by kernel_rfl
theorem OH:L3 k0 (k+1) K=R3 (L3 k0 k K) (H3 K):=by kernel_rfl
theorem OG:L4 k0 (k+1) K=R4 (L4 k0 k K) (H3 K):=by kernel_rfl
theorem zs5:L5 k0 (k+1) K=R5 (L5 k0 k K) (H4 K):=by kernel_rfl
def G0{R:Type}(k0:Nat)(hx0:Po R):Nat→Gq R
 |0=>fun _ _ _ _ _ _ _ _ _ _ _ _=>none
 |k+1=>R0 (G0 k0 hx0 k) hx0
theorem aS:∀ k,L0 k0 k K=G0 k0 (H0 K) k:=bK rfl fun k ih=>by rw[zs0,G0];(try simp only[ih]);try rfl
def G2{R:Type}(k0:Nat)(hx1:vU R)(hx2:vV R):Nat→vV R
 |0=>fun _ _ _ _ _ _ _ _ _ _ _ _=>none
 |k+1=>R2 (G2 k0 hx1 hx2 k) hx2
theorem lD:∀ k,L2 k0 k K=G2 k0 (H1 K) (H2 K) k:=bK rfl fun k ih=>by rw[zs2,G2];(try simp only[ih,aS]);try rfl
def G1{R:Type}(k0:Nat)(hx1:vU R)(hx2:vV R):Nat→vU R
 |0=>fun _ _ _ _ _ _ _ _ _ _=>none
 |k+1=>R1 (G2 k0 hx1 hx2 k) hx1
theorem dL:∀ k,L1 k0 k K=G1 k0 (H1 K) (H2 K) k:=bK rfl fun k ih=>by rw[zs1,G1];(try simp only[ih,aS,lD]);try rfl
def G3{R:Type}(k0:Nat)(hx3:BN R):Nat→Gp R
 |0=>fun _ _ _ _ _ _ _ _ _ _ _ _ _ _=>none
 |k+1=>R3 (G3 k0 hx3 k) hx3
theorem yN:∀ k,L3 k0 k K=G3 k0 (H3 K) k:=bK rfl fun k ih=>by rw[OH,G3];(try simp only[ih,aS,lD,dL]);try rfl
def G5{R:Type}(k0:Nat)(hx4:Pn R):Nat→Gm R
 |0=>fun _ _ _ _ _ _ _ _ _ _ _ _=>none
 |k+1=>R5 (G5 k0 hx4 k) hx4
theorem X7:∀ k,L5 k0 k K=G5 k0 (H4 K) k:=bK rfl fun k ih=>by rw[zs5,G5];(try simp only[ih,aS,lD,dL,yN]);try rfl
def G4{R:Type}(k0:Nat)(hx3:BN R):Nat→Gn R
 |0=>fun _ _ _ _ _ _ _ _ _ _ _ _ _ _ _ _=>none
 |k+1=>R4 (G4 k0 hx3 k) hx3
theorem OI:∀ k,L4 k0 k K=G4 k0 (H3 K) k:=bK rfl fun k ih=>by rw[OG,G4];(try simp only[ih,aS,lD,dL,yN,X7]);try rfl
variable (amount:Int) (list:List U9)
def aB:au (U4):=dm Tryz.prog [.cell 4 145] KE Kt (amount,list,())
theorem aZ:H0 (K0 k0 (aB amount list))=A0 (L1 k0 k0 (K1 k0 (aB amount list))) amount list:=by kernel_rfl
theorem dw:H1 (K1 k0 (aB amount list))=A1 (L3 k0 k0 (K2 k0 (aB amount list))) amount list:=by kernel_rfl
theorem lF:H2 (K1 k0 (aB amount list))=A2 (L4 k0 k0 (K2 k0 (aB amount list))) amount list:=by kernel_rfl
theorem qU:H3 (K2 k0 (aB amount list))=A3 (L5 k0 k0 (K3 k0 (aB amount list))) amount list:=by kernel_rfl
theorem OJ:H4 (K3 k0 (aB amount list))=A4 amount list:=by kernel_rfl
def FF:Option (U4):=T (G0 k0 (A0 (G1 k0 (A1 (G3 k0 (A3 (G5 k0 (A4 amount list) k0) amount list) k0) amount list) (A2 (G4 k0 (A3 (G5 k0 (A4 amount list) k0) amount list) k0) amount list) k0) amount list) k0) amount list
theorem aY:dB Tryz.prog (aW dF) aC k0 117 KE Kt [] (amount,list,())=FF k0 amount list:=Eq.trans (b:=T (L0 k0 k0 (K0 k0 (aB amount list))) amount list) (by kernel_rfl) (by rw[FF];(try simp only[aS,lD,dL,yN,X7,OI,aZ,dw,lF,qU,OJ]);try rfl)
end bY
def zY:=fun x:Int×(List U9)×Unit=>bY.FF (300+x.2.1.length) x.1 x.2.1
abbrev Lc:aG:=⟨KE,Kt,zY,[]⟩
theorem abh:aF KN Tryz.prog 117 Lc:=dJ mix (.c Rx (.c aaL (.c ZL (.c aa2 .nil)))) (by kernel_rfl) fun x=>⟨bY.aC,_,bY.aY _ _ _⟩
abbrev I8:Is:=[.v true gu,.v false [CT.int .i64],.v false [CT.int .i64],.w false [CT.sl dX],.w false [CT.sl dX]]
abbrev IA:Os:=[]
namespace jk
def aC:Nat→List Nat×List Nat:=fun k=>if k=4 then([3,4,11,12,13,29,30,31],[4,11,12,13])else if k=9 then([4,11,13,45,46,47],[])else([],[])
def zrc{R:Type}(k0:Nat)(p:List Nat):Env→List Ob→au R→Option R:=bJ Tryz.prog (aW [(116,[],JS),(117,[],Lc)]) 64 2 aC k0 (cO p (dI Tryz.prog 94))
def R0{R:Type}(nx0:ug R)(ex0:Pm R)(t30x t31x:Int)(groups2 members2:List aK)(own others amounts:List (Int×Unit)):Option R:=cond (decide (t31x<t30x)) (if 0≤t31x∧t31x<(own.length:Int)then if 0≤t31x∧t31x<(amounts.length:Int)then if 0≤(own.getD t31x.toNat (0,())).1∧(own.getD t31x.toNat (0,())).1<(groups2.length:Int)then nx0 t30x (af (t31x+1)) (groups2.set (((own.getD t31x.toNat (0,())).1).toNat) ((groups2.getD (((own.getD t31x.toNat (0,())).1).toNat) (0,0,())).1,(amounts.getD t31x.toNat (0,())).1,())) members2 own others amounts else none else none else none) (ex0 groups2 members2 own others amounts)
def R1{R:Type}(nx1:ug R)(ex1:zf R)(t46x t47x:Int)(o0 members2:List aK)(own amounts t45x:List (Int×Unit)):Option R:=cond (decide (t47x<t46x)) (if 0≤t47x∧t47x<(t45x.length:Int)then if 0≤(af ((own.length:Int)+t47x))∧(af ((own.length:Int)+t47x))<(amounts.length:Int)then if 0≤(t45x.getD t47x.toNat (0,())).1∧(t45x.getD t47x.toNat (0,())).1<(members2.length:Int)then nx1 t46x (af (t47x+1)) o0 (members2.set (((t45x.getD t47x.toNat (0,())).1).toNat) ((members2.getD (((t45x.getD t47x.toNat (0,())).1).toNat) (0,0,())).1,(amounts.getD (((af ((own.length:Int)+t47x))).toNat) (0,())).1,())) own amounts t45x else none else none else none) (ex1 o0 members2)
def A0(lo1:ug ((List aK)×(List aK)×Unit))(f0:Int)(f1 f2:List U8)(id amount:Int)(groups members:List aK)(o0 members2:List aK)(own others amounts:List (Int×Unit)):Option ((List aK)×(List aK)×Unit):=lo1 (others.length:Int) 0 o0 members2 own amounts others
def A1(f0:Int)(f1 f2:List U8)(id amount:Int)(groups members:List aK)(o0 o1:List aK):Option ((List aK)×(List aK)×Unit):=some (o0,o1,())
def T(lo0:ug ((List aK)×(List aK)×Unit))(f0:Int)(f1 f2:List U8)(id amount:Int)(groups members:List aK):Option ((List aK)×(List aK)×Unit):=(Di (f0,f1,f2,id,())).bind fun y1=>(zY (amount,y1.1,())).bind fun y2=>lo0 (y1.2.1.length:Int) 0 groups members y1.2.1 y1.2.2.1 y2.1
def K0{R:Type}(k0:Nat)(K:au R):au R:=bF 0 (bI (fun env ob=>zrc k0 [1,1,1,1] env ob (K)) (K))
def K1{R:Type}(k0:Nat)(K:au R):au R:=bF 2 (K)
def L0:ug R:=fun t30x t31x groups2 members2 own others amounts=>iter 2 [3,4,11,12,13,29,30,31] [4,11,12,13] (zrc k0 [1,1,1,0,1,0,0]) k [(3,.own 0),(4,.own 1),(11,.own 2),(12,.own 3),(13,.own 4),(29,.own 2),(30,.int .i64 t30x),(31,.int .i64 t31x)] [.arr dX groups2,.arr dX members2,.arr [CT.int .i64] own,.arr [CT.int .i64] others,.arr [CT.int .i64] amounts] K
def L1:ug R:=fun t46x t47x o0 members2 own amounts t45x=>iter 2 [4,11,13,45,46,47] [] (zrc k0 [1,1,1,1,1,0,0]) k [(4,.own 1),(11,.own 2),(13,.own 3),(45,.own 4),(46,.int .i64 t46x),(47,.int .i64 t47x)] [.arr dX o0,.arr dX members2,.arr [CT.int .i64] own,.arr [CT.int .i64] amounts,.arr [CT.int .i64] t45x] K
def H0:Pm R:=fun o0 members2 own others amounts=>K (.exit 0) [(4,.own 1),(11,.own 2),(12,.own 3),(13,.own 4)] [.arr dX o0,.arr dX members2,.arr [CT.int .i64] own,.arr [CT.int .i64] others,.arr [CT.int .i64] amounts]
def H1:zf R:=fun o0 o1=>K (.exit 2) [] [.arr dX o0,.arr dX o1]
theorem zs0:L0 k0 (k+1) K=R0 (L0 k0 k K) (H0 K):=by kernel_rfl
theorem zs1:L1 k0 (k+1) K=R1 (L1 k0 k K) (H1 K):=by kernel_rfl
def G0{R:Type}(k0:Nat)(hx0:Pm R):Nat→ug R
 |0=>fun _ _ _ _ _ _ _=>none
 |k+1=>R0 (G0 k0 hx0 k) hx0
theorem aS:∀ k,L0 k0 k K=G0 k0 (H0 K) k:=bK rfl fun k ih=>by rw[zs0,G0];(try simp only[ih]);try rfl
def G1{R:Type}(k0:Nat)(hx1:zf R):Nat→ug R
 |0=>fun _ _ _ _ _ _ _=>none
 |k+1=>R1 (G1 k0 hx1 k) hx1
theorem dL:∀ k,L1 k0 k K=G1 k0 (H1 K) k:=bK rfl fun k ih=>by rw[zs1,G1];(try simp only[ih,aS]);try rfl
variable (f0:Int) (f1 f2:List U8) (id amount:Int) (groups members:List aK)
def aB:au ((List aK)×(List aK)×Unit):=dm Tryz.prog [] I8 IA (f0,f1,f2,id,amount,groups,members,())
theorem aZ:H0 (K0 k0 (aB f0 f1 f2 id amount groups members))=A0 (L1 k0 k0 (K1 k0 (aB f0 f1 f2 id amount groups members))) f0 f1 f2 id amount groups members:=by kernel_rfl
theorem dw:H1 (K1 k0 (aB f0 f1 f2 id amount groups members))=A1 f0 f1 f2 id amount groups members:=by kernel_rfl
def FF:Option ((List aK)×(List aK)×Unit):=T (G0 k0 (A0 (G1 k0 (A1 f0 f1 f2 id amount groups members) k0) f0 f1 f2 id amount groups members) k0) f0 f1 f2 id amount groups members
theorem aY:dB Tryz.prog (aW [(116,[],JS),(117,[],Lc)]) aC k0 94 I8 IA [] (f0,f1,f2,id,amount,groups,members,())=FF k0 f0 f1 f2 id amount groups members:=Eq.trans (b:=T (L0 k0 k0 (K0 k0 (aB f0 f1 f2 id amount groups members))) f0 f1 f2 id amount groups members) (by kernel_rfl) (by rw[FF];(try simp only[aS,dL,aZ,dw]);try rfl)
def _root_.Go.Rv.zD:=fun x:Int×(List U8)×(List U8)×Int×Int×(List aK)×(List aK)×Unit=>FF (300+x.2.1.length+x.2.2.1.length+x.2.2.2.2.2.1.length+x.2.2.2.2.2.2.1.length) x.1 x.2.1 x.2.2.1 x.2.2.2.1 x.2.2.2.2.1 x.2.2.2.2.2.1 x.2.2.2.2.2.2.1
abbrev _root_.Go.Rv.JR:aG:=⟨I8,IA,zD,[]⟩
theorem _root_.Go.Rv.ZN:aF KN Tryz.prog 94 JR:=dJ mix (.c ZO (.c abh .nil)) (by kernel_rfl) fun x=>⟨aC,_,aY _ _ _ _ _ _ _ _⟩
end jk
abbrev Io:Is:=[.v true gu]
abbrev H7:Os:=[(false,[CT.sl dX]),(false,[CT.sl dX])]
namespace fK
def aC:Nat→List Nat×List Nat:=fun k=>if k=3 then([1,4,5,15,16,17],[1,4,5])else if k=8 then([1,4,5,29,30,31],[1,4,5])else if k=14 then([1,4,5,49,50,51],[4,5])else([],[])
def zrc{R:Type}(k0:Nat)(p:List Nat):Env→List Ob→au R→Option R:=bJ Tryz.prog (aW [(94,[],JR)]) 70 0 aC k0 (cO p (dI Tryz.prog 46))
def R0{R:Type}(nx0:nU R)(ex0:yZ R)(t15x:List U8)(t16x t17x f:Int)(f3 f4:List U8)(groups members:List aK):Option R:=cond (decide (t17x<t16x)) (if 0≤t17x∧t17x<(t15x.length:Int)then if groups.length+[((rd (0,0,0,0,()) t15x t17x).1,0,())].length≤maxRow then nx0 t15x t16x (af (t17x+1)) f f3 f4 (groups++[((rd (0,0,0,0,()) t15x t17x).1,0,())]) members else none else none) (ex0 f f3 f4 groups members)
def R1{R:Type}(nx1:nU R)(ex1:yZ R)(t29x:List U8)(t30x t31x f:Int)(f3 f4:List U8)(groups members:List aK):Option R:=cond (decide (t31x<t30x)) (if 0≤t31x∧t31x<(t29x.length:Int)then if members.length+[((rd (0,0,0,0,()) t29x t31x).1,0,())].length≤maxRow then nx1 t29x t30x (af (t31x+1)) f f3 f4 groups (members++[((rd (0,0,0,0,()) t29x t31x).1,0,())])else none else none) (ex1 f f3 f4 groups members)
def R2{R:Type}(nx2:nU R)(ex2:zf R)(t49x:List U8)(t50x t51x f:Int)(f3 f4:List U8)(groups members:List aK):Option R:=cond (decide (t51x<t50x)) (if 0≤t51x∧t51x<(t49x.length:Int)then if 0≤t51x∧t51x<(groups.length:Int)then(zD (f,f3,f4,(rd (0,0,0,0,()) t49x t51x).1,(groups.getD t51x.toNat (0,0,())).2.1,groups,members,())).bind fun y1=>nx2 t49x t50x (af (t51x+1)) f f3 f4 y1.1 y1.2.1 else none else none) (ex2 groups members)
def A0(lo1:nU ((List aK)×(List aK)×Unit))(f0:Int)(f1 f2:List U8)(f:Int)(f3 f4:List U8)(groups members:List aK):Option ((List aK)×(List aK)×Unit):=lo1 f4 (f4.length:Int) 0 f f3 f4 groups members
def A1(lo2:nU ((List aK)×(List aK)×Unit))(f0:Int)(f1 f2:List U8)(f:Int)(f3 f4:List U8)(groups members:List aK):Option ((List aK)×(List aK)×Unit):=(zD (f,f3,f4,0,f,groups,members,())).bind fun y1=>lo2 f3 (f3.length:Int) 0 f f3 f4 y1.1 y1.2.1
def A2(f0:Int)(f1 f2:List U8)(groups members:List aK):Option ((List aK)×(List aK)×Unit):=some (groups,members,())
def T(lo0:nU ((List aK)×(List aK)×Unit))(f0:Int)(f1 f2:List U8):Option ((List aK)×(List aK)×Unit):=lo0 f1 (f1.length:Int) 0 f0 f1 f2 ([]:List aK) ([]:List aK)
def K0{R:Type}(k0:Nat)(K:au R):au R:=bF 0 (bI (fun env ob=>zrc k0 [1,1,1] env ob (K)) (K))
def K1{R:Type}(k0:Nat)(K:au R):au R:=bF 2 (bI (fun env ob=>zrc k0 [1,1,1,1] env ob (K)) (K))
def K2{R:Type}(k0:Nat)(K:au R):au R:=bF 4 (bI (fun env ob=>zrc k0 [1,1,1,1,1,1] env ob (K)) (K))
def L0:nU R:=fun t15x t16x t17x f f3 f4 groups members=>iter 0 [1,4,5,15,16,17] [1,4,5] (zrc k0 [1,1,0,1,0,0]) k [(1,.ptr 0 0 0 0),(4,.own 1),(5,.own 2),(15,.sl aA t15x),(16,.int .i64 t16x),(17,.int .i64 t17x)] [.box [.int .i64 f,.sl aA f3,.sl aA f4],.arr dX groups,.arr dX members] K
def L1:nU R:=fun t29x t30x t31x f f3 f4 groups members=>iter 0 [1,4,5,29,30,31] [1,4,5] (zrc k0 [1,1,1,0,1,0,0]) k [(1,.ptr 0 0 0 0),(4,.own 1),(5,.own 2),(29,.sl aA t29x),(30,.int .i64 t30x),(31,.int .i64 t31x)] [.box [.int .i64 f,.sl aA f3,.sl aA f4],.arr dX groups,.arr dX members] K
def L2:nU R:=fun t49x t50x t51x f f3 f4 groups members=>iter 0 [1,4,5,49,50,51] [4,5] (zrc k0 [1,1,1,1,1,0,1,0,0]) k [(1,.ptr 0 0 0 0),(4,.own 1),(5,.own 2),(49,.sl aA t49x),(50,.int .i64 t50x),(51,.int .i64 t51x)] [.box [.int .i64 f,.sl aA f3,.sl aA f4],.arr dX groups,.arr dX members] K
def H0:yZ R:=fun f f3 f4 groups members=>K (.exit 0) [(1,.ptr 0 0 0 0),(4,.own 1),(5,.own 2)] [.box [.int .i64 f,.sl aA f3,.sl aA f4],.arr dX groups,.arr dX members]
def H1:yZ R:=fun f f3 f4 groups members=>K (.exit 2) [(1,.ptr 0 0 0 0),(4,.own 1),(5,.own 2)] [.box [.int .i64 f,.sl aA f3,.sl aA f4],.arr dX groups,.arr dX members]
def H2:zf R:=fun groups members=>K (.exit 4) [(4,.own 0),(5,.own 1)] [.arr dX groups,.arr dX members]
theorem zs0:L0 k0 (k+1) K=R0 (L0 k0 k K) (H0 K):=by kernel_rfl
theorem zs1:L1 k0 (k+1) K=R1 (L1 k0 k K) (H1 K):=by kernel_rfl
theorem zs2:L2 k0 (k+1) K=R2 (L2 k0 k K) (H2 K):=by kernel_rfl
def G0{R:Type}(k0:Nat)(hx0:yZ R):Nat→nU R
 |0=>fun _ _ _ _ _ _ _ _=>none
 |k+1=>R0 (G0 k0 hx0 k) hx0
theorem aS:∀ k,L0 k0 k K=G0 k0 (H0 K) k:=bK rfl fun k ih=>by rw[zs0,G0];(try simp only[ih]);try rfl
def G1{R:Type}(k0:Nat)(hx1:yZ R):Nat→nU R
 |0=>fun _ _ _ _ _ _ _ _=>none
 |k+1=>R1 (G1 k0 hx1 k) hx1
theorem dL:∀ k,L1 k0 k K=G1 k0 (H1 K) k:=bK rfl fun k ih=>by rw[zs1,G1];(try simp only[ih,aS]);try rfl
def G2{R:Type}(k0:Nat)(hx2:zf R):Nat→nU R
 |0=>fun _ _ _ _ _ _ _ _=>none
 |k+1=>R2 (G2 k0 hx2 k) hx2
theorem lD:∀ k,L2 k0 k K=G2 k0 (H2 K) k:=bK rfl fun k ih=>by rw[zs2,G2];(try simp only[ih,aS,dL]);try rfl
variable (f0:Int) (f1 f2:List U8)
def aB:au ((List aK)×(List aK)×Unit):=dm Tryz.prog [.tmp 2,.tmp 3] Io H7 (f0,f1,f2,())
theorem aZ:H0 (K0 k0 (aB f0 f1 f2))=A0 (L1 k0 k0 (K1 k0 (aB f0 f1 f2))) f0 f1 f2:=by kernel_rfl
theorem dw:H1 (K1 k0 (aB f0 f1 f2))=A1 (L2 k0 k0 (K2 k0 (aB f0 f1 f2))) f0 f1 f2:=by kernel_rfl
theorem lF:H2 (K2 k0 (aB f0 f1 f2))=A2 f0 f1 f2:=by kernel_rfl
def FF:Option ((List aK)×(List aK)×Unit):=T (G0 k0 (A0 (G1 k0 (A1 (G2 k0 (A2 f0 f1 f2) k0) f0 f1 f2) k0) f0 f1 f2) k0) f0 f1 f2
theorem aY:dB Tryz.prog (aW [(94,[],JR)]) aC k0 46 Io H7 [] (f0,f1,f2,())=FF k0 f0 f1 f2:=Eq.trans (b:=T (L0 k0 k0 (K0 k0 (aB f0 f1 f2))) f0 f1 f2) (by kernel_rfl) (by rw[FF];(try simp only[aS,dL,lD,aZ,dw,lF]);try rfl)
def _root_.Go.Rv.oQ:=fun x:U3=>FF (300+x.2.1.length+x.2.2.1.length) x.1 x.2.1 x.2.2.1
abbrev _root_.Go.Rv.ZB:aG:=⟨Io,H7,oQ,[]⟩
theorem _root_.Go.Rv.PY:aF KN Tryz.prog 46 ZB:=dJ mix (.c ZN .nil) (by kernel_rfl) fun x=>⟨aC,_,aY _ _ _ _⟩
end fK
abbrev J5:Is:=[.v false [CT.sl ct0],.v false [CT.int .i64],.v false [CT.int .i64]]
abbrev JD:Os:=[(false,[CT.int .i64])]
namespace ni
def aC:Nat→List Nat×List Nat:=fun k=>if k=3 then([1,2,7,10,11,12],[7])else([],[])
def zrc{R:Type}(k0:Nat)(p:List Nat):Env→List Ob→au R→Option R:=bJ Tryz.prog (aW []) 32 0 aC k0 (cO p (dI Tryz.prog 47))
def R0{R:Type}(nx0:Gl R)(ex0:Y2 R)(now2 id2 sum:Int)(t10x:List U9)(t11x t12x:Int):Option R:=cond (decide (t12x<t11x)) (if 0≤t12x∧t12x<(t10x.length:Int)then cond (decide ((rd (0,0,0,()) t10x t12x).2.2.1>now2)) (cond ((rd (0,0,0,()) t10x t12x).1 != id2) (nx0 now2 id2 (af (sum+(rd (0,0,0,()) t10x t12x).2.1)) t10x t11x (af (t12x+1))) (nx0 now2 id2 sum t10x t11x (af (t12x+1)))) (nx0 now2 id2 sum t10x t11x (af (t12x+1)))else none) (ex0 sum)
def A0(list:List U9)(now id:Int)(sum:Int):Option (Int×Unit):=some (sum,())
def T(lo0:Gl (Int×Unit))(list:List U9)(now id:Int):Option (Int×Unit):=lo0 now id 0 list (list.length:Int) 0
def K0{R:Type}(k0:Nat)(K:au R):au R:=bF 0 (bI (fun env ob=>zrc k0 [1,1,1] env ob (K)) (K))
def L0:Gl R:=fun now2 id2 sum t10x t11x t12x=>iter 0 [1,2,7,10,11,12] [7] (zrc k0 [1,1,0,1,0,0]) k [(1,.int .i64 now2),(2,.int .i64 id2),(7,.int .i64 sum),(10,.sl ct0 t10x),(11,.int .i64 t11x),(12,.int .i64 t12x)] [] K
def H0:Y2 R:=fun sum=>K (.exit 0) [(7,.int .i64 sum)] []
theorem zs0:L0 k0 (k+1) K=R0 (L0 k0 k K) (H0 K):=by kernel_rfl
def G0{R:Type}(k0:Nat)(hx0:Y2 R):Nat→Gl R
 |0=>fun _ _ _ _ _ _=>none
 |k+1=>R0 (G0 k0 hx0 k) hx0
theorem aS:∀ k,L0 k0 k K=G0 k0 (H0 K) k:=bK rfl fun k ih=>by rw[zs0,G0];(try simp only[ih]);try rfl
variable (list:List U9) (now id:Int)
def aB:au (Int×Unit):=dm Tryz.prog [.tmp 6] J5 JD (list,now,id,())
theorem aZ:H0 (K0 k0 (aB list now id))=A0 list now id:=by kernel_rfl
def FF:Option (Int×Unit):=T (G0 k0 (A0 list now id) k0) list now id
theorem aY:dB Tryz.prog (aW []) aC k0 47 J5 JD [] (list,now,id,())=FF k0 list now id:=Eq.trans (b:=T (L0 k0 k0 (K0 k0 (aB list now id))) list now id) (by kernel_rfl) (by rw[FF];(try simp only[aS,aZ]);try rfl)
def _root_.Go.Rv.uM:=fun x:(List U9)×aK=>FF (300+x.1.length) x.1 x.2.1 x.2.2.1
abbrev _root_.Go.Rv.aa6:aG:=⟨J5,JD,uM,[]⟩
theorem _root_.Go.Rv.Ry:aF Dr Tryz.prog 47 aa6:=dJ mix .nil (by kernel_rfl) fun x=>⟨aC,_,aY _ _ _ _⟩
end ni
def Jc.T(m0 m1 m2 m3 id:Int):Option (Int×Unit):=(qi (m0,id,())).bind fun y1=>some (y1.1,())
def zk:=fun x:U6=>Jc.T x.1 x.2.1 x.2.2.1 x.2.2.2.1 x.2.2.2.2.1
abbrev Iq:aG:=⟨[.v true aA,.v false [CT.int .i64]],[(false,[CT.int .i64])],zk,[]⟩
theorem YW:aF Dr Tryz.prog 104 Iq:=bg mix (.c BZ .nil) (by kernel_rfl) fun x=>by kernel_rfl
abbrev Gu:Is:=[.v false [CT.sl aA],.v false [CT.int .i64],.cl 104 []]
abbrev Gt:Os:=[(false,[CT.int .i64]),(false,[CT.bool])]
namespace vX
def aC:Nat→List Nat×List Nat:=fun k=>if k=3 then([0,1,2,8,9,10],[0,1,2,8,9])else([],[])
def zrc{R:Type}(k0:Nat)(p:List Nat):Env→List Ob→au R→Option R:=bJ Tryz.prog (aW [(104,[],Iq)]) 49 0 aC k0 (cO p (dI Tryz.prog 103))
def R0{R:Type}(nx0:Y3 R)(ex0:Y4 R)(x2:List U8)(target2 n i j:Int):Option R:=cond (decide (i<j)) (if 0≤(af ((Int.fdiv (IntKind.u64.wrap ((af (i+j)))) (2 ^ 1))))∧(af ((Int.fdiv (IntKind.u64.wrap ((af (i+j)))) (2 ^ 1))))<(x2.length:Int)then(zk ((rd (0,0,0,0,()) x2 (af ((Int.fdiv (IntKind.u64.wrap ((af (i+j)))) (2 ^ 1))))).1,(rd (0,0,0,0,()) x2 (af ((Int.fdiv (IntKind.u64.wrap ((af (i+j)))) (2 ^ 1))))).2.1,(rd (0,0,0,0,()) x2 (af ((Int.fdiv (IntKind.u64.wrap ((af (i+j)))) (2 ^ 1))))).2.2.1,(rd (0,0,0,0,()) x2 (af ((Int.fdiv (IntKind.u64.wrap ((af (i+j)))) (2 ^ 1))))).2.2.2.1,target2,())).bind fun y1=>cond (decide (y1.1<0)) (nx0 x2 target2 n (af ((af ((Int.fdiv (IntKind.u64.wrap ((af (i+j)))) (2 ^ 1))))+1)) j) (nx0 x2 target2 n i (af ((Int.fdiv (IntKind.u64.wrap ((af (i+j)))) (2 ^ 1)))))else none) (ex0 x2 target2 n i)
def A0(x:List U8)(target:Int)(x2:List U8)(target2 n i:Int):Option (Int×Bool×Unit):=cond (decide (i<n)) (if 0≤i∧i<(x2.length:Int)then(zk ((rd (0,0,0,0,()) x2 i).1,(rd (0,0,0,0,()) x2 i).2.1,(rd (0,0,0,0,()) x2 i).2.2.1,(rd (0,0,0,0,()) x2 i).2.2.2.1,target2,())).bind fun y1=>some (i,(y1.1==0),())else none) (some (i,false,()))
def T(lo0:Y3 (Int×Bool×Unit))(x:List U8)(target:Int):Option (Int×Bool×Unit):=lo0 x target (x.length:Int) 0 (x.length:Int)
def K0{R:Type}(k0:Nat)(K:au R):au R:=bF 0 (bI (fun env ob=>zrc k0 [1,1,1,1] env ob (K)) (K))
def L0:Y3 R:=fun x2 target2 n i j=>iter 0 [0,1,2,8,9,10] [0,1,2,8,9] (zrc k0 [1,1,1,0,0,0]) k [(0,.sl aA x2),(1,.int .i64 target2),(2,.fn 104 []),(8,.int .i64 n),(9,.int .i64 i),(10,.int .i64 j)] [] K
def H0:Y4 R:=fun x2 target2 n i=>K (.exit 0) [(0,.sl aA x2),(1,.int .i64 target2),(2,.fn 104 []),(8,.int .i64 n),(9,.int .i64 i)] []
theorem zs0:L0 k0 (k+1) K=R0 (L0 k0 k K) (H0 K):=by kernel_rfl
def G0{R:Type}(k0:Nat)(hx0:Y4 R):Nat→Y3 R
 |0=>fun _ _ _ _ _=>none
 |k+1=>R0 (G0 k0 hx0 k) hx0
theorem aS:∀ k,L0 k0 k K=G0 k0 (H0 K) k:=bK rfl fun k ih=>by rw[zs0,G0];(try simp only[ih]);try rfl
variable (x:List U8) (target:Int)
def aB:au (Int×Bool×Unit):=dm Tryz.prog [.tmp 6,.tmp 7] Gu Gt (x,target,())
theorem aZ:H0 (K0 k0 (aB x target))=A0 x target:=by kernel_rfl
def FF:Option (Int×Bool×Unit):=T (G0 k0 (A0 x target) k0) x target
theorem aY:dB Tryz.prog (aW [(104,[],Iq)]) aC k0 103 Gu Gt [] (x,target,())=FF k0 x target:=Eq.trans (b:=T (L0 k0 k0 (K0 k0 (aB x target))) x target) (by kernel_rfl) (by rw[FF];(try simp only[aS,aZ]);try rfl)
def _root_.Go.Rv.Gw:=fun x:(List U8)×Int×Unit=>FF (300+x.1.length) x.1 x.2.1
abbrev _root_.Go.Rv.Yb:aG:=⟨Gu,Gt,Gw,[]⟩
theorem _root_.Go.Rv.Ya:aF Dr Tryz.prog 103 Yb:=dJ mix (.c YW .nil) (by kernel_rfl) fun x=>⟨aC,_,aY _ _ _⟩
end vX
def QC.T(f0:Int)(f1 f2:List U8)(id:Int):Option (Int×Bool×Unit):=(Gw (f2,id,())).bind fun y1=>some (y1.1,y1.2.1,())
def oU:=fun x:Int×(List U8)×(List U8)×Int×Unit=>QC.T x.1 x.2.1 x.2.2.1 x.2.2.2.1
abbrev Qh:aG:=⟨[.v true gu,.v false [CT.int .i64]],[(false,[CT.int .i64]),(false,[CT.bool])],oU,[]⟩
theorem Ce:aF Dr Tryz.prog 76 Qh:=bg mix (.cf [104] Ya .nil) (by kernel_rfl) fun x=>by kernel_rfl
def Qa.T(f0:Int)(f1 f2:List U8)(id:Int):Option (Bool×Unit):=(qm (f0,f1,f2,id,())).bind fun y1=>cond y1.2.1 (some (true,())) (some ((id==0),()))
def mP:=fun x:Int×(List U8)×(List U8)×Int×Unit=>Qa.T x.1 x.2.1 x.2.2.1 x.2.2.2.1
abbrev PS:aG:=⟨[.v true gu,.v false [CT.int .i64]],[(false,[CT.bool])],mP,[]⟩
theorem BX:aF Dr Tryz.prog 92 PS:=bg mix (.c Cj .nil) (by kernel_rfl) fun x=>by kernel_rfl
def G9.T(s:List U9):Option ((List U9)×Unit):=if s.length=0 then(@ite _ (some ([],())=if([]:List U9).length+s.length≤maxRow then some ((([]:List U9)++s),())else none) (Classical.propDecidable _) (if([]:List U9).length+s.length≤maxRow then some ((([]:List U9)++s),())else none) none)else if([]:List U9).length+s.length≤maxRow then some ((([]:List U9)++s),())else none
def BR:=fun x:(List U9)×Unit=>G9.T x.1
abbrev YG:aG:=⟨[.v false [CT.sl ct0]],[(false,[CT.sl ct0])],BR,[]⟩
theorem PE:aF Dr Tryz.prog 74 YG:=bg mix .nil (by kernel_rfl) fun x=>by kernel_rfl
def Kv.T(l0 l1 l2 id:Int):Option (Int×Unit):=(qi (l0,id,())).bind fun y1=>some (y1.1,())
def zB:=fun x:U8=>Kv.T x.1 x.2.1 x.2.2.1 x.2.2.2.1
abbrev JP:aG:=⟨[.v true ct0,.v false [CT.int .i64]],[(false,[CT.int .i64])],zB,[]⟩
theorem ZK:aF Dr Tryz.prog 142 JP:=bg mix (.c BZ .nil) (by kernel_rfl) fun x=>by kernel_rfl
abbrev GH:Is:=[.v false [CT.sl ct0],.v false [CT.int .i64],.cl 142 []]
abbrev Gy:Os:=[(false,[CT.int .i64]),(false,[CT.bool])]
namespace vZ
def aC:Nat→List Nat×List Nat:=fun k=>if k=3 then([0,1,2,8,9,10],[0,1,2,8,9])else([],[])
def zrc{R:Type}(k0:Nat)(p:List Nat):Env→List Ob→au R→Option R:=bJ Tryz.prog (aW [(142,[],JP)]) 49 0 aC k0 (cO p (dI Tryz.prog 141))
def R0{R:Type}(nx0:uf R)(ex0:Pj R)(x2:List U9)(target2 n i j:Int):Option R:=cond (decide (i<j)) (if 0≤(af ((Int.fdiv (IntKind.u64.wrap ((af (i+j)))) (2 ^ 1))))∧(af ((Int.fdiv (IntKind.u64.wrap ((af (i+j)))) (2 ^ 1))))<(x2.length:Int)then(zB ((rd (0,0,0,()) x2 (af ((Int.fdiv (IntKind.u64.wrap ((af (i+j)))) (2 ^ 1))))).1,(rd (0,0,0,()) x2 (af ((Int.fdiv (IntKind.u64.wrap ((af (i+j)))) (2 ^ 1))))).2.1,(rd (0,0,0,()) x2 (af ((Int.fdiv (IntKind.u64.wrap ((af (i+j)))) (2 ^ 1))))).2.2.1,target2,())).bind fun y1=>cond (decide (y1.1<0)) (nx0 x2 target2 n (af ((af ((Int.fdiv (IntKind.u64.wrap ((af (i+j)))) (2 ^ 1))))+1)) j) (nx0 x2 target2 n i (af ((Int.fdiv (IntKind.u64.wrap ((af (i+j)))) (2 ^ 1)))))else none) (ex0 x2 target2 n i)
def A0(x:List U9)(target:Int)(x2:List U9)(target2 n i:Int):Option (Int×Bool×Unit):=cond (decide (i<n)) (if 0≤i∧i<(x2.length:Int)then(zB ((rd (0,0,0,()) x2 i).1,(rd (0,0,0,()) x2 i).2.1,(rd (0,0,0,()) x2 i).2.2.1,target2,())).bind fun y1=>some (i,(y1.1==0),())else none) (some (i,false,()))
def T(lo0:uf (Int×Bool×Unit))(x:List U9)(target:Int):Option (Int×Bool×Unit):=lo0 x target (x.length:Int) 0 (x.length:Int)
def K0{R:Type}(k0:Nat)(K:au R):au R:=bF 0 (bI (fun env ob=>zrc k0 [1,1,1,1] env ob (K)) (K))
def L0:uf R:=fun x2 target2 n i j=>iter 0 [0,1,2,8,9,10] [0,1,2,8,9] (zrc k0 [1,1,1,0,0,0]) k [(0,.sl ct0 x2),(1,.int .i64 target2),(2,.fn 142 []),(8,.int .i64 n),(9,.int .i64 i),(10,.int .i64 j)] [] K
def H0:Pj R:=fun x2 target2 n i=>K (.exit 0) [(0,.sl ct0 x2),(1,.int .i64 target2),(2,.fn 142 []),(8,.int .i64 n),(9,.int .i64 i)] []
theorem zs0:L0 k0 (k+1) K=R0 (L0 k0 k K) (H0 K):=by kernel_rfl
def G0{R:Type}(k0:Nat)(hx0:Pj R):Nat→uf R
 |0=>fun _ _ _ _ _=>none
 |k+1=>R0 (G0 k0 hx0 k) hx0
theorem aS:∀ k,L0 k0 k K=G0 k0 (H0 K) k:=bK rfl fun k ih=>by rw[zs0,G0];(try simp only[ih]);try rfl
variable (x:List U9) (target:Int)
def aB:au (Int×Bool×Unit):=dm Tryz.prog [.tmp 6,.tmp 7] GH Gy (x,target,())
theorem aZ:H0 (K0 k0 (aB x target))=A0 x target:=by kernel_rfl
def FF:Option (Int×Bool×Unit):=T (G0 k0 (A0 x target) k0) x target
theorem aY:dB Tryz.prog (aW [(142,[],JP)]) aC k0 141 GH Gy [] (x,target,())=FF k0 x target:=Eq.trans (b:=T (L0 k0 k0 (K0 k0 (aB x target))) x target) (by kernel_rfl) (by rw[FF];(try simp only[aS,aZ]);try rfl)
def _root_.Go.Rv.GI:=fun x:(List U9)×Int×Unit=>FF (300+x.1.length) x.1 x.2.1
abbrev _root_.Go.Rv.Yf:aG:=⟨GH,Gy,GI,[]⟩
theorem _root_.Go.Rv.Ye:aF Dr Tryz.prog 141 Yf:=dJ mix (.c ZK .nil) (by kernel_rfl) fun x=>⟨aC,_,aY _ _ _⟩
end vZ
def SH.T(list:List U9)(id:Int):Option (Int×Bool×Unit):=(GI (list,id,())).bind fun y1=>some (y1.1,y1.2.1,())
def DC:=fun x:(List U9)×Int×Unit=>SH.T x.1 x.2.1
abbrev aaR:aG:=⟨[.v false [CT.sl ct0],.v false [CT.int .i64]],[(false,[CT.int .i64]),(false,[CT.bool])],DC,[]⟩
theorem aav:aF Dr Tryz.prog 120 aaR:=bg mix (.cf [142] Ye .nil) (by kernel_rfl) fun x=>by kernel_rfl
def KF.T(list:List U9)(l0 l1 l2:Int):Option ((List U9)×Unit):=(BR (list,())).bind fun y1=>(DC (list,l0,())).bind fun y2=>cond y2.2.1 (if 0≤y2.1∧y2.1<(y1.1.length:Int)then some ((y1.1.set ((y2.1).toNat) (l0,l1,l2,())),())else none) ((BQ (y1.1,y2.1,[(l0,l1,l2,())],())).bind fun y3=>some (y3.1,()))
def qp:=fun x:(List U9)×U9=>KF.T x.1 x.2.1 x.2.2.1 x.2.2.2.1
abbrev aaC:aG:=⟨[.v false [CT.sl ct0],.v true ct0],[(false,[CT.sl ct0])],qp,[]⟩
theorem aae:aF Dr Tryz.prog 102 aaC:=bg mix (.c PE (.c aav (.c YB .nil))) (by kernel_rfl) fun x=>by kernel_rfl
def Dk.T(s0 s1 s2 s3:Int)(s4 s5:List U8)(s6:List U9)(o0 o1 o2 o3 o4:Int):Option (Int×Int×Int×U1):=(oU (s3,s4,s5,o1,())).bind fun y1=>cond (decide (s2<(af (s1+s0)))) (some (0,0,7,s0,s1,s2,s3,s4,s5,s6,())) ((mP (s3,s4,s5,o2,())).bind fun y2=>cond (!y2.1) (some (0,0,4,s0,s1,s2,s3,s4,s5,s6,())) (cond (!y1.2.1) (cond ((s5.length:Int)==60) (some (0,0,6,s0,s1,s2,s3,s4,s5,s6,())) (cond (!y1.2.1) ((lX (s5,y1.1,[(0,0,0,0,())],())).bind fun y3=>if 0≤y1.1∧y1.1<(y3.1.length:Int)then(oQ (s3,s4,(y3.1.set ((y1.1).toNat) (o1,o2,o3,o4,())),())).bind fun y4=>(uM (s6,s2,o1,())).bind fun y5=>if 0≤y1.1∧y1.1<(y4.2.1.length:Int)then(qp (s6,o1,(mn ((y4.2.1.getD ((y1.1).toNat) (0,0,())).2.1) (mx (af (s3 - y5.1)) 0)),(af (s2+s0)),())).bind fun y6=>some ((mn ((y4.2.1.getD ((y1.1).toNat) (0,0,())).2.1) (mx (af (s3 - y5.1)) 0)),(af (s2+s0)),0,s0,s1,s2,s3,s4,(y3.1.set ((y1.1).toNat) (o1,o2,o3,o4,())),y6.1,())else none else none) (if 0≤y1.1∧y1.1<(s5.length:Int)then(oQ (s3,s4,(s5.set ((y1.1).toNat) (o1,o2,o3,o4,())),())).bind fun y7=>(uM (s6,s2,o1,())).bind fun y8=>if 0≤y1.1∧y1.1<(y7.2.1.length:Int)then(qp (s6,o1,(mn ((y7.2.1.getD ((y1.1).toNat) (0,0,())).2.1) (mx (af (s3 - y8.1)) 0)),(af (s2+s0)),())).bind fun y9=>some ((mn ((y7.2.1.getD ((y1.1).toNat) (0,0,())).2.1) (mx (af (s3 - y8.1)) 0)),(af (s2+s0)),0,s0,s1,s2,s3,s4,(s5.set ((y1.1).toNat) (o1,o2,o3,o4,())),y9.1,())else none else none))) (cond (!y1.2.1) ((lX (s5,y1.1,[(0,0,0,0,())],())).bind fun y10=>if 0≤y1.1∧y1.1<(y10.1.length:Int)then(oQ (s3,s4,(y10.1.set ((y1.1).toNat) (o1,o2,o3,o4,())),())).bind fun y11=>(uM (s6,s2,o1,())).bind fun y12=>if 0≤y1.1∧y1.1<(y11.2.1.length:Int)then(qp (s6,o1,(mn ((y11.2.1.getD ((y1.1).toNat) (0,0,())).2.1) (mx (af (s3 - y12.1)) 0)),(af (s2+s0)),())).bind fun y13=>some ((mn ((y11.2.1.getD ((y1.1).toNat) (0,0,())).2.1) (mx (af (s3 - y12.1)) 0)),(af (s2+s0)),0,s0,s1,s2,s3,s4,(y10.1.set ((y1.1).toNat) (o1,o2,o3,o4,())),y13.1,())else none else none) (if 0≤y1.1∧y1.1<(s5.length:Int)then(oQ (s3,s4,(s5.set ((y1.1).toNat) (o1,o2,o3,o4,())),())).bind fun y14=>(uM (s6,s2,o1,())).bind fun y15=>if 0≤y1.1∧y1.1<(y14.2.1.length:Int)then(qp (s6,o1,(mn ((y14.2.1.getD ((y1.1).toNat) (0,0,())).2.1) (mx (af (s3 - y15.1)) 0)),(af (s2+s0)),())).bind fun y16=>some ((mn ((y14.2.1.getD ((y1.1).toNat) (0,0,())).2.1) (mx (af (s3 - y15.1)) 0)),(af (s2+s0)),0,s0,s1,s2,s3,s4,(s5.set ((y1.1).toNat) (o1,o2,o3,o4,())),y16.1,())else none else none))))
def qj:=fun x:Int×Int×Int×Int×(List U8)×(List U8)×(List U9)×U6=>Dk.T x.1 x.2.1 x.2.2.1 x.2.2.2.1 x.2.2.2.2.1 x.2.2.2.2.2.1 x.2.2.2.2.2.2.1 x.2.2.2.2.2.2.2.1 x.2.2.2.2.2.2.2.2.1 x.2.2.2.2.2.2.2.2.2.1 x.2.2.2.2.2.2.2.2.2.2.1 x.2.2.2.2.2.2.2.2.2.2.2.1
abbrev ZV:aG:=⟨[.m jh,.v true gy],[(true,ct0)],qj,[]⟩
theorem Zt:aF KN Tryz.prog 75 ZV:=bg mix (.c PY (.c Ry (.c Ce (.c BX (.c PD (.c aae .nil)))))) (by kernel_rfl) fun x=>by kernel_rfl
def QY.T(f0:Int)(f1 f2:List U8)(e0 e1 e2 e3 e4:Int):Option (Int×U3):=(oU (f0,f1,f2,e1,())).bind fun y1=>cond (e0==6) ((qm (f0,f1,f2,e1,())).bind fun y2=>cond y2.2.1 (some (5,f0,f1,f2,())) ((mP (f0,f1,f2,e2,())).bind fun y3=>cond (!y3.1) (some (4,f0,f1,f2,())) (cond (e0==1) (cond ((f2.length:Int)==60) (some (6,f0,f1,f2,())) (cond (e0==6) (cond ((f1.length:Int)==30) (some (6,f0,f1,f2,())) (cond (e0==1) ((lX (f2,y2.1,[(e1,e2,e3,e4,())],())).bind fun y4=>some (0,f0,f1,y4.1,())) ((mM (f1,y2.1,[(e1,e2,e3,e4,())],())).bind fun y5=>some (0,f0,y5.1,f2,())))) (cond (e0==1) ((lX (f2,y2.1,[(e1,e2,e3,e4,())],())).bind fun y6=>some (0,f0,f1,y6.1,())) ((mM (f1,y2.1,[(e1,e2,e3,e4,())],())).bind fun y7=>some (0,f0,y7.1,f2,()))))) (cond (e0==6) (cond ((f1.length:Int)==30) (some (6,f0,f1,f2,())) (cond (e0==1) ((lX (f2,y2.1,[(e1,e2,e3,e4,())],())).bind fun y8=>some (0,f0,f1,y8.1,())) ((mM (f1,y2.1,[(e1,e2,e3,e4,())],())).bind fun y9=>some (0,f0,y9.1,f2,())))) (cond (e0==1) ((lX (f2,y2.1,[(e1,e2,e3,e4,())],())).bind fun y10=>some (0,f0,f1,y10.1,())) ((mM (f1,y2.1,[(e1,e2,e3,e4,())],())).bind fun y11=>some (0,f0,y11.1,f2,()))))))) (cond y1.2.1 (some (5,f0,f1,f2,())) ((mP (f0,f1,f2,e2,())).bind fun y12=>cond (!y12.1) (some (4,f0,f1,f2,())) (cond (e0==1) (cond ((f2.length:Int)==60) (some (6,f0,f1,f2,())) (cond (e0==6) (cond ((f1.length:Int)==30) (some (6,f0,f1,f2,())) (cond (e0==1) ((lX (f2,y1.1,[(e1,e2,e3,e4,())],())).bind fun y13=>some (0,f0,f1,y13.1,())) ((mM (f1,y1.1,[(e1,e2,e3,e4,())],())).bind fun y14=>some (0,f0,y14.1,f2,())))) (cond (e0==1) ((lX (f2,y1.1,[(e1,e2,e3,e4,())],())).bind fun y15=>some (0,f0,f1,y15.1,())) ((mM (f1,y1.1,[(e1,e2,e3,e4,())],())).bind fun y16=>some (0,f0,y16.1,f2,()))))) (cond (e0==6) (cond ((f1.length:Int)==30) (some (6,f0,f1,f2,())) (cond (e0==1) ((lX (f2,y1.1,[(e1,e2,e3,e4,())],())).bind fun y17=>some (0,f0,f1,y17.1,())) ((mM (f1,y1.1,[(e1,e2,e3,e4,())],())).bind fun y18=>some (0,f0,y18.1,f2,())))) (cond (e0==1) ((lX (f2,y1.1,[(e1,e2,e3,e4,())],())).bind fun y19=>some (0,f0,f1,y19.1,())) ((mM (f1,y1.1,[(e1,e2,e3,e4,())],())).bind fun y20=>some (0,f0,y20.1,f2,())))))))
def wH:=fun x:Int×(List U8)×(List U8)×U6=>QY.T x.1 x.2.1 x.2.2.1 x.2.2.2.1 x.2.2.2.2.1 x.2.2.2.2.2.1 x.2.2.2.2.2.2.1 x.2.2.2.2.2.2.2.1
abbrev ZY:aG:=⟨[.m gu,.v true gy],[(false,[CT.int .i64])],wH,[]⟩
theorem Zv:aF Dr Tryz.prog 110 ZY:=bg mix (.c Ce (.c BX (.c PD (.c Cj (.c YC .nil))))) (by kernel_rfl) fun x=>by kernel_rfl
def P5.T(g0 g1 g2 g3 a0:Int):Option (Bool×Unit):=some ((g1==(a0,()).1),())
def Ib:=fun x:U6=>P5.T x.1 x.2.1 x.2.2.1 x.2.2.2.1 x.2.2.2.2.1
abbrev H9:aG:=⟨[.v true aA,.r [CT.int .i64]],[(false,[CT.bool])],Ib,[]⟩
theorem YS:aF Dr Tryz.prog 129 H9:=bg mix .nil (by kernel_rfl) fun x=>by kernel_rfl
abbrev GR:Is:=[.v false [CT.sl aA],.cl 129 [[CT.int .i64]]]
abbrev GN:Os:=[(false,[CT.int .i64])]
namespace wu
def aC:Nat→List Nat×List Nat:=fun k=>if k=2 then([0,1,7,8],[4])else([],[])
def zrc{R:Type}(k0:Nat)(p:List Nat):Env→List Ob→au R→Option R:=bJ Tryz.prog (aW [(129,[],H9)]) 19 0 aC k0 (cO p (dI Tryz.prog 147))
def R0{R:Type}(nx0:tZ R)(ex0:Y2 R)(ex1:dY R)(s2:List U8)(f:Int×Unit)(t7x t8x:Int):Option R:=cond (decide (t8x<t7x)) (if 0≤t8x∧t8x<(s2.length:Int)then(Ib ((rd (0,0,0,0,()) s2 t8x).1,(rd (0,0,0,0,()) s2 t8x).2.1,(rd (0,0,0,0,()) s2 t8x).2.2.1,(rd (0,0,0,0,()) s2 t8x).2.2.2.1,f.1,())).bind fun y1=>cond y1.1 (ex0 t8x) (nx0 s2 f t7x (af (t8x+1)))else none) (ex1 ())
def A0(s:List U8)(f0:Int)(t4x:Int):Option (Int×Unit):=some (t4x,())
def A1(s:List U8)(f0:Int)(_u:Unit):Option (Int×Unit):=some ((-1),())
def T(lo0:tZ (Int×Unit))(s:List U8)(f0:Int):Option (Int×Unit):=lo0 s (f0,()) (s.length:Int) 0
def K0{R:Type}(k0:Nat)(K:au R):au R:=bF 0 (bI (fun env ob=>zrc k0 [1,1] env ob (K)) (K))
def L0:tZ R:=fun s2 f t7x t8x=>iter 0 [0,1,7,8] [4] (zrc k0 [1,0,1,0,0]) k [(0,.sl aA s2),(1,.fn 129 [.eptr [CT.int .i64] f 0]),(7,.int .i64 t7x),(8,.int .i64 t8x)] [] K
def H0:Y2 R:=fun t4x=>K .ret [(4,.int .i64 t4x)] []
def H1:dY R:=fun _=>K (.exit 0) [(4,.undef)] []
theorem zs0:L0 k0 (k+1) K=R0 (L0 k0 k K) (H0 K) (H1 K):=by kernel_rfl
def G0{R:Type}(k0:Nat)(hx0:Y2 R)(hx1:dY R):Nat→tZ R
 |0=>fun _ _ _ _=>none
 |k+1=>R0 (G0 k0 hx0 hx1 k) hx0 hx1
theorem aS:∀ k,L0 k0 k K=G0 k0 (H0 K) (H1 K) k:=bK rfl fun k ih=>by rw[zs0,G0];(try simp only[ih]);try rfl
variable (s:List U8) (f0:Int)
def aB:au (Int×Unit):=dm Tryz.prog [.tmp 4] GR GN (s,f0,())
theorem aZ:H0 (K0 k0 (aB s f0))=A0 s f0:=by kernel_rfl
theorem dw:H1 (K0 k0 (aB s f0))=A1 s f0:=by kernel_rfl
def FF:Option (Int×Unit):=T (G0 k0 (A0 s f0) (A1 s f0) k0) s f0
theorem aY:dB Tryz.prog (aW [(129,[],H9)]) aC k0 147 GR GN [] (s,f0,())=FF k0 s f0:=Eq.trans (b:=T (L0 k0 k0 (K0 k0 (aB s f0))) s f0) (by kernel_rfl) (by rw[FF];(try simp only[aS,aZ,dw]);try rfl)
def _root_.Go.Rv.GV:=fun x:(List U8)×Int×Unit=>FF (300+x.1.length) x.1 x.2.1
abbrev _root_.Go.Rv.Yn:aG:=⟨GR,GN,GV,[]⟩
theorem _root_.Go.Rv.Ym:aF Dr Tryz.prog 147 Yn:=dJ mix (.c YS .nil) (by kernel_rfl) fun x=>⟨aC,_,aY _ _ _⟩
end wu
def Pz.T(s:List U8)(f0:Int):Option (Bool×Unit):=(GV (s,(f0,()).1,())).bind fun y1=>some ((decide (y1.1≥0)),())
def BP:=fun x:(List U8)×Int×Unit=>Pz.T x.1 x.2.1
abbrev Yk:aG:=⟨[.v false [CT.sl aA],.cl 129 [[CT.int .i64]]],[(false,[CT.bool])],BP,[]⟩
theorem Yi:aF Dr Tryz.prog 128 Yk:=bg mix (.cf [129] Ym .nil) (by kernel_rfl) fun x=>by kernel_rfl
def PZ.T(m0 m1 m2 m3 a0:Int):Option (Bool×Unit):=some ((m1==(a0,()).1),())
def Ia:=fun x:U6=>PZ.T x.1 x.2.1 x.2.2.1 x.2.2.2.1 x.2.2.2.2.1
abbrev H8:aG:=⟨[.v true aA,.r [CT.int .i64]],[(false,[CT.bool])],Ia,[]⟩
theorem YR:aF Dr Tryz.prog 131 H8:=bg mix .nil (by kernel_rfl) fun x=>by kernel_rfl
abbrev GL:Is:=[.v false [CT.sl aA],.cl 131 [[CT.int .i64]]]
abbrev GK:Os:=[(false,[CT.int .i64])]
namespace wo
def aC:Nat→List Nat×List Nat:=fun k=>if k=2 then([0,1,7,8],[4])else([],[])
def zrc{R:Type}(k0:Nat)(p:List Nat):Env→List Ob→au R→Option R:=bJ Tryz.prog (aW [(131,[],H8)]) 19 0 aC k0 (cO p (dI Tryz.prog 124))
def R0{R:Type}(nx0:tZ R)(ex0:Y2 R)(ex1:dY R)(s2:List U8)(f:Int×Unit)(t7x t8x:Int):Option R:=cond (decide (t8x<t7x)) (if 0≤t8x∧t8x<(s2.length:Int)then(Ia ((rd (0,0,0,0,()) s2 t8x).1,(rd (0,0,0,0,()) s2 t8x).2.1,(rd (0,0,0,0,()) s2 t8x).2.2.1,(rd (0,0,0,0,()) s2 t8x).2.2.2.1,f.1,())).bind fun y1=>cond y1.1 (ex0 t8x) (nx0 s2 f t7x (af (t8x+1)))else none) (ex1 ())
def A0(s:List U8)(f0:Int)(t4x:Int):Option (Int×Unit):=some (t4x,())
def A1(s:List U8)(f0:Int)(_u:Unit):Option (Int×Unit):=some ((-1),())
def T(lo0:tZ (Int×Unit))(s:List U8)(f0:Int):Option (Int×Unit):=lo0 s (f0,()) (s.length:Int) 0
def K0{R:Type}(k0:Nat)(K:au R):au R:=bF 0 (bI (fun env ob=>zrc k0 [1,1] env ob (K)) (K))
def L0:tZ R:=fun s2 f t7x t8x=>iter 0 [0,1,7,8] [4] (zrc k0 [1,0,1,0,0]) k [(0,.sl aA s2),(1,.fn 131 [.eptr [CT.int .i64] f 0]),(7,.int .i64 t7x),(8,.int .i64 t8x)] [] K
def H0:Y2 R:=fun t4x=>K .ret [(4,.int .i64 t4x)] []
def H1:dY R:=fun _=>K (.exit 0) [(4,.undef)] []
theorem zs0:L0 k0 (k+1) K=R0 (L0 k0 k K) (H0 K) (H1 K):=by kernel_rfl
def G0{R:Type}(k0:Nat)(hx0:Y2 R)(hx1:dY R):Nat→tZ R
 |0=>fun _ _ _ _=>none
 |k+1=>R0 (G0 k0 hx0 hx1 k) hx0 hx1
theorem aS:∀ k,L0 k0 k K=G0 k0 (H0 K) (H1 K) k:=bK rfl fun k ih=>by rw[zs0,G0];(try simp only[ih]);try rfl
variable (s:List U8) (f0:Int)
def aB:au (Int×Unit):=dm Tryz.prog [.tmp 4] GL GK (s,f0,())
theorem aZ:H0 (K0 k0 (aB s f0))=A0 s f0:=by kernel_rfl
theorem dw:H1 (K0 k0 (aB s f0))=A1 s f0:=by kernel_rfl
def FF:Option (Int×Unit):=T (G0 k0 (A0 s f0) (A1 s f0) k0) s f0
theorem aY:dB Tryz.prog (aW [(131,[],H8)]) aC k0 124 GL GK [] (s,f0,())=FF k0 s f0:=Eq.trans (b:=T (L0 k0 k0 (K0 k0 (aB s f0))) s f0) (by kernel_rfl) (by rw[FF];(try simp only[aS,aZ,dw]);try rfl)
def _root_.Go.Rv.GU:=fun x:(List U8)×Int×Unit=>FF (300+x.1.length) x.1 x.2.1
abbrev _root_.Go.Rv.Yl:aG:=⟨GL,GK,GU,[]⟩
theorem _root_.Go.Rv.Yj:aF Dr Tryz.prog 124 Yl:=dJ mix (.c YR .nil) (by kernel_rfl) fun x=>⟨aC,_,aY _ _ _⟩
end wo
def Py.T(s:List U8)(f0:Int):Option (Bool×Unit):=(GU (s,(f0,()).1,())).bind fun y1=>some ((decide (y1.1≥0)),())
def BO:=fun x:(List U8)×Int×Unit=>Py.T x.1 x.2.1
abbrev Yh:aG:=⟨[.v false [CT.sl aA],.cl 131 [[CT.int .i64]]],[(false,[CT.bool])],BO,[]⟩
theorem Yg:aF Dr Tryz.prog 130 Yh:=bg mix (.cf [131] Yj .nil) (by kernel_rfl) fun x=>by kernel_rfl
def Qp.T(f0:Int)(f1 f2:List U8)(id:Int):Option (Bool×Unit):=(BP (f1,id,())).bind fun y1=>cond (!y1.1) ((BO (f2,id,())).bind fun y2=>some ((!y2.1),())) (some (false,()))
def Ci:=fun x:Int×(List U8)×(List U8)×Int×Unit=>Qp.T x.1 x.2.1 x.2.2.1 x.2.2.2.1
abbrev Zl:aG:=⟨[.v true gu,.v false [CT.int .i64]],[(false,[CT.bool])],Ci,[]⟩
theorem Za:aF Dr Tryz.prog 111 Zl:=bg mix (.cf [129] Yi (.cf [131] Yg .nil)) (by kernel_rfl) fun x=>by kernel_rfl
def Dt.T(f0:Int)(f1 f2:List U8)(e0 e1 e2 e3 e4:Int):Option (Int×U3):=(qm (f0,f1,f2,e1,())).bind fun y1=>(oU (f0,f1,f2,e1,())).bind fun y2=>cond (e0==1) ((wH (f0,f1,f2,e0,e1,e2,e3,e4,())).bind fun y3=>some (y3.1,y3.2.1,y3.2.2.1,y3.2.2.2.1,())) (cond (e0==6) ((wH (f0,f1,f2,e0,e1,e2,e3,e4,())).bind fun y4=>some (y4.1,y4.2.1,y4.2.2.1,y4.2.2.2.1,())) (cond (e0==7) (cond (!y1.2.1) (some (4,f0,f1,f2,())) ((Ci (f0,f1,f2,e1,())).bind fun y5=>cond (!y5.1) (some (9,f0,f1,f2,())) ((zi (f1,y1.1,(af (y1.1+1)),())).bind fun y6=>some (0,f0,y6.1,f2,())))) (cond (e0==8) (cond (e1==0) (some (0,e3,f1,f2,())) (cond (!y1.2.1) (some (4,f0,f1,f2,())) (if 0≤y1.1∧y1.1<(f1.length:Int)then some (0,f0,(f1.set ((y1.1).toNat) ((f1.getD ((y1.1).toNat) (0,0,0,0,())).1,(f1.getD ((y1.1).toNat) (0,0,0,0,())).2.1,e3,(f1.getD ((y1.1).toNat) (0,0,0,0,())).2.2.2.1,())),f2,())else none))) (cond (!y2.2.1) (some (4,f0,f1,f2,())) (cond (e0==2) ((GX (f2,y2.1,(af (y2.1+1)),())).bind fun y7=>some (0,f0,f1,y7.1,())) (cond (e0==3) (if 0≤y2.1∧y2.1<(f2.length:Int)then some (0,f0,f1,(f2.set ((y2.1).toNat) ((f2.getD ((y2.1).toNat) (0,0,0,0,())).1,(f2.getD ((y2.1).toNat) (0,0,0,0,())).2.1,e3,(f2.getD ((y2.1).toNat) (0,0,0,0,())).2.2.2.1,())),())else none) (cond (e0==4) (if 0≤y2.1∧y2.1<(f2.length:Int)then some (0,f0,f1,(f2.set ((y2.1).toNat) ((f2.getD ((y2.1).toNat) (0,0,0,0,())).1,(f2.getD ((y2.1).toNat) (0,0,0,0,())).2.1,(f2.getD ((y2.1).toNat) (0,0,0,0,())).2.2.1,e3,())),())else none) ((mP (f0,f1,f2,e2,())).bind fun y8=>cond (!y8.1) (some (4,f0,f1,f2,())) (if 0≤y2.1∧y2.1<(f2.length:Int)then some (0,f0,f1,(f2.set ((y2.1).toNat) ((f2.getD ((y2.1).toNat) (0,0,0,0,())).1,e2,(f2.getD ((y2.1).toNat) (0,0,0,0,())).2.2.1,(f2.getD ((y2.1).toNat) (0,0,0,0,())).2.2.2.1,())),())else none)))))))))
def mV:=fun x:Int×(List U8)×(List U8)×U6=>Dt.T x.1 x.2.1 x.2.2.1 x.2.2.2.1 x.2.2.2.2.1 x.2.2.2.2.2.1 x.2.2.2.2.2.2.1 x.2.2.2.2.2.2.2.1
abbrev QK:aG:=⟨[.m gu,.v true gy],[(false,[CT.int .i64])],mV,[]⟩
theorem ZP:aF Dr Tryz.prog 80 QK:=bg mix (.c Ce (.c BX (.c Cj (.c Zv (.c Za (.c YD (.c Yw .nil))))))) (by kernel_rfl) fun x=>by kernel_rfl
def KQ.T(o0 o1 o2 o3 o4:Int):Option (U6):=cond (o0==3) (some (8,o1,o2,o3,o4,())) (cond (o0==6) (some (6,o1,o2,o3,o4,())) (cond (o0==7) (some (7,o1,o2,o3,o4,())) (some (0,o1,o2,o3,o4,()))))
def mZ:=fun x:U6=>KQ.T x.1 x.2.1 x.2.2.1 x.2.2.2.1 x.2.2.2.2.1
abbrev RP:aG:=⟨[.v true gy],[(true,gy)],mZ,[]⟩
theorem QT:aF Dr Tryz.prog 72 RP:=bg mix .nil (by kernel_rfl) fun x=>by kernel_rfl
end Go.Rv
end
