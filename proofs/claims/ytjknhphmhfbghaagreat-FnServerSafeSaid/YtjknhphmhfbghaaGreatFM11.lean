/- What functions come to on pure values (printed by a program of ours). -/
import Derived.Test.YtjknhphmhfbghaaGreatFM10
set_option linter.unusedVariables false
set_option linter.unusedSimpArgs false
set_option linter.unusedSectionVars false
set_option maxRecDepth 100000
noncomputable section
namespace Go.Rv
open Go.Proofs
variable {Dr:Kn} {R:Type} (k0 k:Nat) (K:au R)
def JH.T(g0 g1 g2 g3 id:Int):Option (Int×Unit):=(qw (g0,id,())).bind fun y1=>some (y1.1,())
def zF:=fun x:U6=>JH.T x.1 x.2.1 x.2.2.1 x.2.2.2.1 x.2.2.2.2.1
abbrev I7:aG:=⟨[.v true aA,.v false [CT.int .i64]],[(false,[CT.int .i64])],zF,[]⟩
theorem Zi:aF Dr Tryz.prog 126 I7:=bC mix (.c CP .nil) (by kernel_rfl) fun x=>by kernel_rfl
abbrev GN:Is:=[.v false [CT.sl aA],.v false [CT.int .i64],.cl 126 []]
abbrev GK:Os:=[(false,[CT.int .i64]),(false,[CT.bool])]
namespace wz
def aC:Nat→List Nat×List Nat:=fun k=>if k=3 then([0,1,2,8,9,10],[0,1,2,8,9])else([],[])
def zrc{R:Type}(k0:Nat)(p:List Nat):Env→List Ob→au R→Option R:=bJ Tryz.prog (aV [(126,[],I7)]) 49 0 aC k0 (cO p (dH Tryz.prog 125))
def R0{R:Type}(nx0:Y3 R)(ex0:Y4 R)(x2:List U8)(target2 n i j:Int):Option R:=cond (decide (i<j)) (if 0≤(af ((Int.fdiv (IntKind.u64.wrap ((af (i+j)))) (2 ^ 1))))∧(af ((Int.fdiv (IntKind.u64.wrap ((af (i+j)))) (2 ^ 1))))<(x2.length:Int)then(zF ((rd (0,0,0,0,()) x2 (af ((Int.fdiv (IntKind.u64.wrap ((af (i+j)))) (2 ^ 1))))).1,(rd (0,0,0,0,()) x2 (af ((Int.fdiv (IntKind.u64.wrap ((af (i+j)))) (2 ^ 1))))).2.1,(rd (0,0,0,0,()) x2 (af ((Int.fdiv (IntKind.u64.wrap ((af (i+j)))) (2 ^ 1))))).2.2.1,(rd (0,0,0,0,()) x2 (af ((Int.fdiv (IntKind.u64.wrap ((af (i+j)))) (2 ^ 1))))).2.2.2.1,target2,())).bind fun y1=>cond (decide (y1.1<0)) (nx0 x2 target2 n (af ((af ((Int.fdiv (IntKind.u64.wrap ((af (i+j)))) (2 ^ 1))))+1)) j) (nx0 x2 target2 n i (af ((Int.fdiv (IntKind.u64.wrap ((af (i+j)))) (2 ^ 1)))))else none) (ex0 x2 target2 n i)
def A0(x:List U8)(target:Int)(x2:List U8)(target2 n i:Int):Option (Int×Bool×Unit):=cond (decide (i<n)) (if 0≤i∧i<(x2.length:Int)then(zF ((rd (0,0,0,0,()) x2 i).1,(rd (0,0,0,0,()) x2 i).2.1,(rd (0,0,0,0,()) x2 i).2.2.1,(rd (0,0,0,0,()) x2 i).2.2.2.1,target2,())).bind fun y1=>some (i,(y1.1==0),())else none) (some (i,false,()))
def T(lo0:Y3 (Int×Bool×Unit))(x:List U8)(target:Int):Option (Int×Bool×Unit):=lo0 x target (x.length:Int) 0 (x.length:Int)
def K0{R:Type}(k0:Nat)(K:au R):au R:=bg 0 (bG (fun env ob=>zrc k0 [1,1,1,1] env ob (K)) (K))
def L0:Y3 R:=fun x2 target2 n i j=>iter 0 [0,1,2,8,9,10] [0,1,2,8,9] (zrc k0 [1,1,1,0,0,0]) k [(0,.sl aA x2),(1,.int .i64 target2),(2,.fn 126 []),(8,.int .i64 n),(9,.int .i64 i),(10,.int .i64 j)] [] K
def H0:Y4 R:=fun x2 target2 n i=>K (.exit 0) [(0,.sl aA x2),(1,.int .i64 target2),(2,.fn 126 []),(8,.int .i64 n),(9,.int .i64 i)] []
theorem zs0:L0 k0 (k+1) K=R0 (L0 k0 k K) (H0 K):=by kernel_rfl
def G0{R:Type}(k0:Nat)(hx0:Y4 R):Nat→Y3 R
 |0=>fun _ _ _ _ _=>none
 |k+1=>R0 (G0 k0 hx0 k) hx0
theorem aQ:∀ k,L0 k0 k K=G0 k0 (H0 K) k:=bK rfl fun k ih=>by rw[zs0,G0];(try simp only[ih]);try rfl
variable (x:List U8) (target:Int)
def aB:au (Int×Bool×Unit):=di Tryz.prog [.tmp 6,.tmp 7] GN GK (x,target,())
theorem aY:H0 (K0 k0 (aB x target))=A0 x target:=by kernel_rfl
def FF:Option (Int×Bool×Unit):=T (G0 k0 (A0 x target) k0) x target
theorem aX:dw Tryz.prog (aV [(126,[],I7)]) aC k0 125 GN GK [] (x,target,())=FF k0 x target:=Eq.trans (b:=T (L0 k0 k0 (K0 k0 (aB x target))) x target) (by kernel_rfl) (by rw[FF];(try simp only[aQ,aY]);try rfl)
def _root_.Go.Rv.GU:=fun x:(List U8)×Int×Unit=>FF (300+x.1.length) x.1 x.2.1
abbrev _root_.Go.Rv.Yj:aG:=⟨GN,GK,GU,[]⟩
theorem _root_.Go.Rv.Yi:aF Dr Tryz.prog 125 Yj:=dI mix (.c Zi .nil) (by kernel_rfl) fun x=>⟨aC,_,aX _ _ _⟩
end wz
def KD.T(f0:Int)(f1 f2:List U8)(id:Int):Option (Int×Bool×Unit):=(GU (f1,id,())).bind fun y1=>some (y1.1,y1.2.1,())
def qA:=fun x:Int×(List U8)×(List U8)×Int×Unit=>KD.T x.1 x.2.1 x.2.2.1 x.2.2.2.1
abbrev aae:aG:=⟨[.v true gQ,.v false [CT.int .i64]],[(false,[CT.int .i64]),(false,[CT.bool])],qA,[]⟩
theorem CW:aF Dr Tryz.prog 109 aae:=bC mix (.cf [126] Yi .nil) (by kernel_rfl) fun x=>by kernel_rfl
def Sz.T(f0:Int)(f1 f2:List U8)(id:Int):Option (Int×Unit):=cond (id==0) (some (f0,())) ((qA (f0,f1,f2,id,())).bind fun y1=>if 0≤y1.1∧y1.1<(f1.length:Int)then some ((rd (0,0,0,0,()) f1 y1.1).2.2.1,())else none)
def zX:=fun x:Int×(List U8)×(List U8)×Int×Unit=>Sz.T x.1 x.2.1 x.2.2.1 x.2.2.2.1
abbrev Rw:aG:=⟨[.v true gQ,.v false [CT.int .i64]],[(false,[CT.int .i64])],zX,[]⟩
theorem aap:aF Dr Tryz.prog 153 Rw:=bC mix (.c CW .nil) (by kernel_rfl) fun x=>by kernel_rfl
abbrev oW:Is:=[.v true gQ,.v false [CT.int .i64]]
abbrev oV:Os:=[(false,[CT.int .i64])]
namespace jC
def dF(rc:Int×(List U8)×(List U8)×Int×Unit→Option (Int×Unit)):dX:=aV [(134,[],⟨oW,oV,rc,[]⟩),(153,[],Rw)]
def EZ:Code:=((Tryz.prog.funcs[134]?).bind (·.body)).getD .skip
def aC:Nat→List Nat×List Nat:=fun k=>if k=3 then([1,2,5,11,12,13],[1,2,5])else if k=9 then([1,2,5,29,30,31],[1,2,5])else([],[])
def R0{R:Type}(rc:Int×(List U8)×(List U8)×Int×Unit→Option (Int×Unit))(nx0:(Int→Int→(List U8)→Int→Int→Int→(List U8)→(List U8)→Option R))(ex0:(Int→Int→Int→(List U8)→(List U8)→Option R))(id2 sum:Int)(t11x:List U8)(t12x t13x f:Int)(f3 f4:List U8):Option R:=cond (decide (t13x<t12x)) (if 0≤t13x∧t13x<(t11x.length:Int)then cond ((rd (0,0,0,0,()) t11x t13x).2.1==id2) ((rc (f,f3,f4,(rd (0,0,0,0,()) t11x t13x).1,())).bind fun y1=>nx0 id2 (af (sum+y1.1)) t11x t12x (af (t13x+1)) f f3 f4) (nx0 id2 sum t11x t12x (af (t13x+1)) f f3 f4)else none) (ex0 id2 sum f f3 f4)
def R1{R:Type}(rc:Int×(List U8)×(List U8)×Int×Unit→Option (Int×Unit))(nx1:(Int→Int→(List U8)→Int→Int→Int→(List U8)→(List U8)→Option R))(ex1:(Int→Int→Int→(List U8)→(List U8)→Option R))(id2 sum:Int)(t29x:List U8)(t30x t31x f:Int)(f3 f4:List U8):Option R:=cond (decide (t31x<t30x)) (if 0≤t31x∧t31x<(t29x.length:Int)then cond ((rd (0,0,0,0,()) t29x t31x).2.1==id2) (nx1 id2 (af (sum+(rd (0,0,0,0,()) t29x t31x).2.2.1)) t29x t30x (af (t31x+1)) f f3 f4) (nx1 id2 sum t29x t30x (af (t31x+1)) f f3 f4)else none) (ex1 id2 sum f f3 f4)
def A0(rc:Int×(List U8)×(List U8)×Int×Unit→Option (Int×Unit))(lo1:(Int→Int→(List U8)→Int→Int→Int→(List U8)→(List U8)→Option (Int×Unit)))(f0:Int)(f1 f2:List U8)(id:Int)(id2 sum f:Int)(f3 f4:List U8):Option (Int×Unit):=lo1 id2 sum f4 (f4.length:Int) 0 f f3 f4
def A1(rc:Int×(List U8)×(List U8)×Int×Unit→Option (Int×Unit))(f0:Int)(f1 f2:List U8)(id:Int)(id2 sum f:Int)(f3 f4:List U8):Option (Int×Unit):=(zX (f,f3,f4,id2,())).bind fun y1=>some ((mn sum y1.1),())
def T(rc:Int×(List U8)×(List U8)×Int×Unit→Option (Int×Unit))(lo0:(Int→Int→(List U8)→Int→Int→Int→(List U8)→(List U8)→Option (Int×Unit)))(f0:Int)(f1 f2:List U8)(id:Int):Option (Int×Unit):=lo0 id 0 f1 (f1.length:Int) 0 f0 f1 f2
def afn{R:Type}(rc:Int×(List U8)×(List U8)×Int×Unit→Option (Int×Unit))(k0:Nat):Env→List Ob→au R→Option R:=fun env ob K=>bJ Tryz.prog (dF rc) 49 0 aC k0 (cO [1,1,0,1,0,0] EZ) env ob K
def K0{R:Type}(rc:Int×(List U8)×(List U8)×Int×Unit→Option (Int×Unit))(k0:Nat)(K:au R):au R:=bg 0 (bG (fun env ob=>bJ Tryz.prog (dF rc) 49 0 aC k0 (cO [1,1,1] EZ) env ob (K)) (K))
def afm{R:Type}(rc:Int×(List U8)×(List U8)×Int×Unit→Option (Int×Unit))(k0:Nat):Env→List Ob→au R→Option R:=fun env ob K=>bJ Tryz.prog (dF rc) 49 0 aC k0 (cO [1,1,1,0,1,0,0] EZ) env ob K
def K1{R:Type}(rc:Int×(List U8)×(List U8)×Int×Unit→Option (Int×Unit))(k0:Nat)(K:au R):au R:=bg 2 (bG (fun env ob=>bJ Tryz.prog (dF rc) 49 0 aC k0 (cO [1,1,1,1] EZ) env ob (K)) (K))
def L0{R:Type}(rc:Int×(List U8)×(List U8)×Int×Unit→Option (Int×Unit))(k0 k:Nat)(K:au R)(id2 sum:Int)(t11x:List U8)(t12x t13x f:Int)(f3 f4:List U8):Option R:=iter 0 [1,2,5,11,12,13] [1,2,5] (afn rc k0) k [(1,.int .i64 id2),(2,.ptr 0 0 0 0),(5,.int .i64 sum),(11,.sl aA t11x),(12,.int .i64 t12x),(13,.int .i64 t13x)] [.box [.int .i64 f,.sl aA f3,.sl aA f4]] K
def L1{R:Type}(rc:Int×(List U8)×(List U8)×Int×Unit→Option (Int×Unit))(k0 k:Nat)(K:au R)(id2 sum:Int)(t29x:List U8)(t30x t31x f:Int)(f3 f4:List U8):Option R:=iter 0 [1,2,5,29,30,31] [1,2,5] (afm rc k0) k [(1,.int .i64 id2),(2,.ptr 0 0 0 0),(5,.int .i64 sum),(29,.sl aA t29x),(30,.int .i64 t30x),(31,.int .i64 t31x)] [.box [.int .i64 f,.sl aA f3,.sl aA f4]] K
theorem zs0{R:Type}(rc:Int×(List U8)×(List U8)×Int×Unit→Option (Int×Unit))(k0 k:Nat)(K:au R)(id2 sum:Int)(t11x:List U8)(t12x t13x f:Int)(f3 f4:List U8):L0 rc k0 (k+1) K id2 sum t11x t12x t13x f f3 f4=R0 rc (L0 rc k0 k K) (fun id2 sum f f3 f4=>K (.exit 0) [(1,.int .i64 id2),(2,.ptr 0 0 0 0),(5,.int .i64 sum)] [.box [.int .i64 f,.sl aA f3,.sl aA f4]]) id2 sum t11x t12x t13x f f3 f4:=by kernel_rfl
theorem zs1{R:Type}(rc:Int×(List U8)×(List U8)×Int×Unit→Option (Int×Unit))(k0 k:Nat)(K:au R)(id2 sum:Int)(t29x:List U8)(t30x t31x f:Int)(f3 f4:List U8):L1 rc k0 (k+1) K id2 sum t29x t30x t31x f f3 f4=R1 rc (L1 rc k0 k K) (fun id2 sum f f3 f4=>K (.exit 2) [(1,.int .i64 id2),(2,.ptr 0 0 0 0),(5,.int .i64 sum)] [.box [.int .i64 f,.sl aA f3,.sl aA f4]]) id2 sum t29x t30x t31x f f3 f4:=by kernel_rfl
theorem aY(rc:Int×(List U8)×(List U8)×Int×Unit→Option (Int×Unit))(k0:Nat)(f0:Int)(f1 f2:List U8)(id:Int)(id2 sum f:Int)(f3 f4:List U8):K0 (R:=(Int×Unit)) rc k0 (di Tryz.prog [.tmp 4] oW oV (f0,f1,f2,id,())) (.exit 0) [(1,.int .i64 id2),(2,.ptr 0 0 0 0),(5,.int .i64 sum)] [.box [.int .i64 f,.sl aA f3,.sl aA f4]]=A0 rc (L1 (R:=(Int×Unit)) rc k0 k0 (K1 (R:=(Int×Unit)) rc k0 ((di Tryz.prog [.tmp 4] oW oV (f0,f1,f2,id,()))))) f0 f1 f2 id id2 sum f f3 f4:=by kernel_rfl
theorem dA(rc:Int×(List U8)×(List U8)×Int×Unit→Option (Int×Unit))(k0:Nat)(f0:Int)(f1 f2:List U8)(id:Int)(id2 sum f:Int)(f3 f4:List U8):K1 (R:=(Int×Unit)) rc k0 (di Tryz.prog [.tmp 4] oW oV (f0,f1,f2,id,())) (.exit 2) [(1,.int .i64 id2),(2,.ptr 0 0 0 0),(5,.int .i64 sum)] [.box [.int .i64 f,.sl aA f3,.sl aA f4]]=A1 rc f0 f1 f2 id id2 sum f f3 f4:=by kernel_rfl
theorem afl(rc:Int×(List U8)×(List U8)×Int×Unit→Option (Int×Unit))(k0:Nat)(f0:Int)(f1 f2:List U8)(id:Int):dw Tryz.prog (dF rc) aC k0 134 oW oV [] (f0,f1,f2,id,())=T rc (L0 (R:=(Int×Unit)) rc k0 k0 (K0 (R:=(Int×Unit)) rc k0 ((di Tryz.prog [.tmp 4] oW oV (f0,f1,f2,id,()))))) f0 f1 f2 id:=by kernel_rfl
def G0{R:Type}(rc:Int×(List U8)×(List U8)×Int×Unit→Option (Int×Unit))(k0:Nat)(hx0:(Int→Int→Int→(List U8)→(List U8)→Option R)):Nat→Int→Int→(List U8)→Int→Int→Int→(List U8)→(List U8)→Option R
 |0,_,_,_,_,_,_,_,_=>none
 |k+1,id2,sum,t11x,t12x,t13x,f,f3,f4=>R0 rc (G0 rc k0 hx0 k) hx0 id2 sum t11x t12x t13x f f3 f4
theorem aQ{R:Type}(rc:Int×(List U8)×(List U8)×Int×Unit→Option (Int×Unit))(k0:Nat)(K:au R):∀ k:Nat,L0 rc k0 k K=G0 rc k0 (fun id2 sum f f3 f4=>K (.exit 0) [(1,.int .i64 id2),(2,.ptr 0 0 0 0),(5,.int .i64 sum)] [.box [.int .i64 f,.sl aA f3,.sl aA f4]]) k:=by
 intro k
 induction k with
 |zero=>funext id2 sum t11x t12x t13x f f3 f4;rfl
 |succ k ih=>funext id2 sum t11x t12x t13x f f3 f4;rw[zs0,G0];(try simp only[ih]);try rfl
def G1{R:Type}(rc:Int×(List U8)×(List U8)×Int×Unit→Option (Int×Unit))(k0:Nat)(hx1:(Int→Int→Int→(List U8)→(List U8)→Option R)):Nat→Int→Int→(List U8)→Int→Int→Int→(List U8)→(List U8)→Option R
 |0,_,_,_,_,_,_,_,_=>none
 |k+1,id2,sum,t29x,t30x,t31x,f,f3,f4=>R1 rc (G1 rc k0 hx1 k) hx1 id2 sum t29x t30x t31x f f3 f4
theorem dK{R:Type}(rc:Int×(List U8)×(List U8)×Int×Unit→Option (Int×Unit))(k0:Nat)(K:au R):∀ k:Nat,L1 rc k0 k K=G1 rc k0 (fun id2 sum f f3 f4=>K (.exit 2) [(1,.int .i64 id2),(2,.ptr 0 0 0 0),(5,.int .i64 sum)] [.box [.int .i64 f,.sl aA f3,.sl aA f4]]) k:=by
 intro k
 induction k with
 |zero=>funext id2 sum t29x t30x t31x f f3 f4;rfl
 |succ k ih=>funext id2 sum t29x t30x t31x f f3 f4;rw[zs1,G1];(try simp only[ih,aQ]);try rfl
def FF(rc:Int×(List U8)×(List U8)×Int×Unit→Option (Int×Unit))(k0:Nat)(f0:Int)(f1 f2:List U8)(id:Int):Option (Int×Unit):=T rc (G0 rc k0 (A0 rc (G1 rc k0 (A1 rc f0 f1 f2 id) k0) f0 f1 f2 id) k0) f0 f1 f2 id
theorem aX(rc:Int×(List U8)×(List U8)×Int×Unit→Option (Int×Unit))(k0:Nat)(f0:Int)(f1 f2:List U8)(id:Int):dw Tryz.prog (dF rc) aC k0 134 oW oV [] (f0,f1,f2,id,())=FF rc k0 f0 f1 f2 id:=by
 rw[afl,FF];(try simp only[aQ,dK,aY,dA]);try rfl
def _root_.Go.Rv.uG:Nat→Int×(List U8)×(List U8)×Int×Unit→Option (Int×Unit)
 |0,_=>none
 |n+1,x=>(fun(f0:Int) (f1 f2:List U8) (id:Int)=>FF (uG n) (300+f1.length+f2.length) f0 f1 f2 id) x.1 x.2.1 x.2.2.1 x.2.2.2.1
def _root_.Go.Rv.Ko:Int×(List U8)×(List U8)×Int×Unit→Option (Int×Unit):=fun x=>(fun(f0:Int) (f1 f2:List U8) (id:Int)=>uG (300+f1.length+f2.length) x) x.1 x.2.1 x.2.2.1 x.2.2.2.1
theorem aep(rc:Int×(List U8)×(List U8)×Int×Unit→Option (Int×Unit))(hr:aF Dr Tryz.prog 134 ⟨oW,oV,rc,[]⟩):∀ g fs S,(dF rc) g fs=some S→aF Dr Tryz.prog g S:=NP (.cons hr (.cons aap .nil))
abbrev _root_.Go.Rv.J7:aG:=⟨oW,oV,Ko,[]⟩
theorem _root_.Go.Rv.Qo:∀ n,aF Dr Tryz.prog 134 ⟨oW,oV,uG n,[]⟩
 |0=>⟨fun args w=>jV (by kernel_rfl) args w,fun w T J x y vals avals _ _ _ _ h=>by cases h⟩
 |n+1=>Nk (by kernel_rfl) (aep (uG n) (Qo n)) (by kernel_rfl) fun x y h=>⟨aC,_,(aX (uG n) _ x.1 x.2.1 x.2.2.1 x.2.2.2.1).trans h⟩
theorem _root_.Go.Rv.ZV:aF Dr Tryz.prog 134 J7:=⟨fun args w=>jV (by kernel_rfl) args w,fun w T J x y vals avals h1 h2 h3 h4 h5 h6=>(Qo _).2 w T J x y vals avals h1 h2 h3 h4 h5 h6⟩
end jC
abbrev Jj:Is:=[.v true gQ,.v false [CT.int .i64]]
abbrev IQ:Os:=[(false,[CT.sl ct0]),(false,[CT.sl [CT.int .i64]]),(false,[CT.sl [CT.int .i64]])]
namespace ja
def aC:Nat→List Nat×List Nat:=fun k=>if k=3 then([1,2,7,8,9,18,19,20],[1,2,7,8,9])else if k=9 then([1,7,8,9,48,49,50],[7,8,9])else([],[])
def zrc{R:Type}(k0:Nat)(p:List Nat):Env→List Ob→au R→Option R:=bJ Tryz.prog (aV [(134,[],J7)]) 78 0 aC k0 (cO p (dH Tryz.prog 116))
def R0{R:Type}(nx0:Y5 R)(ex0:Y6 R)(id2:Int)(t18x:List U8)(t19x t20x f:Int)(f3 f4:List U8)(items:List U9)(groups members:List (Int×Unit)):Option R:=cond (decide (t20x<t19x)) (if 0≤t20x∧t20x<(t18x.length:Int)then cond ((rd (0,0,0,0,()) t18x t20x).2.1==id2) ((Ko (f,f3,f4,(rd (0,0,0,0,()) t18x t20x).1,())).bind fun y1=>if items.length+[((af ((items.length:Int)+1)),y1.1,(rd (0,0,0,0,()) t18x t20x).2.2.2.1,())].length≤maxRow then if groups.length+[(t20x,())].length≤maxRow then nx0 id2 t18x t19x (af (t20x+1)) f f3 f4 (items++[((af ((items.length:Int)+1)),y1.1,(rd (0,0,0,0,()) t18x t20x).2.2.2.1,())]) (groups++[(t20x,())]) members else none else none) (nx0 id2 t18x t19x (af (t20x+1)) f f3 f4 items groups members)else none) (ex0 id2 f f3 f4 items groups members)
def R1{R:Type}(nx1:Y7 R)(ex1:Y8 R)(id2:Int)(t48x:List U8)(t49x t50x:Int)(items:List U9)(groups members:List (Int×Unit)):Option R:=cond (decide (t50x<t49x)) (if 0≤t50x∧t50x<(t48x.length:Int)then cond ((rd (0,0,0,0,()) t48x t50x).2.1==id2) (if items.length+[((af ((items.length:Int)+1)),(rd (0,0,0,0,()) t48x t50x).2.2.1,(rd (0,0,0,0,()) t48x t50x).2.2.2.1,())].length≤maxRow then if members.length+[(t50x,())].length≤maxRow then nx1 id2 t48x t49x (af (t50x+1)) (items++[((af ((items.length:Int)+1)),(rd (0,0,0,0,()) t48x t50x).2.2.1,(rd (0,0,0,0,()) t48x t50x).2.2.2.1,())]) groups (members++[(t50x,())])else none else none) (nx1 id2 t48x t49x (af (t50x+1)) items groups members)else none) (ex1 items groups members)
def A0(lo1:Y7 ((List U9)×(List (Int×Unit))×(List (Int×Unit))×Unit))(f0:Int)(f1 f2:List U8)(id:Int)(id2 f:Int)(f3 f4:List U8)(items:List U9)(groups members:List (Int×Unit)):Option ((List U9)×(List (Int×Unit))×(List (Int×Unit))×Unit):=lo1 id2 f4 (f4.length:Int) 0 items groups members
def A1(f0:Int)(f1 f2:List U8)(id:Int)(items:List U9)(groups members:List (Int×Unit)):Option ((List U9)×(List (Int×Unit))×(List (Int×Unit))×Unit):=some (items,groups,members,())
def T(lo0:Y5 ((List U9)×(List (Int×Unit))×(List (Int×Unit))×Unit))(f0:Int)(f1 f2:List U8)(id:Int):Option ((List U9)×(List (Int×Unit))×(List (Int×Unit))×Unit):=lo0 id f1 (f1.length:Int) 0 f0 f1 f2 ([]:List U9) ([]:List (Int×Unit)) ([]:List (Int×Unit))
def K0{R:Type}(k0:Nat)(K:au R):au R:=bg 0 (bG (fun env ob=>zrc k0 [1,1,1] env ob (K)) (K))
def K1{R:Type}(k0:Nat)(K:au R):au R:=bg 2 (bG (fun env ob=>zrc k0 [1,1,1,1] env ob (K)) (K))
def L0:Y5 R:=fun id2 t18x t19x t20x f f3 f4 items groups members=>iter 0 [1,2,7,8,9,18,19,20] [1,2,7,8,9] (zrc k0 [1,1,0,1,0,0]) k [(1,.int .i64 id2),(2,.ptr 0 0 0 0),(7,.own 1),(8,.own 2),(9,.own 3),(18,.sl aA t18x),(19,.int .i64 t19x),(20,.int .i64 t20x)] [.box [.int .i64 f,.sl aA f3,.sl aA f4],.arr ct0 items,.arr [CT.int .i64] groups,.arr [CT.int .i64] members] K
def L1:Y7 R:=fun id2 t48x t49x t50x items groups members=>iter 0 [1,7,8,9,48,49,50] [7,8,9] (zrc k0 [1,1,1,0,1,0,0]) k [(1,.int .i64 id2),(7,.own 0),(8,.own 1),(9,.own 2),(48,.sl aA t48x),(49,.int .i64 t49x),(50,.int .i64 t50x)] [.arr ct0 items,.arr [CT.int .i64] groups,.arr [CT.int .i64] members] K
def H0:Y6 R:=fun id2 f f3 f4 items groups members=>K (.exit 0) [(1,.int .i64 id2),(2,.ptr 0 0 0 0),(7,.own 1),(8,.own 2),(9,.own 3)] [.box [.int .i64 f,.sl aA f3,.sl aA f4],.arr ct0 items,.arr [CT.int .i64] groups,.arr [CT.int .i64] members]
def H1:Y8 R:=fun items groups members=>K (.exit 2) [(7,.own 0),(8,.own 1),(9,.own 2)] [.arr ct0 items,.arr [CT.int .i64] groups,.arr [CT.int .i64] members]
theorem zs0:L0 k0 (k+1) K=R0 (L0 k0 k K) (H0 K):=by kernel_rfl
theorem zs1:L1 k0 (k+1) K=R1 (L1 k0 k K) (H1 K):=by kernel_rfl
def G0{R:Type}(k0:Nat)(hx0:Y6 R):Nat→Y5 R
 |0=>fun _ _ _ _ _ _ _ _ _ _=>none
 |k+1=>R0 (G0 k0 hx0 k) hx0
theorem aQ:∀ k,L0 k0 k K=G0 k0 (H0 K) k:=bK rfl fun k ih=>by rw[zs0,G0];(try simp only[ih]);try rfl
def G1{R:Type}(k0:Nat)(hx1:Y8 R):Nat→Y7 R
 |0=>fun _ _ _ _ _ _ _=>none
 |k+1=>R1 (G1 k0 hx1 k) hx1
theorem dK:∀ k,L1 k0 k K=G1 k0 (H1 K) k:=bK rfl fun k ih=>by rw[zs1,G1];(try simp only[ih,aQ]);try rfl
variable (f0:Int) (f1 f2:List U8) (id:Int)
def aB:au ((List U9)×(List (Int×Unit))×(List (Int×Unit))×Unit):=di Tryz.prog [.tmp 4,.tmp 5,.tmp 6] Jj IQ (f0,f1,f2,id,())
theorem aY:H0 (K0 k0 (aB f0 f1 f2 id))=A0 (L1 k0 k0 (K1 k0 (aB f0 f1 f2 id))) f0 f1 f2 id:=by kernel_rfl
theorem dA:H1 (K1 k0 (aB f0 f1 f2 id))=A1 f0 f1 f2 id:=by kernel_rfl
def FF:Option ((List U9)×(List (Int×Unit))×(List (Int×Unit))×Unit):=T (G0 k0 (A0 (G1 k0 (A1 f0 f1 f2 id) k0) f0 f1 f2 id) k0) f0 f1 f2 id
theorem aX:dw Tryz.prog (aV [(134,[],J7)]) aC k0 116 Jj IQ [] (f0,f1,f2,id,())=FF k0 f0 f1 f2 id:=Eq.trans (b:=T (L0 k0 k0 (K0 k0 (aB f0 f1 f2 id))) f0 f1 f2 id) (by kernel_rfl) (by rw[FF];(try simp only[aQ,dK,aY,dA]);try rfl)
def _root_.Go.Rv.Dt:=fun x:Int×(List U8)×(List U8)×Int×Unit=>FF (300+x.2.1.length+x.2.2.1.length) x.1 x.2.1 x.2.2.1 x.2.2.2.1
abbrev _root_.Go.Rv.J9:aG:=⟨Jj,IQ,Dt,[]⟩
theorem _root_.Go.Rv.ZX:aF Dr Tryz.prog 116 J9:=dI mix (.c ZV .nil) (by kernel_rfl) fun x=>⟨aC,_,aX _ _ _ _ _⟩
end ja
abbrev Ho:Is:=[.v false [CT.sl ct0],.v true ct0]
abbrev Hg:Os:=[(false,[CT.int .i64])]
namespace rE
def aC:Nat→List Nat×List Nat:=fun k=>if k=2 then([0,3,7,8],[4])else([],[])
def zrc{R:Type}(k0:Nat)(p:List Nat):Env→List Ob→au R→Option R:=bJ Tryz.prog (aV []) 19 0 aC k0 (cO p (dH Tryz.prog 137))
def R0{R:Type}(nx0:Y9 R)(ex0:Y2 R)(ex1:eF R)(s2:List U9)(t7x t8x v v3 v4:Int):Option R:=cond (decide (t8x<t7x)) (if 0≤t8x∧t8x<(s2.length:Int)then cond ((v==(rd (0,0,0,()) s2 t8x).1)&&((v3==(rd (0,0,0,()) s2 t8x).2.1)&&((v4==(rd (0,0,0,()) s2 t8x).2.2.1)&&true))) (ex0 t8x) (nx0 s2 t7x (af (t8x+1)) v v3 v4)else none) (ex1 ())
def A0(s:List U9)(v0 v1 v2:Int)(t4x:Int):Option (Int×Unit):=some (t4x,())
def A1(s:List U9)(v0 v1 v2:Int)(_u:Unit):Option (Int×Unit):=some ((-1),())
def T(lo0:Y9 (Int×Unit))(s:List U9)(v0 v1 v2:Int):Option (Int×Unit):=lo0 s (s.length:Int) 0 v0 v1 v2
def K0{R:Type}(k0:Nat)(K:au R):au R:=bg 0 (bG (fun env ob=>zrc k0 [1,1] env ob (K)) (K))
def L0:Y9 R:=fun s2 t7x t8x v v3 v4=>iter 0 [0,3,7,8] [4] (zrc k0 [1,0,1,0,0]) k [(0,.sl ct0 s2),(3,.ptr 0 0 0 0),(7,.int .i64 t7x),(8,.int .i64 t8x)] [.box [.int .i64 v,.int .i64 v3,.int .i64 v4]] K
def H0:Y2 R:=fun t4x=>K .ret [(4,.int .i64 t4x)] []
def H1:eF R:=fun _=>K (.exit 0) [(4,.undef)] []
theorem zs0:L0 k0 (k+1) K=R0 (L0 k0 k K) (H0 K) (H1 K):=by kernel_rfl
def G0{R:Type}(k0:Nat)(hx0:Y2 R)(hx1:eF R):Nat→Y9 R
 |0=>fun _ _ _ _ _ _=>none
 |k+1=>R0 (G0 k0 hx0 hx1 k) hx0 hx1
theorem aQ:∀ k,L0 k0 k K=G0 k0 (H0 K) (H1 K) k:=bK rfl fun k ih=>by rw[zs0,G0];(try simp only[ih]);try rfl
variable (s:List U9) (v0 v1 v2:Int)
def aB:au (Int×Unit):=di Tryz.prog [.tmp 4] Ho Hg (s,v0,v1,v2,())
theorem aY:H0 (K0 k0 (aB s v0 v1 v2))=A0 s v0 v1 v2:=by kernel_rfl
theorem dA:H1 (K0 k0 (aB s v0 v1 v2))=A1 s v0 v1 v2:=by kernel_rfl
def FF:Option (Int×Unit):=T (G0 k0 (A0 s v0 v1 v2) (A1 s v0 v1 v2) k0) s v0 v1 v2
theorem aX:dw Tryz.prog (aV []) aC k0 137 Ho Hg [] (s,v0,v1,v2,())=FF k0 s v0 v1 v2:=Eq.trans (b:=T (L0 k0 k0 (K0 k0 (aB s v0 v1 v2))) s v0 v1 v2) (by kernel_rfl) (by rw[FF];(try simp only[aQ,aY,dA]);try rfl)
def _root_.Go.Rv.CG:=fun x:(List U9)×U9=>FF (300+x.1.length) x.1 x.2.1 x.2.2.1 x.2.2.2.1
abbrev _root_.Go.Rv.YP:aG:=⟨Ho,Hg,CG,[]⟩
theorem _root_.Go.Rv.YO:aF Dr Tryz.prog 137 YP:=dI mix .nil (by kernel_rfl) fun x=>⟨aC,_,aX _ _ _ _ _⟩
end rE
def TJ.T(a0 a1 a2:Int)(a'0:List U9):Option (Int×Unit):=(CG ((a'0,()).1,a0,a1,a2,())).bind fun y1=>some (y1.1,())
def uS:=fun x:Int×Int×Int×(List U9)×Unit=>TJ.T x.1 x.2.1 x.2.2.1 x.2.2.2.1
abbrev SG:aG:=⟨[.v true ct0,.r [CT.sl ct0]],[(false,[CT.int .i64])],uS,[]⟩
theorem aaY:aF Dr Tryz.prog 136 SG:=bC mix (.c YO .nil) (by kernel_rfl) fun x=>by kernel_rfl
def RQ.T(a0 a1 a2 amount all:Int):Option (Bool×Unit):=cond (decide (amount≥0)) ((zD (a1,all,amount,a2,())).bind fun y1=>some ((decide (y1.1≤0)),())) (some (false,()))
def zN:=fun x:U6=>RQ.T x.1 x.2.1 x.2.2.1 x.2.2.2.1 x.2.2.2.2.1
abbrev QW:aG:=⟨[.v true ct0,.v false [CT.int .i64],.v false [CT.int .i64]],[(false,[CT.bool])],zN,[]⟩
theorem ZU:aF Dr Tryz.prog 138 QW:=bC mix (.c Qe .nil) (by kernel_rfl) fun x=>by kernel_rfl
def aaJ.T(x:Int):Option (Int×Unit):=cond (decide (x≥4294967296)) (cond (decide ((Int.fdiv x (2 ^ 32))≥65536)) (cond (decide ((Int.fdiv (Int.fdiv x (2 ^ 32)) (2 ^ 16))≥256)) (if 0≤(IntKind.u8.wrap ((Int.fdiv (Int.fdiv (Int.fdiv x (2 ^ 32)) (2 ^ 16)) (2 ^ 8))))∧(IntKind.u8.wrap ((Int.fdiv (Int.fdiv (Int.fdiv x (2 ^ 32)) (2 ^ 16)) (2 ^ 8))))<((kR).size:Int)then some ((af ((af ((af (32+16))+8))+(af ((bt (kR) (IntKind.u8.wrap ((Int.fdiv (Int.fdiv (Int.fdiv x (2 ^ 32)) (2 ^ 16)) (2 ^ 8))))))))),())else none) (if 0≤(IntKind.u8.wrap ((Int.fdiv (Int.fdiv x (2 ^ 32)) (2 ^ 16))))∧(IntKind.u8.wrap ((Int.fdiv (Int.fdiv x (2 ^ 32)) (2 ^ 16))))<((kR).size:Int)then some ((af ((af (32+16))+(af ((bt (kR) (IntKind.u8.wrap ((Int.fdiv (Int.fdiv x (2 ^ 32)) (2 ^ 16))))))))),())else none)) (cond (decide ((Int.fdiv x (2 ^ 32))≥256)) (if 0≤(IntKind.u8.wrap ((Int.fdiv (Int.fdiv x (2 ^ 32)) (2 ^ 8))))∧(IntKind.u8.wrap ((Int.fdiv (Int.fdiv x (2 ^ 32)) (2 ^ 8))))<((kR).size:Int)then some ((af ((af (32+8))+(af ((bt (kR) (IntKind.u8.wrap ((Int.fdiv (Int.fdiv x (2 ^ 32)) (2 ^ 8))))))))),())else none) (if 0≤(IntKind.u8.wrap ((Int.fdiv x (2 ^ 32))))∧(IntKind.u8.wrap ((Int.fdiv x (2 ^ 32))))<((kR).size:Int)then some ((af (32+(af ((bt (kR) (IntKind.u8.wrap ((Int.fdiv x (2 ^ 32))))))))),())else none))) (cond (decide (x≥65536)) (cond (decide ((Int.fdiv x (2 ^ 16))≥256)) (if 0≤(IntKind.u8.wrap ((Int.fdiv (Int.fdiv x (2 ^ 16)) (2 ^ 8))))∧(IntKind.u8.wrap ((Int.fdiv (Int.fdiv x (2 ^ 16)) (2 ^ 8))))<((kR).size:Int)then some ((af ((af ((af (0+16))+8))+(af ((bt (kR) (IntKind.u8.wrap ((Int.fdiv (Int.fdiv x (2 ^ 16)) (2 ^ 8))))))))),())else none) (if 0≤(IntKind.u8.wrap ((Int.fdiv x (2 ^ 16))))∧(IntKind.u8.wrap ((Int.fdiv x (2 ^ 16))))<((kR).size:Int)then some ((af ((af (0+16))+(af ((bt (kR) (IntKind.u8.wrap ((Int.fdiv x (2 ^ 16))))))))),())else none)) (cond (decide (x≥256)) (if 0≤(IntKind.u8.wrap ((Int.fdiv x (2 ^ 8))))∧(IntKind.u8.wrap ((Int.fdiv x (2 ^ 8))))<((kR).size:Int)then some ((af ((af (0+8))+(af ((bt (kR) (IntKind.u8.wrap ((Int.fdiv x (2 ^ 8))))))))),())else none) (if 0≤(IntKind.u8.wrap (x))∧(IntKind.u8.wrap (x))<((kR).size:Int)then some ((af (0+(af ((bt (kR) (IntKind.u8.wrap (x))))))),())else none)))
def Df:=fun x:Int×Unit=>aaJ.T x.1
abbrev Z8:aG:=⟨[.v false [CT.int .u64]],[(false,[CT.int .i64])],Df,[]⟩
theorem Zz:aF Dr Tryz.prog 194 Z8:=bC mix .nil (by kernel_rfl) fun x=>by kernel_rfl
def Qa.T(x:Int):Option (Int×Unit):=(Df (x,())).bind fun y1=>some ((af (64 - y1.1)),())
def CJ:=fun x:Int×Unit=>Qa.T x.1
abbrev Hw:aG:=⟨[.v false [CT.int .u64]],[(false,[CT.int .i64])],CJ,[]⟩
theorem YQ:aF Dr Tryz.prog 183 Hw:=bC mix (.c Zz .nil) (by kernel_rfl) fun x=>by kernel_rfl
abbrev IY:Is:=[.v false [CT.int .u64],.v false [CT.int .u64],.v false [CT.int .u64]]
abbrev Ir:Os:=[(false,[CT.int .u64]),(false,[CT.int .u64])]
namespace l9
def aC:Nat→List Nat×List Nat:=fun k=>if k=17 then([2,8,9,10,11,13,14,15,16],[2,8,9,10,11,13,14,15])else if k=24 then([2,8,9,10,14,15,16,17,18],[2,8,14,15,17,18])else([],[])
def zrc{R:Type}(k0:Nat)(p:List Nat):Env→List Ob→au R→Option R:=bJ Tryz.prog (aV [(183,[],Hw)]) 135 0 aC k0 (cO p (dH Tryz.prog 174))
def R0{R:Type}(nx0:uF R)(ex0:zq R)(y2 s yn1 yn0 un32 un1 un0 q1 rhat:Int):Option R:=cond (decide (q1≥4294967296)) (cond (decide ((IntKind.u64.wrap (rhat+yn1))≥4294967296)) (ex0 y2 s yn1 yn0 un32 un1 un0 (IntKind.u64.wrap (q1 - 1))) (nx0 y2 s yn1 yn0 un32 un1 un0 (IntKind.u64.wrap (q1 - 1)) (IntKind.u64.wrap (rhat+yn1)))) (cond (decide ((IntKind.u64.wrap (q1*yn0))>(IntKind.u64.wrap ((IntKind.u64.wrap (4294967296*rhat))+un1)))) (cond (decide ((IntKind.u64.wrap (rhat+yn1))≥4294967296)) (ex0 y2 s yn1 yn0 un32 un1 un0 (IntKind.u64.wrap (q1 - 1))) (nx0 y2 s yn1 yn0 un32 un1 un0 (IntKind.u64.wrap (q1 - 1)) (IntKind.u64.wrap (rhat+yn1)))) (ex0 y2 s yn1 yn0 un32 un1 un0 q1))
def R1{R:Type}(nx1:uF R)(ex1:PY R)(y2 s yn1 yn0 un0 q1 rhat un21 q0:Int):Option R:=cond (decide (q0≥4294967296)) (cond (decide ((IntKind.u64.wrap (rhat+yn1))≥4294967296)) (ex1 y2 s un0 q1 un21 (IntKind.u64.wrap (q0 - 1))) (nx1 y2 s yn1 yn0 un0 q1 (IntKind.u64.wrap (rhat+yn1)) un21 (IntKind.u64.wrap (q0 - 1)))) (cond (decide ((IntKind.u64.wrap (q0*yn0))>(IntKind.u64.wrap ((IntKind.u64.wrap (4294967296*rhat))+un0)))) (cond (decide ((IntKind.u64.wrap (rhat+yn1))≥4294967296)) (ex1 y2 s un0 q1 un21 (IntKind.u64.wrap (q0 - 1))) (nx1 y2 s yn1 yn0 un0 q1 (IntKind.u64.wrap (rhat+yn1)) un21 (IntKind.u64.wrap (q0 - 1)))) (ex1 y2 s un0 q1 un21 q0))
def A0(lo1:uF (aH))(hi lo y:Int)(y2 s yn1 yn0 un32 un1 un0 q1:Int):Option (aH):=if yn1=0 then none else lo1 y2 s yn1 yn0 un0 q1 (IntKind.u64.wrap ((IntKind.u64.wrap ((IntKind.u64.wrap ((IntKind.u64.wrap (un32*4294967296))+un1)) - (IntKind.u64.wrap (q1*y2)))) - (IntKind.u64.wrap ((IntKind.u64.wrap (Int.tdiv (IntKind.u64.wrap ((IntKind.u64.wrap ((IntKind.u64.wrap (un32*4294967296))+un1)) - (IntKind.u64.wrap (q1*y2)))) yn1))*yn1)))) (IntKind.u64.wrap ((IntKind.u64.wrap ((IntKind.u64.wrap (un32*4294967296))+un1)) - (IntKind.u64.wrap (q1*y2)))) (IntKind.u64.wrap (Int.tdiv (IntKind.u64.wrap ((IntKind.u64.wrap ((IntKind.u64.wrap (un32*4294967296))+un1)) - (IntKind.u64.wrap (q1*y2)))) yn1))
def A1(hi lo y:Int)(y2 s un0 q1 un21 q0:Int):Option (aH):=if s<0 then none else some ((IntKind.u64.wrap ((IntKind.u64.wrap (q1*4294967296))+q0)),(Int.fdiv (IntKind.u64.wrap ((IntKind.u64.wrap ((IntKind.u64.wrap (un21*4294967296))+un0)) - (IntKind.u64.wrap (q0*y2)))) (2 ^ (min ((s:Int)).toNat 64))),())
def T(lo0:uF (aH))(hi lo y:Int):Option (aH):=cond (y==0) (none) (cond (decide (y≤hi)) (none) (cond (hi==0) (if y=0 then none else if y=0 then none else some ((IntKind.u64.wrap (Int.tdiv lo y)),(Int.tmod lo y),())) ((CJ (y,())).bind fun y1=>if(IntKind.u64.wrap (y1.1))<0 then none else if(IntKind.u64.wrap (y1.1))<0 then none else if(IntKind.u64.wrap (64 - (IntKind.u64.wrap (y1.1))))<0 then none else if(IntKind.u64.wrap (y1.1))<0 then none else if(Int.fdiv (IntKind.u64.wrap (y*2 ^ (min (((IntKind.u64.wrap (y1.1)):Int)).toNat 64))) (2 ^ 32))=0 then none else lo0 (IntKind.u64.wrap (y*2 ^ (min (((IntKind.u64.wrap (y1.1)):Int)).toNat 64))) (IntKind.u64.wrap (y1.1)) (Int.fdiv (IntKind.u64.wrap (y*2 ^ (min (((IntKind.u64.wrap (y1.1)):Int)).toNat 64))) (2 ^ 32)) (IntKind.u64.wrap (((BitVec.ofInt 64 (IntKind.u64.wrap (y*2 ^ (min (((IntKind.u64.wrap (y1.1)):Int)).toNat 64)))) &&& (BitVec.ofInt 64 4294967295)).toNat)) (IntKind.u64.wrap (((BitVec.ofInt 64 (IntKind.u64.wrap (hi*2 ^ (min (((IntKind.u64.wrap (y1.1)):Int)).toNat 64)))) ||| (BitVec.ofInt 64 (Int.fdiv lo (2 ^ (min (((IntKind.u64.wrap (64 - (IntKind.u64.wrap (y1.1)))):Int)).toNat 64))))).toNat)) (Int.fdiv (IntKind.u64.wrap (lo*2 ^ (min (((IntKind.u64.wrap (y1.1)):Int)).toNat 64))) (2 ^ 32)) (IntKind.u64.wrap (((BitVec.ofInt 64 (IntKind.u64.wrap (lo*2 ^ (min (((IntKind.u64.wrap (y1.1)):Int)).toNat 64)))) &&& (BitVec.ofInt 64 4294967295)).toNat)) (IntKind.u64.wrap (Int.tdiv (IntKind.u64.wrap (((BitVec.ofInt 64 (IntKind.u64.wrap (hi*2 ^ (min (((IntKind.u64.wrap (y1.1)):Int)).toNat 64)))) ||| (BitVec.ofInt 64 (Int.fdiv lo (2 ^ (min (((IntKind.u64.wrap (64 - (IntKind.u64.wrap (y1.1)))):Int)).toNat 64))))).toNat)) (Int.fdiv (IntKind.u64.wrap (y*2 ^ (min (((IntKind.u64.wrap (y1.1)):Int)).toNat 64))) (2 ^ 32)))) (IntKind.u64.wrap ((IntKind.u64.wrap (((BitVec.ofInt 64 (IntKind.u64.wrap (hi*2 ^ (min (((IntKind.u64.wrap (y1.1)):Int)).toNat 64)))) ||| (BitVec.ofInt 64 (Int.fdiv lo (2 ^ (min (((IntKind.u64.wrap (64 - (IntKind.u64.wrap (y1.1)))):Int)).toNat 64))))).toNat)) - (IntKind.u64.wrap ((IntKind.u64.wrap (Int.tdiv (IntKind.u64.wrap (((BitVec.ofInt 64 (IntKind.u64.wrap (hi*2 ^ (min (((IntKind.u64.wrap (y1.1)):Int)).toNat 64)))) ||| (BitVec.ofInt 64 (Int.fdiv lo (2 ^ (min (((IntKind.u64.wrap (64 - (IntKind.u64.wrap (y1.1)))):Int)).toNat 64))))).toNat)) (Int.fdiv (IntKind.u64.wrap (y*2 ^ (min (((IntKind.u64.wrap (y1.1)):Int)).toNat 64))) (2 ^ 32))))*(Int.fdiv (IntKind.u64.wrap (y*2 ^ (min (((IntKind.u64.wrap (y1.1)):Int)).toNat 64))) (2 ^ 32)))))))))
def K0{R:Type}(k0:Nat)(K:au R):au R:=bg 0 (bG (fun env ob=>zrc k0 [1,1,1,1,1,1,1,1,1,1,1,1,1,1,1] env ob (K)) (K))
def K1{R:Type}(k0:Nat)(K:au R):au R:=bg 2 (bG (fun env ob=>zrc k0 [1,1,1,1,1,1,1,1,1,1,1,1,1,1,1,1,1,1,1] env ob (K)) (K))
def L0:uF R:=fun y2 s yn1 yn0 un32 un1 un0 q1 rhat=>iter 0 [2,8,9,10,11,13,14,15,16] [2,8,9,10,11,13,14,15] (zrc k0 [1,1,1,1,1,1,1,1,1,1,1,1,1,1,0,0,0]) k [(2,.int .u64 y2),(8,.int .u64 s),(9,.int .u64 yn1),(10,.int .u64 yn0),(11,.int .u64 un32),(13,.int .u64 un1),(14,.int .u64 un0),(15,.int .u64 q1),(16,.int .u64 rhat)] [] K
def L1:uF R:=fun y2 s yn1 yn0 un0 q1 rhat un21 q0=>iter 0 [2,8,9,10,14,15,16,17,18] [2,8,14,15,17,18] (zrc k0 [1,1,1,1,1,1,1,1,1,1,1,1,1,1,1,1,1,1,0,0,0]) k [(2,.int .u64 y2),(8,.int .u64 s),(9,.int .u64 yn1),(10,.int .u64 yn0),(14,.int .u64 un0),(15,.int .u64 q1),(16,.int .u64 rhat),(17,.int .u64 un21),(18,.int .u64 q0)] [] K
def H0:zq R:=fun y2 s yn1 yn0 un32 un1 un0 q1=>K (.exit 0) [(2,.int .u64 y2),(8,.int .u64 s),(9,.int .u64 yn1),(10,.int .u64 yn0),(11,.int .u64 un32),(13,.int .u64 un1),(14,.int .u64 un0),(15,.int .u64 q1)] []
def H1:PY R:=fun y2 s un0 q1 un21 q0=>K (.exit 2) [(2,.int .u64 y2),(8,.int .u64 s),(14,.int .u64 un0),(15,.int .u64 q1),(17,.int .u64 un21),(18,.int .u64 q0)] []
theorem zs0:L0 k0 (k+1) K=R0 (L0 k0 k K) (H0 K):=by kernel_rfl
theorem zs1:L1 k0 (k+1) K=R1 (L1 k0 k K) (H1 K):=by kernel_rfl
def G0{R:Type}(k0:Nat)(hx0:zq R):Nat→uF R
 |0=>fun _ _ _ _ _ _ _ _ _=>none
 |k+1=>R0 (G0 k0 hx0 k) hx0
theorem aQ:∀ k,L0 k0 k K=G0 k0 (H0 K) k:=bK rfl fun k ih=>by rw[zs0,G0];(try simp only[ih]);try rfl
def G1{R:Type}(k0:Nat)(hx1:PY R):Nat→uF R
 |0=>fun _ _ _ _ _ _ _ _ _=>none
 |k+1=>R1 (G1 k0 hx1 k) hx1
theorem dK:∀ k,L1 k0 k K=G1 k0 (H1 K) k:=bK rfl fun k ih=>by rw[zs1,G1];(try simp only[ih,aQ]);try rfl
variable (hi lo y:Int)
def aB:au (aH):=di Tryz.prog [.tmp 6,.tmp 7] IY Ir (hi,lo,y,())
theorem aY:H0 (K0 k0 (aB hi lo y))=A0 (L1 k0 k0 (K1 k0 (aB hi lo y))) hi lo y:=by kernel_rfl
theorem dA:H1 (K1 k0 (aB hi lo y))=A1 hi lo y:=by kernel_rfl
def FF:Option (aH):=T (G0 k0 (A0 (G1 k0 (A1 hi lo y) k0) hi lo y) k0) hi lo y
theorem aX:dw Tryz.prog (aV [(183,[],Hw)]) aC k0 174 IY Ir [] (hi,lo,y,())=FF k0 hi lo y:=Eq.trans (b:=T (L0 k0 k0 (K0 k0 (aB hi lo y))) hi lo y) (by kernel_rfl) (by rw[FF];(try simp only[aQ,dK,aY,dA]);try rfl)
def _root_.Go.Rv.Dh:=fun x:U9=>FF (300) x.1 x.2.1 x.2.2.1
abbrev _root_.Go.Rv.Z9:aG:=⟨IY,Ir,Dh,[]⟩
theorem _root_.Go.Rv.ZA:aF Dr Tryz.prog 174 Z9:=dI mix (.c YQ .nil) (by kernel_rfl) fun x=>⟨aC,_,aX _ _ _ _⟩
end l9
def Td.T(a0 a1 d:Int):Option (U9):=cond (d==0) (some (0,0,0,())) (if d=0 then none else if d=0 then none else(Dh ((Int.tmod a0 d),a1,d,())).bind fun y1=>some ((IntKind.u64.wrap (Int.tdiv a0 d)),y1.1,y1.2.1,()))
def DN:=fun x:U9=>Td.T x.1 x.2.1 x.2.2.1
abbrev aa6:aG:=⟨[.v true ct1,.v false [CT.int .u64]],[(true,Yf)],DN,[]⟩
theorem aaG:aF Dr Tryz.prog 158 aa6:=bC mix (.c ZA .nil) (by kernel_rfl) fun x=>by kernel_rfl
def Uk.T(amount weight all:Int):Option (Int×Unit):=(wX (amount,weight,())).bind fun y1=>(DN (y1.1,y1.2.1,(IntKind.u64.wrap (all)),())).bind fun y2=>some ((af (y2.2.1)),())
def xh:=fun x:U9=>Uk.T x.1 x.2.1 x.2.2.1
abbrev Tn:aG:=⟨[.v false [CT.int .i64],.v false [CT.int .i64],.v false [CT.int .i64]],[(false,[CT.int .i64])],xh,[]⟩
theorem abg:aF Dr Tryz.prog 139 Tn:=bC mix (.c aaG (.c Q9 .nil)) (by kernel_rfl) fun x=>by kernel_rfl
abbrev KY:Is:=[.v false [CT.int .i64],.v false [CT.sl ct0]]
abbrev KL:Os:=[(true,ct7)]
namespace bY
def dF:Tb:=[(135,[],⟨Ri,QG,uQ,[]⟩),(136,[],SG),(138,[],QW),(139,[],Tn)]
def aC:Nat→List Nat×List Nat:=fun k=>if k=3 then([3,4,5,26,27,28],[3,4,5])else if k=9 then([3,4,5,8,9],[3,4,5,8,9])else if k=18 then([3,4,5,9,11,12,108,109,110],[3,4,5,11,12])else if k=25 then([4,5,11,12,142,143],[4,5])else([],[])
def zrc{R:Type}(k0:Nat)(p:List Nat):Env→List Ob→au R→Option R:=bJ Tryz.prog (aV dF) 172 0 aC k0 (cO p (dH Tryz.prog 117))
def R0{R:Type}(nx0:Gy R)(ex0:PX R)(t26x:List U9)(t27x t28x:Int)(list2:List U9)(t4x t4x2 t4x3 out out2 out3:Int)(o3:List (Int×Unit))(o4:List (Bool×Unit)):Option R:=cond (decide (t28x<t27x)) (if 0≤t28x∧t28x<(t26x.length:Int)then nx0 t26x t27x (af (t28x+1)) list2 t4x t4x2 t4x3 out (af (out2+(rd (0,0,0,()) t26x t28x).2.2.1)) out3 o3 o4 else none) (ex0 list2 t4x t4x2 t4x3 out out2 out3 o3 o4)
def R1{R:Type}(nx2:vZ R)(ex1:vY R)(list2:List U9)(t4x t4x2 t4x3 out out2 out3:Int)(order:List U9)(o4:List (Int×Unit))(o5:List (Bool×Unit)):Option R:=cond (decide ((order.length:Int)>0)) (if(0:Int)≤0∧0<(order.length:Int)then(zN ((order.getD ((0:Int).toNat) (0,0,0,())).1,(order.getD ((0:Int).toNat) (0,0,0,())).2.1,(order.getD ((0:Int).toNat) (0,0,0,())).2.2.1,out,out2,())).bind fun y1=>cond y1.1 (if(0:Int)≤0∧0<(order.length:Int)then(uS ((order.getD ((0:Int).toNat) (0,0,0,())).1,(order.getD ((0:Int).toNat) (0,0,0,())).2.1,(order.getD ((0:Int).toNat) (0,0,0,())).2.2.1,list2,())).bind fun y2=>if 0≤y2.1∧y2.1<(o4.length:Int)then if(0:Int)≤1∧1≤(order.length:Int)then nx2 ((1:Int).toNat) (order.length - (1:Int).toNat) list2 t4x t4x2 t4x3 (af (out - (order.getD ((0:Int).toNat) (0,0,0,())).2.1)) (af (out2 - (order.getD ((0:Int).toNat) (0,0,0,())).2.2.1)) (af (out3+1)) order (o4.set ((y2.1).toNat) ((order.getD ((0:Int).toNat) (0,0,0,())).2.1,())) o5 else none else none else none) (ex1 list2 t4x t4x2 t4x3 out out2 out3 order o4 o5)else none) (ex1 list2 t4x t4x2 t4x3 out out2 out3 order o4 o5)
def R2{R:Type}(nx2 ex2:vZ R)(ordero orderl:Nat)(list2:List U9)(t4x t4x2 t4x3 out out2 out3:Int)(order:List U9)(o4:List (Int×Unit))(o5:List (Bool×Unit)):Option R:=cond (decide ((orderl:Int)>0)) (if ordero+orderl≤order.length then if(0:Int)≤0∧0<(orderl:Int)then(zN ((order.getD (ordero+(0:Int).toNat) (0,0,0,())).1,(order.getD (ordero+(0:Int).toNat) (0,0,0,())).2.1,(order.getD (ordero+(0:Int).toNat) (0,0,0,())).2.2.1,out,out2,())).bind fun y1=>cond y1.1 (if ordero+orderl≤order.length then if(0:Int)≤0∧0<(orderl:Int)then(uS ((order.getD (ordero+(0:Int).toNat) (0,0,0,())).1,(order.getD (ordero+(0:Int).toNat) (0,0,0,())).2.1,(order.getD (ordero+(0:Int).toNat) (0,0,0,())).2.2.1,list2,())).bind fun y2=>if 0≤y2.1∧y2.1<(o4.length:Int)then if ordero+orderl≤order.length then if(0:Int)≤1∧1≤(orderl:Int)then nx2 (ordero+(1:Int).toNat) (orderl - (1:Int).toNat) list2 t4x t4x2 t4x3 (af (out - (order.getD (ordero+(0:Int).toNat) (0,0,0,())).2.1)) (af (out2 - (order.getD (ordero+(0:Int).toNat) (0,0,0,())).2.2.1)) (af (out3+1)) order (o4.set ((y2.1).toNat) ((order.getD (ordero+(0:Int).toNat) (0,0,0,())).2.1,())) o5 else none else none else none else none else none) (ex2 ordero orderl list2 t4x t4x2 t4x3 out out2 out3 order o4 o5)else none else none) (ex2 ordero orderl list2 t4x t4x2 t4x3 out out2 out3 order o4 o5)
def R3{R:Type}(nx3:Gx R)(ex3:Cf R)(left t109x t110x:Int)(list2:List U9)(t4x t4x2 t4x3 out out2 out3:Int)(poor:List (Bool×Unit))(t108x:List U9)(o5:List (Int×Unit))(o6:List (Bool×Unit)):Option R:=cond (decide (t110x<t109x)) (if 0≤t110x∧t110x<(t108x.length:Int)then(uS ((t108x.getD t110x.toNat (0,0,0,())).1,(t108x.getD t110x.toNat (0,0,0,())).2.1,(t108x.getD t110x.toNat (0,0,0,())).2.2.1,list2,())).bind fun y1=>(xh (out,(t108x.getD t110x.toNat (0,0,0,())).2.2.1,out2,())).bind fun y2=>if 0≤y1.1∧y1.1<(o5.length:Int)then if 0≤y1.1∧y1.1<(poor.length:Int)then if 0≤y1.1∧y1.1<((o5.set ((y1.1).toNat) (y2.1,())).length:Int)then nx3 (af (left - ((o5.set ((y1.1).toNat) (y2.1,())).getD ((y1.1).toNat) (0,())).1)) t109x (af (t110x+1)) list2 t4x t4x2 t4x3 out out2 out3 (poor.set ((y1.1).toNat) (true,())) t108x (o5.set ((y1.1).toNat) (y2.1,())) o6 else none else none else none else none) (ex3 left list2 t4x t4x2 t4x3 out out2 out3 poor o5 o6)
def R4{R:Type}(nx4:Gw R)(ex3:Cf R)(left:Int)(t108o t108l:Nat)(t109x t110x:Int)(list2:List U9)(t4x t4x2 t4x3 out out2 out3:Int)(poor:List (Bool×Unit))(t108x:List U9)(o5:List (Int×Unit))(o6:List (Bool×Unit)):Option R:=cond (decide (t110x<t109x)) (if t108o+t108l≤t108x.length then if 0≤t110x∧t110x<(t108l:Int)then(uS ((t108x.getD (t108o+t110x.toNat) (0,0,0,())).1,(t108x.getD (t108o+t110x.toNat) (0,0,0,())).2.1,(t108x.getD (t108o+t110x.toNat) (0,0,0,())).2.2.1,list2,())).bind fun y1=>(xh (out,(t108x.getD (t108o+t110x.toNat) (0,0,0,())).2.2.1,out2,())).bind fun y2=>if 0≤y1.1∧y1.1<(o5.length:Int)then if 0≤y1.1∧y1.1<(poor.length:Int)then if 0≤y1.1∧y1.1<((o5.set ((y1.1).toNat) (y2.1,())).length:Int)then nx4 (af (left - ((o5.set ((y1.1).toNat) (y2.1,())).getD ((y1.1).toNat) (0,())).1)) t108o t108l t109x (af (t110x+1)) list2 t4x t4x2 t4x3 out out2 out3 (poor.set ((y1.1).toNat) (true,())) t108x (o5.set ((y1.1).toNat) (y2.1,())) o6 else none else none else none else none else none) (ex3 left list2 t4x t4x2 t4x3 out out2 out3 poor o5 o6)
def R5{R:Type}(nx5:Gv R)(rC:PW R)(left t142x t143x t4x t4x2 t4x3 out out2 out3:Int)(poor:List (Bool×Unit))(o3:List (Int×Unit))(o4:List (Bool×Unit)):Option R:=cond (decide (t143x<t142x)) (if 0≤t143x∧t143x<(poor.length:Int)then cond ((poor.getD t143x.toNat (false,())).1) (cond (decide (left>0)) (if 0≤t143x∧t143x<(o3.length:Int)then if 0≤t143x∧t143x<(o3.length:Int)then if 0≤t143x∧t143x<(o4.length:Int)then nx5 (af (left - 1)) t142x (af (t143x+1)) t4x t4x2 t4x3 out out2 out3 poor (o3.set t143x.toNat ((af ((o3.getD t143x.toNat (0,())).1+1)),())) (o4.set t143x.toNat (true,()))else none else none else none) (nx5 left t142x (af (t143x+1)) t4x t4x2 t4x3 out out2 out3 poor o3 o4)) (nx5 left t142x (af (t143x+1)) t4x t4x2 t4x3 out out2 out3 poor o3 o4)else none) (rC t4x t4x2 t4x3 out out2 out3 o3 o4)
def A0(lo1:vY (U4))(amount:Int)(list:List U9)(list2:List U9)(t4x t4x2 t4x3 out out2 out3:Int)(o3:List (Int×Unit))(o4:List (Bool×Unit)):Option (U4):=(uQ (list2,())).bind fun y1=>lo1 list2 t4x t4x2 t4x3 out out2 out3 y1.1 o3 o4
def A1(lo3:Gx (U4))(amount:Int)(list:List U9)(list2:List U9)(t4x t4x2 t4x3 out out2 out3:Int)(order:List U9)(o4:List (Int×Unit))(o5:List (Bool×Unit)):Option (U4):=cond ((order.length:Int)==0) (some (o4,0,0,out3,o5,())) (if 0≤(list2.length:Int)∧(1:Int)*(list2.length:Int)≤281474976710656∧(list2.length:Int)≤9223372036854775807 then lo3 out (order.length:Int) 0 list2 t4x t4x2 t4x3 out out2 out3 (List.replicate (((list2.length:Int):Int)).toNat (false,())) order o4 o5 else none)
def A2(lo4:Gw (U4))(amount:Int)(list:List U9)(ordero orderl:Nat)(list2:List U9)(t4x t4x2 t4x3 out out2 out3:Int)(order:List U9)(o4:List (Int×Unit))(o5:List (Bool×Unit)):Option (U4):=cond ((orderl:Int)==0) (some (o4,0,0,out3,o5,())) (if 0≤(list2.length:Int)∧(1:Int)*(list2.length:Int)≤281474976710656∧(list2.length:Int)≤9223372036854775807 then lo4 out ordero orderl (orderl:Int) 0 list2 t4x t4x2 t4x3 out out2 out3 (List.replicate (((list2.length:Int):Int)).toNat (false,())) order o4 o5 else none)
def A3(lo5:Gv (U4))(amount:Int)(list:List U9)(left:Int)(list2:List U9)(t4x t4x2 t4x3 out out2 out3:Int)(poor:List (Bool×Unit))(o4:List (Int×Unit))(o5:List (Bool×Unit)):Option (U4):=lo5 left (list2.length:Int) 0 t4x t4x2 t4x3 out out2 out3 poor o4 o5
def A4(amount:Int)(list:List U9)(t4x t4x2 t4x3 out out2 out3:Int)(o2:List (Int×Unit))(o3:List (Bool×Unit)):Option (U4):=some (o2,out,out2,out3,o3,())
def T(lo0:Gy (U4))(amount:Int)(list:List U9):Option (U4):=if 0≤(list.length:Int)∧(8:Int)*(list.length:Int)≤281474976710656∧(list.length:Int)≤9223372036854775807 then if 0≤(list.length:Int)∧(1:Int)*(list.length:Int)≤281474976710656∧(list.length:Int)≤9223372036854775807 then lo0 list (list.length:Int) 0 list 0 0 0 amount 0 0 (List.replicate (((list.length:Int):Int)).toNat (0,())) (List.replicate (((list.length:Int):Int)).toNat (false,()))else none else none
def K0{R:Type}(k0:Nat)(K:au R):au R:=bg 0 (bG (fun env ob=>zrc k0 [1,1,1] env ob (K)) (K))
def K1{R:Type}(k0:Nat)(K:au R):au R:=bg 2 (bG (fun env ob=>zrc k0 [1,1,1,1,1,1] env ob (K)) (K))
def K2{R:Type}(k0:Nat)(K:au R):au R:=bg 4 (bG (fun env ob=>zrc k0 [1,1,1,1,1,1,1,1,1] env ob (K)) (K))
def K3{R:Type}(k0:Nat)(K:au R):au R:=bg 6 (bG (fun env ob=>zrc k0 [1,1,1,1,1,1,1,1,1,1] env ob (K)) (K))
def L0:Gy R:=fun t26x t27x t28x list2 t4x t4x2 t4x3 out out2 out3 o3 o4=>iter 0 [3,4,5,26,27,28] [3,4,5] (zrc k0 [1,1,0,1,0,0]) k [(3,.ptr 0 0 0 0),(4,.ptr 1 0 0 0),(5,.ptr 2 0 0 0),(26,.sl ct0 t26x),(27,.int .i64 t27x),(28,.int .i64 t28x)] [.box [.sl ct0 list2],.box [.nils,.int .i64 t4x,.int .i64 t4x2,.int .i64 t4x3,.nils],.box [.own 3,.int .i64 out,.int .i64 out2,.int .i64 out3,.own 4],.arr [CT.int .i64] o3,.arr [CT.bool] o4] K
def L1:vY R:=fun list2 t4x t4x2 t4x3 out out2 out3 order o4 o5=>iter 0 [3,4,5,8,9] [3,4,5,8,9] (zrc k0 [1,1,1,1,1,0,0,0]) k [(3,.ptr 0 0 0 0),(4,.ptr 1 0 0 0),(5,.ptr 2 0 0 0),(8,.own 3),(9,.fn 136 [.ptr 0 0 0 0])] [.box [.sl ct0 list2],.box [.nils,.int .i64 t4x,.int .i64 t4x2,.int .i64 t4x3,.nils],.box [.own 4,.int .i64 out,.int .i64 out2,.int .i64 out3,.own 5],.arr ct0 order,.arr [CT.int .i64] o4,.arr [CT.bool] o5] K
def L2:vZ R:=fun ordero orderl list2 t4x t4x2 t4x3 out out2 out3 order o4 o5=>iter 0 [3,4,5,8,9] [3,4,5,8,9] (zrc k0 [1,1,1,1,1,0,0,0]) k [(3,.ptr 0 0 0 0),(4,.ptr 1 0 0 0),(5,.ptr 2 0 0 0),(8,.ref 3 3 ordero orderl),(9,.fn 136 [.ptr 0 0 0 0])] [.box [.sl ct0 list2],.box [.nils,.int .i64 t4x,.int .i64 t4x2,.int .i64 t4x3,.nils],.box [.own 4,.int .i64 out,.int .i64 out2,.int .i64 out3,.own 5],.arr ct0 order,.arr [CT.int .i64] o4,.arr [CT.bool] o5] K
def L3:Gx R:=fun left t109x t110x list2 t4x t4x2 t4x3 out out2 out3 poor t108x o5 o6=>iter 0 [3,4,5,9,11,12,108,109,110] [3,4,5,11,12] (zrc k0 [1,1,1,1,1,1,1,1,0,1,0,0]) k [(3,.ptr 0 0 0 0),(4,.ptr 1 0 0 0),(5,.ptr 2 0 0 0),(9,.fn 136 [.ptr 0 0 0 0]),(11,.int .i64 left),(12,.own 3),(108,.own 4),(109,.int .i64 t109x),(110,.int .i64 t110x)] [.box [.sl ct0 list2],.box [.nils,.int .i64 t4x,.int .i64 t4x2,.int .i64 t4x3,.nils],.box [.own 5,.int .i64 out,.int .i64 out2,.int .i64 out3,.own 6],.arr [CT.bool] poor,.arr ct0 t108x,.arr [CT.int .i64] o5,.arr [CT.bool] o6] K
def L4:Gw R:=fun left t108o t108l t109x t110x list2 t4x t4x2 t4x3 out out2 out3 poor t108x o5 o6=>iter 0 [3,4,5,9,11,12,108,109,110] [3,4,5,11,12] (zrc k0 [1,1,1,1,1,1,1,1,0,1,0,0]) k [(3,.ptr 0 0 0 0),(4,.ptr 1 0 0 0),(5,.ptr 2 0 0 0),(9,.fn 136 [.ptr 0 0 0 0]),(11,.int .i64 left),(12,.own 3),(108,.ref 4 3 t108o t108l),(109,.int .i64 t109x),(110,.int .i64 t110x)] [.box [.sl ct0 list2],.box [.nils,.int .i64 t4x,.int .i64 t4x2,.int .i64 t4x3,.nils],.box [.own 5,.int .i64 out,.int .i64 out2,.int .i64 out3,.own 6],.arr [CT.bool] poor,.arr ct0 t108x,.arr [CT.int .i64] o5,.arr [CT.bool] o6] K
def L5:Gv R:=fun left t142x t143x t4x t4x2 t4x3 out out2 out3 poor o3 o4=>iter 0 [4,5,11,12,142,143] [4,5] (zrc k0 [1,1,1,1,1,1,1,1,1,0,1,0,0]) k [(4,.ptr 0 0 0 0),(5,.ptr 1 0 0 0),(11,.int .i64 left),(12,.own 2),(142,.int .i64 t142x),(143,.int .i64 t143x)] [.box [.nils,.int .i64 t4x,.int .i64 t4x2,.int .i64 t4x3,.nils],.box [.own 3,.int .i64 out,.int .i64 out2,.int .i64 out3,.own 4],.arr [CT.bool] poor,.arr [CT.int .i64] o3,.arr [CT.bool] o4] K
def H0:PX R:=fun list2 t4x t4x2 t4x3 out out2 out3 o3 o4=>K (.exit 0) [(3,.ptr 0 0 0 0),(4,.ptr 1 0 0 0),(5,.ptr 2 0 0 0)] [.box [.sl ct0 list2],.box [.nils,.int .i64 t4x,.int .i64 t4x2,.int .i64 t4x3,.nils],.box [.own 3,.int .i64 out,.int .i64 out2,.int .i64 out3,.own 4],.arr [CT.int .i64] o3,.arr [CT.bool] o4]
def H1:vY R:=fun list2 t4x t4x2 t4x3 out out2 out3 order o4 o5=>K (.exit 2) [(3,.ptr 0 0 0 0),(4,.ptr 1 0 0 0),(5,.ptr 2 0 0 0),(8,.own 3),(9,.fn 136 [.ptr 0 0 0 0])] [.box [.sl ct0 list2],.box [.nils,.int .i64 t4x,.int .i64 t4x2,.int .i64 t4x3,.nils],.box [.own 4,.int .i64 out,.int .i64 out2,.int .i64 out3,.own 5],.arr ct0 order,.arr [CT.int .i64] o4,.arr [CT.bool] o5]
def H2:vZ R:=fun ordero orderl list2 t4x t4x2 t4x3 out out2 out3 order o4 o5=>K (.exit 2) [(3,.ptr 0 0 0 0),(4,.ptr 1 0 0 0),(5,.ptr 2 0 0 0),(8,.ref 3 3 ordero orderl),(9,.fn 136 [.ptr 0 0 0 0])] [.box [.sl ct0 list2],.box [.nils,.int .i64 t4x,.int .i64 t4x2,.int .i64 t4x3,.nils],.box [.own 4,.int .i64 out,.int .i64 out2,.int .i64 out3,.own 5],.arr ct0 order,.arr [CT.int .i64] o4,.arr [CT.bool] o5]
def H3:Cf R:=fun left list2 t4x t4x2 t4x3 out out2 out3 poor o4 o5=>K (.exit 4) [(3,.ptr 0 0 0 0),(4,.ptr 1 0 0 0),(5,.ptr 2 0 0 0),(11,.int .i64 left),(12,.own 3)] [.box [.sl ct0 list2],.box [.nils,.int .i64 t4x,.int .i64 t4x2,.int .i64 t4x3,.nils],.box [.own 4,.int .i64 out,.int .i64 out2,.int .i64 out3,.own 5],.arr [CT.bool] poor,.arr [CT.int .i64] o4,.arr [CT.bool] o5]
def H4:PW R:=fun t4x t4x2 t4x3 out out2 out3 o2 o3=>K (.exit 6) [(4,.ptr 0 0 0 0),(5,.ptr 1 0 0 0)] [.box [.nils,.int .i64 t4x,.int .i64 t4x2,.int .i64 t4x3,.nils],.box [.own 2,.int .i64 out,.int .i64 out2,.int .i64 out3,.own 3],.arr [CT.int .i64] o2,.arr [CT.bool] o3]
theorem zs0:L0 k0 (k+1) K=R0 (L0 k0 k K) (H0 K):=by kernel_rfl
theorem zs1:L1 k0 (k+1) K=R1 (L2 k0 k K) (H1 K):=by kernel_rfl
theorem zs2:L2 k0 (k+1) K=R2 (L2 k0 k K) (H2 K):=by kernel_rfl
theorem O5:L3 k0 (k+1) K=R3 (L3 k0 k K) (H3 K):=by kernel_rfl
theorem O4:L4 k0 (k+1) K=R4 (L4 k0 k K) (H3 K):=by kernel_rfl
theorem zs5:L5 k0 (k+1) K=R5 (L5 k0 k K) (H4 K):=by kernel_rfl
def G0{R:Type}(k0:Nat)(hx0:PX R):Nat→Gy R
 |0=>fun _ _ _ _ _ _ _ _ _ _ _ _=>none
 |k+1=>R0 (G0 k0 hx0 k) hx0
theorem aQ:∀ k,L0 k0 k K=G0 k0 (H0 K) k:=bK rfl fun k ih=>by rw[zs0,G0];(try simp only[ih]);try rfl
def G2{R:Type}(k0:Nat)(hx1:vY R)(hx2:vZ R):Nat→vZ R
 |0=>fun _ _ _ _ _ _ _ _ _ _ _ _=>none
 |k+1=>R2 (G2 k0 hx1 hx2 k) hx2
theorem jS:∀ k,L2 k0 k K=G2 k0 (H1 K) (H2 K) k:=bK rfl fun k ih=>by rw[zs2,G2];(try simp only[ih,aQ]);try rfl
def G1{R:Type}(k0:Nat)(hx1:vY R)(hx2:vZ R):Nat→vY R
 |0=>fun _ _ _ _ _ _ _ _ _ _=>none
 |k+1=>R1 (G2 k0 hx1 hx2 k) hx1
theorem dK:∀ k,L1 k0 k K=G1 k0 (H1 K) (H2 K) k:=bK rfl fun k ih=>by rw[zs1,G1];(try simp only[ih,aQ,jS]);try rfl
def G3{R:Type}(k0:Nat)(hx3:Cf R):Nat→Gx R
 |0=>fun _ _ _ _ _ _ _ _ _ _ _ _ _ _=>none
 |k+1=>R3 (G3 k0 hx3 k) hx3
theorem yT:∀ k,L3 k0 k K=G3 k0 (H3 K) k:=bK rfl fun k ih=>by rw[O5,G3];(try simp only[ih,aQ,jS,dK]);try rfl
def G5{R:Type}(k0:Nat)(hx4:PW R):Nat→Gv R
 |0=>fun _ _ _ _ _ _ _ _ _ _ _ _=>none
 |k+1=>R5 (G5 k0 hx4 k) hx4
theorem Yc:∀ k,L5 k0 k K=G5 k0 (H4 K) k:=bK rfl fun k ih=>by rw[zs5,G5];(try simp only[ih,aQ,jS,dK,yT]);try rfl
def G4{R:Type}(k0:Nat)(hx3:Cf R):Nat→Gw R
 |0=>fun _ _ _ _ _ _ _ _ _ _ _ _ _ _ _ _=>none
 |k+1=>R4 (G4 k0 hx3 k) hx3
theorem O6:∀ k,L4 k0 k K=G4 k0 (H3 K) k:=bK rfl fun k ih=>by rw[O4,G4];(try simp only[ih,aQ,jS,dK,yT,Yc]);try rfl
variable (amount:Int) (list:List U9)
def aB:au (U4):=di Tryz.prog [.cell 4 145] KY KL (amount,list,())
theorem aY:H0 (K0 k0 (aB amount list))=A0 (L1 k0 k0 (K1 k0 (aB amount list))) amount list:=by kernel_rfl
theorem dA:H1 (K1 k0 (aB amount list))=A1 (L3 k0 k0 (K2 k0 (aB amount list))) amount list:=by kernel_rfl
theorem lI:H2 (K1 k0 (aB amount list))=A2 (L4 k0 k0 (K2 k0 (aB amount list))) amount list:=by kernel_rfl
theorem oQ:H3 (K2 k0 (aB amount list))=A3 (L5 k0 k0 (K3 k0 (aB amount list))) amount list:=by kernel_rfl
theorem O7:H4 (K3 k0 (aB amount list))=A4 amount list:=by kernel_rfl
def FF:Option (U4):=T (G0 k0 (A0 (G1 k0 (A1 (G3 k0 (A3 (G5 k0 (A4 amount list) k0) amount list) k0) amount list) (A2 (G4 k0 (A3 (G5 k0 (A4 amount list) k0) amount list) k0) amount list) k0) amount list) k0) amount list
theorem aX:dw Tryz.prog (aV dF) aC k0 117 KY KL [] (amount,list,())=FF k0 amount list:=Eq.trans (b:=T (L0 k0 k0 (K0 k0 (aB amount list))) amount list) (by kernel_rfl) (by rw[FF];(try simp only[aQ,jS,dK,yT,Yc,O6,aY,dA,lI,oQ,O7]);try rfl)
end bY
def Ak:=fun x:Int×(List U9)×Unit=>bY.FF (300+x.2.1.length) x.1 x.2.1
abbrev LP:aG:=⟨KY,KL,Ak,[]⟩
theorem abw:aF KN Tryz.prog 117 LP:=dI mix (.c RN (.c aaY (.c ZU (.c abg .nil)))) (by kernel_rfl) fun x=>⟨bY.aC,_,bY.aX _ _ _⟩
abbrev Ji:Is:=[.v true gQ,.v false [CT.int .i64],.v false [CT.int .i64],.w false [CT.sl dM],.w false [CT.sl dM]]
abbrev IL:Os:=[]
namespace jv
def aC:Nat→List Nat×List Nat:=fun k=>if k=4 then([3,4,11,12,13,29,30,31],[4,11,12,13])else if k=9 then([4,11,13,45,46,47],[])else([],[])
def zrc{R:Type}(k0:Nat)(p:List Nat):Env→List Ob→au R→Option R:=bJ Tryz.prog (aV [(116,[],J9),(117,[],LP)]) 64 2 aC k0 (cO p (dH Tryz.prog 94))
def R0{R:Type}(nx0:uD R)(ex0:PU R)(t30x t31x:Int)(groups2 members2:List aH)(own others amounts:List (Int×Unit)):Option R:=cond (decide (t31x<t30x)) (if 0≤t31x∧t31x<(own.length:Int)then if 0≤t31x∧t31x<(amounts.length:Int)then if 0≤(own.getD t31x.toNat (0,())).1∧(own.getD t31x.toNat (0,())).1<(groups2.length:Int)then nx0 t30x (af (t31x+1)) (groups2.set (((own.getD t31x.toNat (0,())).1).toNat) ((groups2.getD (((own.getD t31x.toNat (0,())).1).toNat) (0,0,())).1,(amounts.getD t31x.toNat (0,())).1,())) members2 own others amounts else none else none else none) (ex0 groups2 members2 own others amounts)
def R1{R:Type}(nx1:uD R)(ex1:zo R)(t46x t47x:Int)(o0 members2:List aH)(own amounts t45x:List (Int×Unit)):Option R:=cond (decide (t47x<t46x)) (if 0≤t47x∧t47x<(t45x.length:Int)then if 0≤(af ((own.length:Int)+t47x))∧(af ((own.length:Int)+t47x))<(amounts.length:Int)then if 0≤(t45x.getD t47x.toNat (0,())).1∧(t45x.getD t47x.toNat (0,())).1<(members2.length:Int)then nx1 t46x (af (t47x+1)) o0 (members2.set (((t45x.getD t47x.toNat (0,())).1).toNat) ((members2.getD (((t45x.getD t47x.toNat (0,())).1).toNat) (0,0,())).1,(amounts.getD (((af ((own.length:Int)+t47x))).toNat) (0,())).1,())) own amounts t45x else none else none else none) (ex1 o0 members2)
def A0(lo1:uD ((List aH)×(List aH)×Unit))(f0:Int)(f1 f2:List U8)(id amount:Int)(groups members:List aH)(o0 members2:List aH)(own others amounts:List (Int×Unit)):Option ((List aH)×(List aH)×Unit):=lo1 (others.length:Int) 0 o0 members2 own amounts others
def A1(f0:Int)(f1 f2:List U8)(id amount:Int)(groups members:List aH)(o0 o1:List aH):Option ((List aH)×(List aH)×Unit):=some (o0,o1,())
def T(lo0:uD ((List aH)×(List aH)×Unit))(f0:Int)(f1 f2:List U8)(id amount:Int)(groups members:List aH):Option ((List aH)×(List aH)×Unit):=(Dt (f0,f1,f2,id,())).bind fun y1=>(Ak (amount,y1.1,())).bind fun y2=>lo0 (y1.2.1.length:Int) 0 groups members y1.2.1 y1.2.2.1 y2.1
def K0{R:Type}(k0:Nat)(K:au R):au R:=bg 0 (bG (fun env ob=>zrc k0 [1,1,1,1] env ob (K)) (K))
def K1{R:Type}(k0:Nat)(K:au R):au R:=bg 2 (K)
def L0:uD R:=fun t30x t31x groups2 members2 own others amounts=>iter 2 [3,4,11,12,13,29,30,31] [4,11,12,13] (zrc k0 [1,1,1,0,1,0,0]) k [(3,.own 0),(4,.own 1),(11,.own 2),(12,.own 3),(13,.own 4),(29,.own 2),(30,.int .i64 t30x),(31,.int .i64 t31x)] [.arr dM groups2,.arr dM members2,.arr [CT.int .i64] own,.arr [CT.int .i64] others,.arr [CT.int .i64] amounts] K
def L1:uD R:=fun t46x t47x o0 members2 own amounts t45x=>iter 2 [4,11,13,45,46,47] [] (zrc k0 [1,1,1,1,1,0,0]) k [(4,.own 1),(11,.own 2),(13,.own 3),(45,.own 4),(46,.int .i64 t46x),(47,.int .i64 t47x)] [.arr dM o0,.arr dM members2,.arr [CT.int .i64] own,.arr [CT.int .i64] amounts,.arr [CT.int .i64] t45x] K
def H0:PU R:=fun o0 members2 own others amounts=>K (.exit 0) [(4,.own 1),(11,.own 2),(12,.own 3),(13,.own 4)] [.arr dM o0,.arr dM members2,.arr [CT.int .i64] own,.arr [CT.int .i64] others,.arr [CT.int .i64] amounts]
def H1:zo R:=fun o0 o1=>K (.exit 2) [] [.arr dM o0,.arr dM o1]
theorem zs0:L0 k0 (k+1) K=R0 (L0 k0 k K) (H0 K):=by kernel_rfl
theorem zs1:L1 k0 (k+1) K=R1 (L1 k0 k K) (H1 K):=by kernel_rfl
def G0{R:Type}(k0:Nat)(hx0:PU R):Nat→uD R
 |0=>fun _ _ _ _ _ _ _=>none
 |k+1=>R0 (G0 k0 hx0 k) hx0
theorem aQ:∀ k,L0 k0 k K=G0 k0 (H0 K) k:=bK rfl fun k ih=>by rw[zs0,G0];(try simp only[ih]);try rfl
def G1{R:Type}(k0:Nat)(hx1:zo R):Nat→uD R
 |0=>fun _ _ _ _ _ _ _=>none
 |k+1=>R1 (G1 k0 hx1 k) hx1
theorem dK:∀ k,L1 k0 k K=G1 k0 (H1 K) k:=bK rfl fun k ih=>by rw[zs1,G1];(try simp only[ih,aQ]);try rfl
variable (f0:Int) (f1 f2:List U8) (id amount:Int) (groups members:List aH)
def aB:au ((List aH)×(List aH)×Unit):=di Tryz.prog [] Ji IL (f0,f1,f2,id,amount,groups,members,())
theorem aY:H0 (K0 k0 (aB f0 f1 f2 id amount groups members))=A0 (L1 k0 k0 (K1 k0 (aB f0 f1 f2 id amount groups members))) f0 f1 f2 id amount groups members:=by kernel_rfl
theorem dA:H1 (K1 k0 (aB f0 f1 f2 id amount groups members))=A1 f0 f1 f2 id amount groups members:=by kernel_rfl
def FF:Option ((List aH)×(List aH)×Unit):=T (G0 k0 (A0 (G1 k0 (A1 f0 f1 f2 id amount groups members) k0) f0 f1 f2 id amount groups members) k0) f0 f1 f2 id amount groups members
theorem aX:dw Tryz.prog (aV [(116,[],J9),(117,[],LP)]) aC k0 94 Ji IL [] (f0,f1,f2,id,amount,groups,members,())=FF k0 f0 f1 f2 id amount groups members:=Eq.trans (b:=T (L0 k0 k0 (K0 k0 (aB f0 f1 f2 id amount groups members))) f0 f1 f2 id amount groups members) (by kernel_rfl) (by rw[FF];(try simp only[aQ,dK,aY,dA]);try rfl)
def _root_.Go.Rv.zO:=fun x:Int×(List U8)×(List U8)×Int×Int×(List aH)×(List aH)×Unit=>FF (300+x.2.1.length+x.2.2.1.length+x.2.2.2.2.2.1.length+x.2.2.2.2.2.2.1.length) x.1 x.2.1 x.2.2.1 x.2.2.2.1 x.2.2.2.2.1 x.2.2.2.2.2.1 x.2.2.2.2.2.2.1
abbrev _root_.Go.Rv.J8:aG:=⟨Ji,IL,zO,[]⟩
theorem _root_.Go.Rv.ZW:aF KN Tryz.prog 94 J8:=dI mix (.c ZX (.c abw .nil)) (by kernel_rfl) fun x=>⟨aC,_,aX _ _ _ _ _ _ _ _⟩
end jv
abbrev IB:Is:=[.v true gQ]
abbrev Ih:Os:=[(false,[CT.sl dM]),(false,[CT.sl dM])]
namespace fP
def aC:Nat→List Nat×List Nat:=fun k=>if k=3 then([1,4,5,15,16,17],[1,4,5])else if k=8 then([1,4,5,29,30,31],[1,4,5])else if k=14 then([1,4,5,49,50,51],[4,5])else([],[])
def zrc{R:Type}(k0:Nat)(p:List Nat):Env→List Ob→au R→Option R:=bJ Tryz.prog (aV [(94,[],J8)]) 70 0 aC k0 (cO p (dH Tryz.prog 46))
def R0{R:Type}(nx0:nY R)(ex0:zn R)(t15x:List U8)(t16x t17x f:Int)(f3 f4:List U8)(groups members:List aH):Option R:=cond (decide (t17x<t16x)) (if 0≤t17x∧t17x<(t15x.length:Int)then if groups.length+[((rd (0,0,0,0,()) t15x t17x).1,0,())].length≤maxRow then nx0 t15x t16x (af (t17x+1)) f f3 f4 (groups++[((rd (0,0,0,0,()) t15x t17x).1,0,())]) members else none else none) (ex0 f f3 f4 groups members)
def R1{R:Type}(nx1:nY R)(ex1:zn R)(t29x:List U8)(t30x t31x f:Int)(f3 f4:List U8)(groups members:List aH):Option R:=cond (decide (t31x<t30x)) (if 0≤t31x∧t31x<(t29x.length:Int)then if members.length+[((rd (0,0,0,0,()) t29x t31x).1,0,())].length≤maxRow then nx1 t29x t30x (af (t31x+1)) f f3 f4 groups (members++[((rd (0,0,0,0,()) t29x t31x).1,0,())])else none else none) (ex1 f f3 f4 groups members)
def R2{R:Type}(nx2:nY R)(ex2:zo R)(t49x:List U8)(t50x t51x f:Int)(f3 f4:List U8)(groups members:List aH):Option R:=cond (decide (t51x<t50x)) (if 0≤t51x∧t51x<(t49x.length:Int)then if 0≤t51x∧t51x<(groups.length:Int)then(zO (f,f3,f4,(rd (0,0,0,0,()) t49x t51x).1,(groups.getD t51x.toNat (0,0,())).2.1,groups,members,())).bind fun y1=>nx2 t49x t50x (af (t51x+1)) f f3 f4 y1.1 y1.2.1 else none else none) (ex2 groups members)
def A0(lo1:nY ((List aH)×(List aH)×Unit))(f0:Int)(f1 f2:List U8)(f:Int)(f3 f4:List U8)(groups members:List aH):Option ((List aH)×(List aH)×Unit):=lo1 f4 (f4.length:Int) 0 f f3 f4 groups members
def A1(lo2:nY ((List aH)×(List aH)×Unit))(f0:Int)(f1 f2:List U8)(f:Int)(f3 f4:List U8)(groups members:List aH):Option ((List aH)×(List aH)×Unit):=(zO (f,f3,f4,0,f,groups,members,())).bind fun y1=>lo2 f3 (f3.length:Int) 0 f f3 f4 y1.1 y1.2.1
def A2(f0:Int)(f1 f2:List U8)(groups members:List aH):Option ((List aH)×(List aH)×Unit):=some (groups,members,())
def T(lo0:nY ((List aH)×(List aH)×Unit))(f0:Int)(f1 f2:List U8):Option ((List aH)×(List aH)×Unit):=lo0 f1 (f1.length:Int) 0 f0 f1 f2 ([]:List aH) ([]:List aH)
def K0{R:Type}(k0:Nat)(K:au R):au R:=bg 0 (bG (fun env ob=>zrc k0 [1,1,1] env ob (K)) (K))
def K1{R:Type}(k0:Nat)(K:au R):au R:=bg 2 (bG (fun env ob=>zrc k0 [1,1,1,1] env ob (K)) (K))
def K2{R:Type}(k0:Nat)(K:au R):au R:=bg 4 (bG (fun env ob=>zrc k0 [1,1,1,1,1,1] env ob (K)) (K))
def L0:nY R:=fun t15x t16x t17x f f3 f4 groups members=>iter 0 [1,4,5,15,16,17] [1,4,5] (zrc k0 [1,1,0,1,0,0]) k [(1,.ptr 0 0 0 0),(4,.own 1),(5,.own 2),(15,.sl aA t15x),(16,.int .i64 t16x),(17,.int .i64 t17x)] [.box [.int .i64 f,.sl aA f3,.sl aA f4],.arr dM groups,.arr dM members] K
def L1:nY R:=fun t29x t30x t31x f f3 f4 groups members=>iter 0 [1,4,5,29,30,31] [1,4,5] (zrc k0 [1,1,1,0,1,0,0]) k [(1,.ptr 0 0 0 0),(4,.own 1),(5,.own 2),(29,.sl aA t29x),(30,.int .i64 t30x),(31,.int .i64 t31x)] [.box [.int .i64 f,.sl aA f3,.sl aA f4],.arr dM groups,.arr dM members] K
def L2:nY R:=fun t49x t50x t51x f f3 f4 groups members=>iter 0 [1,4,5,49,50,51] [4,5] (zrc k0 [1,1,1,1,1,0,1,0,0]) k [(1,.ptr 0 0 0 0),(4,.own 1),(5,.own 2),(49,.sl aA t49x),(50,.int .i64 t50x),(51,.int .i64 t51x)] [.box [.int .i64 f,.sl aA f3,.sl aA f4],.arr dM groups,.arr dM members] K
def H0:zn R:=fun f f3 f4 groups members=>K (.exit 0) [(1,.ptr 0 0 0 0),(4,.own 1),(5,.own 2)] [.box [.int .i64 f,.sl aA f3,.sl aA f4],.arr dM groups,.arr dM members]
def H1:zn R:=fun f f3 f4 groups members=>K (.exit 2) [(1,.ptr 0 0 0 0),(4,.own 1),(5,.own 2)] [.box [.int .i64 f,.sl aA f3,.sl aA f4],.arr dM groups,.arr dM members]
def H2:zo R:=fun groups members=>K (.exit 4) [(4,.own 0),(5,.own 1)] [.arr dM groups,.arr dM members]
theorem zs0:L0 k0 (k+1) K=R0 (L0 k0 k K) (H0 K):=by kernel_rfl
theorem zs1:L1 k0 (k+1) K=R1 (L1 k0 k K) (H1 K):=by kernel_rfl
theorem zs2:L2 k0 (k+1) K=R2 (L2 k0 k K) (H2 K):=by kernel_rfl
def G0{R:Type}(k0:Nat)(hx0:zn R):Nat→nY R
 |0=>fun _ _ _ _ _ _ _ _=>none
 |k+1=>R0 (G0 k0 hx0 k) hx0
theorem aQ:∀ k,L0 k0 k K=G0 k0 (H0 K) k:=bK rfl fun k ih=>by rw[zs0,G0];(try simp only[ih]);try rfl
def G1{R:Type}(k0:Nat)(hx1:zn R):Nat→nY R
 |0=>fun _ _ _ _ _ _ _ _=>none
 |k+1=>R1 (G1 k0 hx1 k) hx1
theorem dK:∀ k,L1 k0 k K=G1 k0 (H1 K) k:=bK rfl fun k ih=>by rw[zs1,G1];(try simp only[ih,aQ]);try rfl
def G2{R:Type}(k0:Nat)(hx2:zo R):Nat→nY R
 |0=>fun _ _ _ _ _ _ _ _=>none
 |k+1=>R2 (G2 k0 hx2 k) hx2
theorem jS:∀ k,L2 k0 k K=G2 k0 (H2 K) k:=bK rfl fun k ih=>by rw[zs2,G2];(try simp only[ih,aQ,dK]);try rfl
variable (f0:Int) (f1 f2:List U8)
def aB:au ((List aH)×(List aH)×Unit):=di Tryz.prog [.tmp 2,.tmp 3] IB Ih (f0,f1,f2,())
theorem aY:H0 (K0 k0 (aB f0 f1 f2))=A0 (L1 k0 k0 (K1 k0 (aB f0 f1 f2))) f0 f1 f2:=by kernel_rfl
theorem dA:H1 (K1 k0 (aB f0 f1 f2))=A1 (L2 k0 k0 (K2 k0 (aB f0 f1 f2))) f0 f1 f2:=by kernel_rfl
theorem lI:H2 (K2 k0 (aB f0 f1 f2))=A2 f0 f1 f2:=by kernel_rfl
def FF:Option ((List aH)×(List aH)×Unit):=T (G0 k0 (A0 (G1 k0 (A1 (G2 k0 (A2 f0 f1 f2) k0) f0 f1 f2) k0) f0 f1 f2) k0) f0 f1 f2
theorem aX:dw Tryz.prog (aV [(94,[],J8)]) aC k0 46 IB Ih [] (f0,f1,f2,())=FF k0 f0 f1 f2:=Eq.trans (b:=T (L0 k0 k0 (K0 k0 (aB f0 f1 f2))) f0 f1 f2) (by kernel_rfl) (by rw[FF];(try simp only[aQ,dK,jS,aY,dA,lI]);try rfl)
def _root_.Go.Rv.qx:=fun x:U3=>FF (300+x.2.1.length+x.2.2.1.length) x.1 x.2.1 x.2.2.1
abbrev _root_.Go.Rv.ZJ:aG:=⟨IB,Ih,qx,[]⟩
theorem _root_.Go.Rv.Zp:aF KN Tryz.prog 46 ZJ:=dI mix (.c ZW .nil) (by kernel_rfl) fun x=>⟨aC,_,aX _ _ _ _⟩
end fP
abbrev KC:Is:=[.v false [CT.sl ct0],.v false [CT.int .i64],.v false [CT.int .i64]]
abbrev JQ:Os:=[(false,[CT.int .i64])]
namespace nG
def aC:Nat→List Nat×List Nat:=fun k=>if k=3 then([1,2,7,10,11,12],[7])else([],[])
def zrc{R:Type}(k0:Nat)(p:List Nat):Env→List Ob→au R→Option R:=bJ Tryz.prog (aV []) 32 0 aC k0 (cO p (dH Tryz.prog 47))
def R0{R:Type}(nx0:Gu R)(ex0:Y2 R)(now2 id2 sum:Int)(t10x:List U9)(t11x t12x:Int):Option R:=cond (decide (t12x<t11x)) (if 0≤t12x∧t12x<(t10x.length:Int)then cond (decide ((rd (0,0,0,()) t10x t12x).2.2.1>now2)) (cond ((rd (0,0,0,()) t10x t12x).1 != id2) (nx0 now2 id2 (af (sum+(rd (0,0,0,()) t10x t12x).2.1)) t10x t11x (af (t12x+1))) (nx0 now2 id2 sum t10x t11x (af (t12x+1)))) (nx0 now2 id2 sum t10x t11x (af (t12x+1)))else none) (ex0 sum)
def A0(list:List U9)(now id:Int)(sum:Int):Option (Int×Unit):=some (sum,())
def T(lo0:Gu (Int×Unit))(list:List U9)(now id:Int):Option (Int×Unit):=lo0 now id 0 list (list.length:Int) 0
def K0{R:Type}(k0:Nat)(K:au R):au R:=bg 0 (bG (fun env ob=>zrc k0 [1,1,1] env ob (K)) (K))
def L0:Gu R:=fun now2 id2 sum t10x t11x t12x=>iter 0 [1,2,7,10,11,12] [7] (zrc k0 [1,1,0,1,0,0]) k [(1,.int .i64 now2),(2,.int .i64 id2),(7,.int .i64 sum),(10,.sl ct0 t10x),(11,.int .i64 t11x),(12,.int .i64 t12x)] [] K
def H0:Y2 R:=fun sum=>K (.exit 0) [(7,.int .i64 sum)] []
theorem zs0:L0 k0 (k+1) K=R0 (L0 k0 k K) (H0 K):=by kernel_rfl
def G0{R:Type}(k0:Nat)(hx0:Y2 R):Nat→Gu R
 |0=>fun _ _ _ _ _ _=>none
 |k+1=>R0 (G0 k0 hx0 k) hx0
theorem aQ:∀ k,L0 k0 k K=G0 k0 (H0 K) k:=bK rfl fun k ih=>by rw[zs0,G0];(try simp only[ih]);try rfl
variable (list:List U9) (now id:Int)
def aB:au (Int×Unit):=di Tryz.prog [.tmp 6] KC JQ (list,now,id,())
theorem aY:H0 (K0 k0 (aB list now id))=A0 list now id:=by kernel_rfl
def FF:Option (Int×Unit):=T (G0 k0 (A0 list now id) k0) list now id
theorem aX:dw Tryz.prog (aV []) aC k0 47 KC JQ [] (list,now,id,())=FF k0 list now id:=Eq.trans (b:=T (L0 k0 k0 (K0 k0 (aB list now id))) list now id) (by kernel_rfl) (by rw[FF];(try simp only[aQ,aY]);try rfl)
def _root_.Go.Rv.xg:=fun x:(List U9)×aH=>FF (300+x.1.length) x.1 x.2.1 x.2.2.1
abbrev _root_.Go.Rv.abm:aG:=⟨KC,JQ,xg,[]⟩
theorem _root_.Go.Rv.aaV:aF Dr Tryz.prog 47 abm:=dI mix .nil (by kernel_rfl) fun x=>⟨aC,_,aX _ _ _ _⟩
end nG
def Jm.T(m0 m1 m2 m3 id:Int):Option (Int×Unit):=(qw (m0,id,())).bind fun y1=>some (y1.1,())
def zA:=fun x:U6=>Jm.T x.1 x.2.1 x.2.2.1 x.2.2.2.1 x.2.2.2.2.1
abbrev IE:aG:=⟨[.v true aA,.v false [CT.int .i64]],[(false,[CT.int .i64])],zA,[]⟩
theorem Zd:aF Dr Tryz.prog 104 IE:=bC mix (.c CP .nil) (by kernel_rfl) fun x=>by kernel_rfl
abbrev GI:Is:=[.v false [CT.sl aA],.v false [CT.int .i64],.cl 104 []]
abbrev GH:Os:=[(false,[CT.int .i64]),(false,[CT.bool])]
namespace wu
def aC:Nat→List Nat×List Nat:=fun k=>if k=3 then([0,1,2,8,9,10],[0,1,2,8,9])else([],[])
def zrc{R:Type}(k0:Nat)(p:List Nat):Env→List Ob→au R→Option R:=bJ Tryz.prog (aV [(104,[],IE)]) 49 0 aC k0 (cO p (dH Tryz.prog 103))
def R0{R:Type}(nx0:Y3 R)(ex0:Y4 R)(x2:List U8)(target2 n i j:Int):Option R:=cond (decide (i<j)) (if 0≤(af ((Int.fdiv (IntKind.u64.wrap ((af (i+j)))) (2 ^ 1))))∧(af ((Int.fdiv (IntKind.u64.wrap ((af (i+j)))) (2 ^ 1))))<(x2.length:Int)then(zA ((rd (0,0,0,0,()) x2 (af ((Int.fdiv (IntKind.u64.wrap ((af (i+j)))) (2 ^ 1))))).1,(rd (0,0,0,0,()) x2 (af ((Int.fdiv (IntKind.u64.wrap ((af (i+j)))) (2 ^ 1))))).2.1,(rd (0,0,0,0,()) x2 (af ((Int.fdiv (IntKind.u64.wrap ((af (i+j)))) (2 ^ 1))))).2.2.1,(rd (0,0,0,0,()) x2 (af ((Int.fdiv (IntKind.u64.wrap ((af (i+j)))) (2 ^ 1))))).2.2.2.1,target2,())).bind fun y1=>cond (decide (y1.1<0)) (nx0 x2 target2 n (af ((af ((Int.fdiv (IntKind.u64.wrap ((af (i+j)))) (2 ^ 1))))+1)) j) (nx0 x2 target2 n i (af ((Int.fdiv (IntKind.u64.wrap ((af (i+j)))) (2 ^ 1)))))else none) (ex0 x2 target2 n i)
def A0(x:List U8)(target:Int)(x2:List U8)(target2 n i:Int):Option (Int×Bool×Unit):=cond (decide (i<n)) (if 0≤i∧i<(x2.length:Int)then(zA ((rd (0,0,0,0,()) x2 i).1,(rd (0,0,0,0,()) x2 i).2.1,(rd (0,0,0,0,()) x2 i).2.2.1,(rd (0,0,0,0,()) x2 i).2.2.2.1,target2,())).bind fun y1=>some (i,(y1.1==0),())else none) (some (i,false,()))
def T(lo0:Y3 (Int×Bool×Unit))(x:List U8)(target:Int):Option (Int×Bool×Unit):=lo0 x target (x.length:Int) 0 (x.length:Int)
def K0{R:Type}(k0:Nat)(K:au R):au R:=bg 0 (bG (fun env ob=>zrc k0 [1,1,1,1] env ob (K)) (K))
def L0:Y3 R:=fun x2 target2 n i j=>iter 0 [0,1,2,8,9,10] [0,1,2,8,9] (zrc k0 [1,1,1,0,0,0]) k [(0,.sl aA x2),(1,.int .i64 target2),(2,.fn 104 []),(8,.int .i64 n),(9,.int .i64 i),(10,.int .i64 j)] [] K
def H0:Y4 R:=fun x2 target2 n i=>K (.exit 0) [(0,.sl aA x2),(1,.int .i64 target2),(2,.fn 104 []),(8,.int .i64 n),(9,.int .i64 i)] []
theorem zs0:L0 k0 (k+1) K=R0 (L0 k0 k K) (H0 K):=by kernel_rfl
def G0{R:Type}(k0:Nat)(hx0:Y4 R):Nat→Y3 R
 |0=>fun _ _ _ _ _=>none
 |k+1=>R0 (G0 k0 hx0 k) hx0
theorem aQ:∀ k,L0 k0 k K=G0 k0 (H0 K) k:=bK rfl fun k ih=>by rw[zs0,G0];(try simp only[ih]);try rfl
variable (x:List U8) (target:Int)
def aB:au (Int×Bool×Unit):=di Tryz.prog [.tmp 6,.tmp 7] GI GH (x,target,())
theorem aY:H0 (K0 k0 (aB x target))=A0 x target:=by kernel_rfl
def FF:Option (Int×Bool×Unit):=T (G0 k0 (A0 x target) k0) x target
theorem aX:dw Tryz.prog (aV [(104,[],IE)]) aC k0 103 GI GH [] (x,target,())=FF k0 x target:=Eq.trans (b:=T (L0 k0 k0 (K0 k0 (aB x target))) x target) (by kernel_rfl) (by rw[FF];(try simp only[aQ,aY]);try rfl)
def _root_.Go.Rv.GL:=fun x:(List U8)×Int×Unit=>FF (300+x.1.length) x.1 x.2.1
abbrev _root_.Go.Rv.Yh:aG:=⟨GI,GH,GL,[]⟩
theorem _root_.Go.Rv.Yg:aF Dr Tryz.prog 103 Yh:=dI mix (.c Zd .nil) (by kernel_rfl) fun x=>⟨aC,_,aX _ _ _⟩
end wu
def QL.T(f0:Int)(f1 f2:List U8)(id:Int):Option (Int×Bool×Unit):=(GL (f2,id,())).bind fun y1=>some (y1.1,y1.2.1,())
def oZ:=fun x:Int×(List U8)×(List U8)×Int×Unit=>QL.T x.1 x.2.1 x.2.2.1 x.2.2.2.1
abbrev Qv:aG:=⟨[.v true gQ,.v false [CT.int .i64]],[(false,[CT.int .i64]),(false,[CT.bool])],oZ,[]⟩
theorem CU:aF Dr Tryz.prog 76 Qv:=bC mix (.cf [104] Yg .nil) (by kernel_rfl) fun x=>by kernel_rfl
def Qq.T(f0:Int)(f1 f2:List U8)(id:Int):Option (Bool×Unit):=(qA (f0,f1,f2,id,())).bind fun y1=>cond y1.2.1 (some (true,())) (some ((id==0),()))
def mY:=fun x:Int×(List U8)×(List U8)×Int×Unit=>Qq.T x.1 x.2.1 x.2.2.1 x.2.2.2.1
abbrev Qi:aG:=⟨[.v true gQ,.v false [CT.int .i64]],[(false,[CT.bool])],mY,[]⟩
theorem CO:aF Dr Tryz.prog 92 Qi:=bC mix (.c CW .nil) (by kernel_rfl) fun x=>by kernel_rfl
def Hr.T(s:List U9):Option ((List U9)×Unit):=if s.length=0 then(@ite _ (some ([],())=if([]:List U9).length+s.length≤maxRow then some ((([]:List U9)++s),())else none) (Classical.propDecidable _) (if([]:List U9).length+s.length≤maxRow then some ((([]:List U9)++s),())else none) none)else if([]:List U9).length+s.length≤maxRow then some ((([]:List U9)++s),())else none
def CB:=fun x:(List U9)×Unit=>Hr.T x.1
abbrev YM:aG:=⟨[.v false [CT.sl ct0]],[(false,[CT.sl ct0])],CB,[]⟩
theorem P9:aF Dr Tryz.prog 74 YM:=bC mix .nil (by kernel_rfl) fun x=>by kernel_rfl
def KP.T(l0 l1 l2 id:Int):Option (Int×Unit):=(qw (l0,id,())).bind fun y1=>some (y1.1,())
def zM:=fun x:U8=>KP.T x.1 x.2.1 x.2.2.1 x.2.2.2.1
abbrev J6:aG:=⟨[.v true ct0,.v false [CT.int .i64]],[(false,[CT.int .i64])],zM,[]⟩
theorem ZR:aF Dr Tryz.prog 142 J6:=bC mix (.c CP .nil) (by kernel_rfl) fun x=>by kernel_rfl
abbrev GV:Is:=[.v false [CT.sl ct0],.v false [CT.int .i64],.cl 142 []]
abbrev GR:Os:=[(false,[CT.int .i64]),(false,[CT.bool])]
namespace wB
def aC:Nat→List Nat×List Nat:=fun k=>if k=3 then([0,1,2,8,9,10],[0,1,2,8,9])else([],[])
def zrc{R:Type}(k0:Nat)(p:List Nat):Env→List Ob→au R→Option R:=bJ Tryz.prog (aV [(142,[],J6)]) 49 0 aC k0 (cO p (dH Tryz.prog 141))
def R0{R:Type}(nx0:uz R)(ex0:PS R)(x2:List U9)(target2 n i j:Int):Option R:=cond (decide (i<j)) (if 0≤(af ((Int.fdiv (IntKind.u64.wrap ((af (i+j)))) (2 ^ 1))))∧(af ((Int.fdiv (IntKind.u64.wrap ((af (i+j)))) (2 ^ 1))))<(x2.length:Int)then(zM ((rd (0,0,0,()) x2 (af ((Int.fdiv (IntKind.u64.wrap ((af (i+j)))) (2 ^ 1))))).1,(rd (0,0,0,()) x2 (af ((Int.fdiv (IntKind.u64.wrap ((af (i+j)))) (2 ^ 1))))).2.1,(rd (0,0,0,()) x2 (af ((Int.fdiv (IntKind.u64.wrap ((af (i+j)))) (2 ^ 1))))).2.2.1,target2,())).bind fun y1=>cond (decide (y1.1<0)) (nx0 x2 target2 n (af ((af ((Int.fdiv (IntKind.u64.wrap ((af (i+j)))) (2 ^ 1))))+1)) j) (nx0 x2 target2 n i (af ((Int.fdiv (IntKind.u64.wrap ((af (i+j)))) (2 ^ 1)))))else none) (ex0 x2 target2 n i)
def A0(x:List U9)(target:Int)(x2:List U9)(target2 n i:Int):Option (Int×Bool×Unit):=cond (decide (i<n)) (if 0≤i∧i<(x2.length:Int)then(zM ((rd (0,0,0,()) x2 i).1,(rd (0,0,0,()) x2 i).2.1,(rd (0,0,0,()) x2 i).2.2.1,target2,())).bind fun y1=>some (i,(y1.1==0),())else none) (some (i,false,()))
def T(lo0:uz (Int×Bool×Unit))(x:List U9)(target:Int):Option (Int×Bool×Unit):=lo0 x target (x.length:Int) 0 (x.length:Int)
def K0{R:Type}(k0:Nat)(K:au R):au R:=bg 0 (bG (fun env ob=>zrc k0 [1,1,1,1] env ob (K)) (K))
def L0:uz R:=fun x2 target2 n i j=>iter 0 [0,1,2,8,9,10] [0,1,2,8,9] (zrc k0 [1,1,1,0,0,0]) k [(0,.sl ct0 x2),(1,.int .i64 target2),(2,.fn 142 []),(8,.int .i64 n),(9,.int .i64 i),(10,.int .i64 j)] [] K
def H0:PS R:=fun x2 target2 n i=>K (.exit 0) [(0,.sl ct0 x2),(1,.int .i64 target2),(2,.fn 142 []),(8,.int .i64 n),(9,.int .i64 i)] []
theorem zs0:L0 k0 (k+1) K=R0 (L0 k0 k K) (H0 K):=by kernel_rfl
def G0{R:Type}(k0:Nat)(hx0:PS R):Nat→uz R
 |0=>fun _ _ _ _ _=>none
 |k+1=>R0 (G0 k0 hx0 k) hx0
theorem aQ:∀ k,L0 k0 k K=G0 k0 (H0 K) k:=bK rfl fun k ih=>by rw[zs0,G0];(try simp only[ih]);try rfl
variable (x:List U9) (target:Int)
def aB:au (Int×Bool×Unit):=di Tryz.prog [.tmp 6,.tmp 7] GV GR (x,target,())
theorem aY:H0 (K0 k0 (aB x target))=A0 x target:=by kernel_rfl
def FF:Option (Int×Bool×Unit):=T (G0 k0 (A0 x target) k0) x target
theorem aX:dw Tryz.prog (aV [(142,[],J6)]) aC k0 141 GV GR [] (x,target,())=FF k0 x target:=Eq.trans (b:=T (L0 k0 k0 (K0 k0 (aB x target))) x target) (by kernel_rfl) (by rw[FF];(try simp only[aQ,aY]);try rfl)
def _root_.Go.Rv.GX:=fun x:(List U9)×Int×Unit=>FF (300+x.1.length) x.1 x.2.1
abbrev _root_.Go.Rv.Yl:aG:=⟨GV,GR,GX,[]⟩
theorem _root_.Go.Rv.Yk:aF Dr Tryz.prog 141 Yl:=dI mix (.c ZR .nil) (by kernel_rfl) fun x=>⟨aC,_,aX _ _ _⟩
end wB
def S9.T(list:List U9)(id:Int):Option (Int×Bool×Unit):=(GX (list,id,())).bind fun y1=>some (y1.1,y1.2.1,())
def DL:=fun x:(List U9)×Int×Unit=>S9.T x.1 x.2.1
abbrev aa4:aG:=⟨[.v false [CT.sl ct0],.v false [CT.int .i64]],[(false,[CT.int .i64]),(false,[CT.bool])],DL,[]⟩
theorem aaE:aF Dr Tryz.prog 120 aa4:=bC mix (.cf [142] Yk .nil) (by kernel_rfl) fun x=>by kernel_rfl
def La.T(list:List U9)(l0 l1 l2:Int):Option ((List U9)×Unit):=(CB (list,())).bind fun y1=>(DL (list,l0,())).bind fun y2=>cond y2.2.1 (if 0≤y2.1∧y2.1<(y1.1.length:Int)then some ((y1.1.set ((y2.1).toNat) (l0,l1,l2,())),())else none) ((Cm (y1.1,y2.1,[(l0,l1,l2,())],())).bind fun y3=>some (y3.1,()))
def qC:=fun x:(List U9)×U9=>La.T x.1 x.2.1 x.2.2.1 x.2.2.2.1
abbrev aaM:aG:=⟨[.v false [CT.sl ct0],.v true ct0],[(false,[CT.sl ct0])],qC,[]⟩
theorem aan:aF Dr Tryz.prog 102 aaM:=bC mix (.c P9 (.c aaE (.c YH .nil))) (by kernel_rfl) fun x=>by kernel_rfl
def Du.T(s0 s1 s2 s3:Int)(s4 s5:List U8)(s6:List U9)(o0 o1 o2 o3 o4:Int):Option (Int×Int×Int×U1):=(oZ (s3,s4,s5,o1,())).bind fun y1=>cond (decide (s2<(af (s1+s0)))) (some (0,0,7,s0,s1,s2,s3,s4,s5,s6,())) ((mY (s3,s4,s5,o2,())).bind fun y2=>cond (!y2.1) (some (0,0,4,s0,s1,s2,s3,s4,s5,s6,())) (cond (!y1.2.1) (cond ((s5.length:Int)==60) (some (0,0,6,s0,s1,s2,s3,s4,s5,s6,())) (cond (!y1.2.1) ((l7 (s5,y1.1,[(0,0,0,0,())],())).bind fun y3=>if 0≤y1.1∧y1.1<(y3.1.length:Int)then(qx (s3,s4,(y3.1.set ((y1.1).toNat) (o1,o2,o3,o4,())),())).bind fun y4=>(xg (s6,s2,o1,())).bind fun y5=>if 0≤y1.1∧y1.1<(y4.2.1.length:Int)then(qC (s6,o1,(mn ((y4.2.1.getD ((y1.1).toNat) (0,0,())).2.1) (mx (af (s3 - y5.1)) 0)),(af (s2+s0)),())).bind fun y6=>some ((mn ((y4.2.1.getD ((y1.1).toNat) (0,0,())).2.1) (mx (af (s3 - y5.1)) 0)),(af (s2+s0)),0,s0,s1,s2,s3,s4,(y3.1.set ((y1.1).toNat) (o1,o2,o3,o4,())),y6.1,())else none else none) (if 0≤y1.1∧y1.1<(s5.length:Int)then(qx (s3,s4,(s5.set ((y1.1).toNat) (o1,o2,o3,o4,())),())).bind fun y7=>(xg (s6,s2,o1,())).bind fun y8=>if 0≤y1.1∧y1.1<(y7.2.1.length:Int)then(qC (s6,o1,(mn ((y7.2.1.getD ((y1.1).toNat) (0,0,())).2.1) (mx (af (s3 - y8.1)) 0)),(af (s2+s0)),())).bind fun y9=>some ((mn ((y7.2.1.getD ((y1.1).toNat) (0,0,())).2.1) (mx (af (s3 - y8.1)) 0)),(af (s2+s0)),0,s0,s1,s2,s3,s4,(s5.set ((y1.1).toNat) (o1,o2,o3,o4,())),y9.1,())else none else none))) (cond (!y1.2.1) ((l7 (s5,y1.1,[(0,0,0,0,())],())).bind fun y10=>if 0≤y1.1∧y1.1<(y10.1.length:Int)then(qx (s3,s4,(y10.1.set ((y1.1).toNat) (o1,o2,o3,o4,())),())).bind fun y11=>(xg (s6,s2,o1,())).bind fun y12=>if 0≤y1.1∧y1.1<(y11.2.1.length:Int)then(qC (s6,o1,(mn ((y11.2.1.getD ((y1.1).toNat) (0,0,())).2.1) (mx (af (s3 - y12.1)) 0)),(af (s2+s0)),())).bind fun y13=>some ((mn ((y11.2.1.getD ((y1.1).toNat) (0,0,())).2.1) (mx (af (s3 - y12.1)) 0)),(af (s2+s0)),0,s0,s1,s2,s3,s4,(y10.1.set ((y1.1).toNat) (o1,o2,o3,o4,())),y13.1,())else none else none) (if 0≤y1.1∧y1.1<(s5.length:Int)then(qx (s3,s4,(s5.set ((y1.1).toNat) (o1,o2,o3,o4,())),())).bind fun y14=>(xg (s6,s2,o1,())).bind fun y15=>if 0≤y1.1∧y1.1<(y14.2.1.length:Int)then(qC (s6,o1,(mn ((y14.2.1.getD ((y1.1).toNat) (0,0,())).2.1) (mx (af (s3 - y15.1)) 0)),(af (s2+s0)),())).bind fun y16=>some ((mn ((y14.2.1.getD ((y1.1).toNat) (0,0,())).2.1) (mx (af (s3 - y15.1)) 0)),(af (s2+s0)),0,s0,s1,s2,s3,s4,(s5.set ((y1.1).toNat) (o1,o2,o3,o4,())),y16.1,())else none else none))))
def qy:=fun x:Int×Int×Int×Int×(List U8)×(List U8)×(List U9)×U6=>Du.T x.1 x.2.1 x.2.2.1 x.2.2.2.1 x.2.2.2.2.1 x.2.2.2.2.2.1 x.2.2.2.2.2.2.1 x.2.2.2.2.2.2.2.1 x.2.2.2.2.2.2.2.2.1 x.2.2.2.2.2.2.2.2.2.1 x.2.2.2.2.2.2.2.2.2.2.1 x.2.2.2.2.2.2.2.2.2.2.2.1
abbrev aac:aG:=⟨[.m iZ,.v true fE],[(true,ct0)],qy,[]⟩
theorem ZB:aF KN Tryz.prog 75 aac:=bC mix (.c Zp (.c aaV (.c CU (.c CO (.c P8 (.c aan .nil)))))) (by kernel_rfl) fun x=>by kernel_rfl
def Rk.T(f0:Int)(f1 f2:List U8)(e0 e1 e2 e3 e4:Int):Option (Int×U3):=(oZ (f0,f1,f2,e1,())).bind fun y1=>cond (e0==6) ((qA (f0,f1,f2,e1,())).bind fun y2=>cond y2.2.1 (some (5,f0,f1,f2,())) ((mY (f0,f1,f2,e2,())).bind fun y3=>cond (!y3.1) (some (4,f0,f1,f2,())) (cond (e0==1) (cond ((f2.length:Int)==60) (some (6,f0,f1,f2,())) (cond (e0==6) (cond ((f1.length:Int)==30) (some (6,f0,f1,f2,())) (cond (e0==1) ((l7 (f2,y2.1,[(e1,e2,e3,e4,())],())).bind fun y4=>some (0,f0,f1,y4.1,())) ((mV (f1,y2.1,[(e1,e2,e3,e4,())],())).bind fun y5=>some (0,f0,y5.1,f2,())))) (cond (e0==1) ((l7 (f2,y2.1,[(e1,e2,e3,e4,())],())).bind fun y6=>some (0,f0,f1,y6.1,())) ((mV (f1,y2.1,[(e1,e2,e3,e4,())],())).bind fun y7=>some (0,f0,y7.1,f2,()))))) (cond (e0==6) (cond ((f1.length:Int)==30) (some (6,f0,f1,f2,())) (cond (e0==1) ((l7 (f2,y2.1,[(e1,e2,e3,e4,())],())).bind fun y8=>some (0,f0,f1,y8.1,())) ((mV (f1,y2.1,[(e1,e2,e3,e4,())],())).bind fun y9=>some (0,f0,y9.1,f2,())))) (cond (e0==1) ((l7 (f2,y2.1,[(e1,e2,e3,e4,())],())).bind fun y10=>some (0,f0,f1,y10.1,())) ((mV (f1,y2.1,[(e1,e2,e3,e4,())],())).bind fun y11=>some (0,f0,y11.1,f2,()))))))) (cond y1.2.1 (some (5,f0,f1,f2,())) ((mY (f0,f1,f2,e2,())).bind fun y12=>cond (!y12.1) (some (4,f0,f1,f2,())) (cond (e0==1) (cond ((f2.length:Int)==60) (some (6,f0,f1,f2,())) (cond (e0==6) (cond ((f1.length:Int)==30) (some (6,f0,f1,f2,())) (cond (e0==1) ((l7 (f2,y1.1,[(e1,e2,e3,e4,())],())).bind fun y13=>some (0,f0,f1,y13.1,())) ((mV (f1,y1.1,[(e1,e2,e3,e4,())],())).bind fun y14=>some (0,f0,y14.1,f2,())))) (cond (e0==1) ((l7 (f2,y1.1,[(e1,e2,e3,e4,())],())).bind fun y15=>some (0,f0,f1,y15.1,())) ((mV (f1,y1.1,[(e1,e2,e3,e4,())],())).bind fun y16=>some (0,f0,y16.1,f2,()))))) (cond (e0==6) (cond ((f1.length:Int)==30) (some (6,f0,f1,f2,())) (cond (e0==1) ((l7 (f2,y1.1,[(e1,e2,e3,e4,())],())).bind fun y17=>some (0,f0,f1,y17.1,())) ((mV (f1,y1.1,[(e1,e2,e3,e4,())],())).bind fun y18=>some (0,f0,y18.1,f2,())))) (cond (e0==1) ((l7 (f2,y1.1,[(e1,e2,e3,e4,())],())).bind fun y19=>some (0,f0,f1,y19.1,())) ((mV (f1,y1.1,[(e1,e2,e3,e4,())],())).bind fun y20=>some (0,f0,y20.1,f2,())))))))
def wK:=fun x:Int×(List U8)×(List U8)×U6=>Rk.T x.1 x.2.1 x.2.2.1 x.2.2.2.1 x.2.2.2.2.1 x.2.2.2.2.2.1 x.2.2.2.2.2.2.1 x.2.2.2.2.2.2.2.1
abbrev aaf:aG:=⟨[.m gQ,.v true fE],[(false,[CT.int .i64])],wK,[]⟩
theorem ZE:aF Dr Tryz.prog 110 aaf:=bC mix (.c CU (.c CO (.c P8 (.c CW (.c YI .nil))))) (by kernel_rfl) fun x=>by kernel_rfl
def Ql.T(g0 g1 g2 g3 a0:Int):Option (Bool×Unit):=some ((g1==(a0,()).1),())
def Io:=fun x:U6=>Ql.T x.1 x.2.1 x.2.2.1 x.2.2.2.1 x.2.2.2.2.1
abbrev Ik:aG:=⟨[.v true aA,.r [CT.int .i64]],[(false,[CT.bool])],Io,[]⟩
theorem YZ:aF Dr Tryz.prog 129 Ik:=bC mix .nil (by kernel_rfl) fun x=>by kernel_rfl
abbrev G7:Is:=[.v false [CT.sl aA],.cl 129 [[CT.int .i64]]]
abbrev G6:Os:=[(false,[CT.int .i64])]
namespace wE
def aC:Nat→List Nat×List Nat:=fun k=>if k=2 then([0,1,7,8],[4])else([],[])
def zrc{R:Type}(k0:Nat)(p:List Nat):Env→List Ob→au R→Option R:=bJ Tryz.prog (aV [(129,[],Ik)]) 19 0 aC k0 (cO p (dH Tryz.prog 147))
def R0{R:Type}(nx0:uw R)(ex0:Y2 R)(ex1:eF R)(s2:List U8)(f:Int×Unit)(t7x t8x:Int):Option R:=cond (decide (t8x<t7x)) (if 0≤t8x∧t8x<(s2.length:Int)then(Io ((rd (0,0,0,0,()) s2 t8x).1,(rd (0,0,0,0,()) s2 t8x).2.1,(rd (0,0,0,0,()) s2 t8x).2.2.1,(rd (0,0,0,0,()) s2 t8x).2.2.2.1,f.1,())).bind fun y1=>cond y1.1 (ex0 t8x) (nx0 s2 f t7x (af (t8x+1)))else none) (ex1 ())
def A0(s:List U8)(f0:Int)(t4x:Int):Option (Int×Unit):=some (t4x,())
def A1(s:List U8)(f0:Int)(_u:Unit):Option (Int×Unit):=some ((-1),())
def T(lo0:uw (Int×Unit))(s:List U8)(f0:Int):Option (Int×Unit):=lo0 s (f0,()) (s.length:Int) 0
def K0{R:Type}(k0:Nat)(K:au R):au R:=bg 0 (bG (fun env ob=>zrc k0 [1,1] env ob (K)) (K))
def L0:uw R:=fun s2 f t7x t8x=>iter 0 [0,1,7,8] [4] (zrc k0 [1,0,1,0,0]) k [(0,.sl aA s2),(1,.fn 129 [.eptr [CT.int .i64] f 0]),(7,.int .i64 t7x),(8,.int .i64 t8x)] [] K
def H0:Y2 R:=fun t4x=>K .ret [(4,.int .i64 t4x)] []
def H1:eF R:=fun _=>K (.exit 0) [(4,.undef)] []
theorem zs0:L0 k0 (k+1) K=R0 (L0 k0 k K) (H0 K) (H1 K):=by kernel_rfl
def G0{R:Type}(k0:Nat)(hx0:Y2 R)(hx1:eF R):Nat→uw R
 |0=>fun _ _ _ _=>none
 |k+1=>R0 (G0 k0 hx0 hx1 k) hx0 hx1
theorem aQ:∀ k,L0 k0 k K=G0 k0 (H0 K) (H1 K) k:=bK rfl fun k ih=>by rw[zs0,G0];(try simp only[ih]);try rfl
variable (s:List U8) (f0:Int)
def aB:au (Int×Unit):=di Tryz.prog [.tmp 4] G7 G6 (s,f0,())
theorem aY:H0 (K0 k0 (aB s f0))=A0 s f0:=by kernel_rfl
theorem dA:H1 (K0 k0 (aB s f0))=A1 s f0:=by kernel_rfl
def FF:Option (Int×Unit):=T (G0 k0 (A0 s f0) (A1 s f0) k0) s f0
theorem aX:dw Tryz.prog (aV [(129,[],Ik)]) aC k0 147 G7 G6 [] (s,f0,())=FF k0 s f0:=Eq.trans (b:=T (L0 k0 k0 (K0 k0 (aB s f0))) s f0) (by kernel_rfl) (by rw[FF];(try simp only[aQ,aY,dA]);try rfl)
def _root_.Go.Rv.G9:=fun x:(List U8)×Int×Unit=>FF (300+x.1.length) x.1 x.2.1
abbrev _root_.Go.Rv.Yu:aG:=⟨G7,G6,G9,[]⟩
theorem _root_.Go.Rv.Yt:aF Dr Tryz.prog 147 Yu:=dI mix (.c YZ .nil) (by kernel_rfl) fun x=>⟨aC,_,aX _ _ _⟩
end wE
def P7.T(s:List U8)(f0:Int):Option (Bool×Unit):=(G9 (s,(f0,()).1,())).bind fun y1=>some ((decide (y1.1≥0)),())
def Cj:=fun x:(List U8)×Int×Unit=>P7.T x.1 x.2.1
abbrev Yq:aG:=⟨[.v false [CT.sl aA],.cl 129 [[CT.int .i64]]],[(false,[CT.bool])],Cj,[]⟩
theorem Yo:aF Dr Tryz.prog 128 Yq:=bC mix (.cf [129] Yt .nil) (by kernel_rfl) fun x=>by kernel_rfl
def Qk.T(m0 m1 m2 m3 a0:Int):Option (Bool×Unit):=some ((m1==(a0,()).1),())
def Il:=fun x:U6=>Qk.T x.1 x.2.1 x.2.2.1 x.2.2.2.1 x.2.2.2.2.1
abbrev Ij:aG:=⟨[.v true aA,.r [CT.int .i64]],[(false,[CT.bool])],Il,[]⟩
theorem YX:aF Dr Tryz.prog 131 Ij:=bC mix .nil (by kernel_rfl) fun x=>by kernel_rfl
abbrev GZ:Is:=[.v false [CT.sl aA],.cl 131 [[CT.int .i64]]]
abbrev GY:Os:=[(false,[CT.int .i64])]
namespace wC
def aC:Nat→List Nat×List Nat:=fun k=>if k=2 then([0,1,7,8],[4])else([],[])
def zrc{R:Type}(k0:Nat)(p:List Nat):Env→List Ob→au R→Option R:=bJ Tryz.prog (aV [(131,[],Ij)]) 19 0 aC k0 (cO p (dH Tryz.prog 124))
def R0{R:Type}(nx0:uw R)(ex0:Y2 R)(ex1:eF R)(s2:List U8)(f:Int×Unit)(t7x t8x:Int):Option R:=cond (decide (t8x<t7x)) (if 0≤t8x∧t8x<(s2.length:Int)then(Il ((rd (0,0,0,0,()) s2 t8x).1,(rd (0,0,0,0,()) s2 t8x).2.1,(rd (0,0,0,0,()) s2 t8x).2.2.1,(rd (0,0,0,0,()) s2 t8x).2.2.2.1,f.1,())).bind fun y1=>cond y1.1 (ex0 t8x) (nx0 s2 f t7x (af (t8x+1)))else none) (ex1 ())
def A0(s:List U8)(f0:Int)(t4x:Int):Option (Int×Unit):=some (t4x,())
def A1(s:List U8)(f0:Int)(_u:Unit):Option (Int×Unit):=some ((-1),())
def T(lo0:uw (Int×Unit))(s:List U8)(f0:Int):Option (Int×Unit):=lo0 s (f0,()) (s.length:Int) 0
def K0{R:Type}(k0:Nat)(K:au R):au R:=bg 0 (bG (fun env ob=>zrc k0 [1,1] env ob (K)) (K))
def L0:uw R:=fun s2 f t7x t8x=>iter 0 [0,1,7,8] [4] (zrc k0 [1,0,1,0,0]) k [(0,.sl aA s2),(1,.fn 131 [.eptr [CT.int .i64] f 0]),(7,.int .i64 t7x),(8,.int .i64 t8x)] [] K
def H0:Y2 R:=fun t4x=>K .ret [(4,.int .i64 t4x)] []
def H1:eF R:=fun _=>K (.exit 0) [(4,.undef)] []
theorem zs0:L0 k0 (k+1) K=R0 (L0 k0 k K) (H0 K) (H1 K):=by kernel_rfl
def G0{R:Type}(k0:Nat)(hx0:Y2 R)(hx1:eF R):Nat→uw R
 |0=>fun _ _ _ _=>none
 |k+1=>R0 (G0 k0 hx0 hx1 k) hx0 hx1
theorem aQ:∀ k,L0 k0 k K=G0 k0 (H0 K) (H1 K) k:=bK rfl fun k ih=>by rw[zs0,G0];(try simp only[ih]);try rfl
variable (s:List U8) (f0:Int)
def aB:au (Int×Unit):=di Tryz.prog [.tmp 4] GZ GY (s,f0,())
theorem aY:H0 (K0 k0 (aB s f0))=A0 s f0:=by kernel_rfl
theorem dA:H1 (K0 k0 (aB s f0))=A1 s f0:=by kernel_rfl
def FF:Option (Int×Unit):=T (G0 k0 (A0 s f0) (A1 s f0) k0) s f0
theorem aX:dw Tryz.prog (aV [(131,[],Ij)]) aC k0 124 GZ GY [] (s,f0,())=FF k0 s f0:=Eq.trans (b:=T (L0 k0 k0 (K0 k0 (aB s f0))) s f0) (by kernel_rfl) (by rw[FF];(try simp only[aQ,aY,dA]);try rfl)
def _root_.Go.Rv.G8:=fun x:(List U8)×Int×Unit=>FF (300+x.1.length) x.1 x.2.1
abbrev _root_.Go.Rv.Yr:aG:=⟨GZ,GY,G8,[]⟩
theorem _root_.Go.Rv.Yp:aF Dr Tryz.prog 124 Yr:=dI mix (.c YX .nil) (by kernel_rfl) fun x=>⟨aC,_,aX _ _ _⟩
end wC
def P6.T(s:List U8)(f0:Int):Option (Bool×Unit):=(G8 (s,(f0,()).1,())).bind fun y1=>some ((decide (y1.1≥0)),())
def Ci:=fun x:(List U8)×Int×Unit=>P6.T x.1 x.2.1
abbrev Yn:aG:=⟨[.v false [CT.sl aA],.cl 131 [[CT.int .i64]]],[(false,[CT.bool])],Ci,[]⟩
theorem Ym:aF Dr Tryz.prog 130 Yn:=bC mix (.cf [131] Yp .nil) (by kernel_rfl) fun x=>by kernel_rfl
def QB.T(f0:Int)(f1 f2:List U8)(id:Int):Option (Bool×Unit):=(Cj (f1,id,())).bind fun y1=>cond (!y1.1) ((Ci (f2,id,())).bind fun y2=>some ((!y2.1),())) (some (false,()))
def CV:=fun x:Int×(List U8)×(List U8)×Int×Unit=>QB.T x.1 x.2.1 x.2.2.1 x.2.2.2.1
abbrev Zu:aG:=⟨[.v true gQ,.v false [CT.int .i64]],[(false,[CT.bool])],CV,[]⟩
theorem Zh:aF Dr Tryz.prog 111 Zu:=bC mix (.cf [129] Yo (.cf [131] Ym .nil)) (by kernel_rfl) fun x=>by kernel_rfl
def Dy.T(f0:Int)(f1 f2:List U8)(e0 e1 e2 e3 e4:Int):Option (Int×U3):=(qA (f0,f1,f2,e1,())).bind fun y1=>(oZ (f0,f1,f2,e1,())).bind fun y2=>cond (e0==1) ((wK (f0,f1,f2,e0,e1,e2,e3,e4,())).bind fun y3=>some (y3.1,y3.2.1,y3.2.2.1,y3.2.2.2.1,())) (cond (e0==6) ((wK (f0,f1,f2,e0,e1,e2,e3,e4,())).bind fun y4=>some (y4.1,y4.2.1,y4.2.2.1,y4.2.2.2.1,())) (cond (e0==7) (cond (!y1.2.1) (some (4,f0,f1,f2,())) ((CV (f0,f1,f2,e1,())).bind fun y5=>cond (!y5.1) (some (9,f0,f1,f2,())) ((zu (f1,y1.1,(af (y1.1+1)),())).bind fun y6=>some (0,f0,y6.1,f2,())))) (cond (e0==8) (cond (e1==0) (some (0,e3,f1,f2,())) (cond (!y1.2.1) (some (4,f0,f1,f2,())) (if 0≤y1.1∧y1.1<(f1.length:Int)then some (0,f0,(f1.set ((y1.1).toNat) ((f1.getD ((y1.1).toNat) (0,0,0,0,())).1,(f1.getD ((y1.1).toNat) (0,0,0,0,())).2.1,e3,(f1.getD ((y1.1).toNat) (0,0,0,0,())).2.2.2.1,())),f2,())else none))) (cond (!y2.2.1) (some (4,f0,f1,f2,())) (cond (e0==2) ((He (f2,y2.1,(af (y2.1+1)),())).bind fun y7=>some (0,f0,f1,y7.1,())) (cond (e0==3) (if 0≤y2.1∧y2.1<(f2.length:Int)then some (0,f0,f1,(f2.set ((y2.1).toNat) ((f2.getD ((y2.1).toNat) (0,0,0,0,())).1,(f2.getD ((y2.1).toNat) (0,0,0,0,())).2.1,e3,(f2.getD ((y2.1).toNat) (0,0,0,0,())).2.2.2.1,())),())else none) (cond (e0==4) (if 0≤y2.1∧y2.1<(f2.length:Int)then some (0,f0,f1,(f2.set ((y2.1).toNat) ((f2.getD ((y2.1).toNat) (0,0,0,0,())).1,(f2.getD ((y2.1).toNat) (0,0,0,0,())).2.1,(f2.getD ((y2.1).toNat) (0,0,0,0,())).2.2.1,e3,())),())else none) ((mY (f0,f1,f2,e2,())).bind fun y8=>cond (!y8.1) (some (4,f0,f1,f2,())) (if 0≤y2.1∧y2.1<(f2.length:Int)then some (0,f0,f1,(f2.set ((y2.1).toNat) ((f2.getD ((y2.1).toNat) (0,0,0,0,())).1,e2,(f2.getD ((y2.1).toNat) (0,0,0,0,())).2.2.1,(f2.getD ((y2.1).toNat) (0,0,0,0,())).2.2.2.1,())),())else none)))))))))
def ng:=fun x:Int×(List U8)×(List U8)×U6=>Dy.T x.1 x.2.1 x.2.2.1 x.2.2.2.1 x.2.2.2.2.1 x.2.2.2.2.2.1 x.2.2.2.2.2.2.1 x.2.2.2.2.2.2.2.1
abbrev QX:aG:=⟨[.m gQ,.v true fE],[(false,[CT.int .i64])],ng,[]⟩
theorem ZY:aF Dr Tryz.prog 80 QX:=bC mix (.c CU (.c CO (.c CW (.c ZE (.c Zh (.c YJ (.c YC .nil))))))) (by kernel_rfl) fun x=>by kernel_rfl
def Lr.T(o0 o1 o2 o3 o4:Int):Option (U6):=cond (o0==3) (some (8,o1,o2,o3,o4,())) (cond (o0==6) (some (6,o1,o2,o3,o4,())) (cond (o0==7) (some (7,o1,o2,o3,o4,())) (some (0,o1,o2,o3,o4,()))))
def nC:=fun x:U6=>Lr.T x.1 x.2.1 x.2.2.1 x.2.2.2.1 x.2.2.2.2.1
abbrev Si:aG:=⟨[.v true fE],[(true,fE)],nC,[]⟩
theorem Rf:aF Dr Tryz.prog 72 Si:=bC mix .nil (by kernel_rfl) fun x=>by kernel_rfl
end Go.Rv
end
