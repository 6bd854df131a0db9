/- What functions come to on pure values (printed by a program of ours). -/
import Derived.Test.YtjknhphmhfbghaaGreatLM10
set_option linter.unusedVariables false
set_option linter.unusedSimpArgs false
set_option linter.unusedSectionVars false
set_option maxRecDepth 100000
noncomputable section
namespace Go.Rv
open Go.Proofs
variable {Dr:Kn} {R:Type} (k0 k:Nat) (K:au R)
def Jj.T(g0 g1 g2 g3 id:Int):Option (Int×Unit):=(qf (g0,id,())).bind fun y1=>some (y1.1,())
def zi:=fun x:U6=>Jj.T x.1 x.2.1 x.2.2.1 x.2.2.2.1 x.2.2.2.2.1
abbrev Iu:aG:=⟨[.v true aC,.v false [CT.int .i64]],[(false,[CT.int .i64])],zi,[]⟩
theorem YA:aF Dr Tryz.prog 126 Iu:=bC mix (.c BX .nil) (by kernel_rfl) fun x=>by kernel_rfl
abbrev Gi:Is:=[.v false [CT.sl aC],.v false [CT.int .i64],.cl 126 []]
abbrev Gf:Os:=[(false,[CT.int .i64]),(false,[CT.bool])]
namespace vT
def aB:Nat→List Nat×List Nat:=fun k=>if k=3 then([0,1,2,8,9,10],[0,1,2,8,9])else([],[])
def zrc{R:Type}(k0:Nat)(p:List Nat):Env→List Ob→au R→Option R:=bJ Tryz.prog (aW [(126,[],Iu)]) 49 0 aB k0 (cO p (dI Tryz.prog 125))
def R0{R:Type}(nx0:Y3 R)(ex0:Y4 R)(x2:List U8)(target2 n i j:Int):Option R:=cond (decide (i<j)) (if 0≤(af ((Int.fdiv (IntKind.u64.wrap ((af (i+j)))) (2 ^ 1))))∧(af ((Int.fdiv (IntKind.u64.wrap ((af (i+j)))) (2 ^ 1))))<(x2.length:Int)then(zi ((rd (0,0,0,0,()) x2 (af ((Int.fdiv (IntKind.u64.wrap ((af (i+j)))) (2 ^ 1))))).1,(rd (0,0,0,0,()) x2 (af ((Int.fdiv (IntKind.u64.wrap ((af (i+j)))) (2 ^ 1))))).2.1,(rd (0,0,0,0,()) x2 (af ((Int.fdiv (IntKind.u64.wrap ((af (i+j)))) (2 ^ 1))))).2.2.1,(rd (0,0,0,0,()) x2 (af ((Int.fdiv (IntKind.u64.wrap ((af (i+j)))) (2 ^ 1))))).2.2.2.1,target2,())).bind fun y1=>cond (decide (y1.1<0)) (nx0 x2 target2 n (af ((af ((Int.fdiv (IntKind.u64.wrap ((af (i+j)))) (2 ^ 1))))+1)) j) (nx0 x2 target2 n i (af ((Int.fdiv (IntKind.u64.wrap ((af (i+j)))) (2 ^ 1)))))else none) (ex0 x2 target2 n i)
def A0(x:List U8)(target:Int)(x2:List U8)(target2 n i:Int):Option (Int×Bool×Unit):=cond (decide (i<n)) (if 0≤i∧i<(x2.length:Int)then(zi ((rd (0,0,0,0,()) x2 i).1,(rd (0,0,0,0,()) x2 i).2.1,(rd (0,0,0,0,()) x2 i).2.2.1,(rd (0,0,0,0,()) x2 i).2.2.2.1,target2,())).bind fun y1=>some (i,(y1.1==0),())else none) (some (i,false,()))
def T(lo0:Y3 (Int×Bool×Unit))(x:List U8)(target:Int):Option (Int×Bool×Unit):=lo0 x target (x.length:Int) 0 (x.length:Int)
def K0{R:Type}(k0:Nat)(K:au R):au R:=bF 0 (bI (fun env ob=>zrc k0 [1,1,1,1] env ob (K)) (K))
def L0:Y3 R:=fun x2 target2 n i j=>iter 0 [0,1,2,8,9,10] [0,1,2,8,9] (zrc k0 [1,1,1,0,0,0]) k [(0,.sl aC x2),(1,.int .i64 target2),(2,.fn 126 []),(8,.int .i64 n),(9,.int .i64 i),(10,.int .i64 j)] [] K
def H0:Y4 R:=fun x2 target2 n i=>K (.exit 0) [(0,.sl aC x2),(1,.int .i64 target2),(2,.fn 126 []),(8,.int .i64 n),(9,.int .i64 i)] []
theorem zs0:L0 k0 (k+1) K=R0 (L0 k0 k K) (H0 K):=by kernel_rfl
def G0{R:Type}(k0:Nat)(hx0:Y4 R):Nat→Y3 R
 |0=>fun _ _ _ _ _=>none
 |k+1=>R0 (G0 k0 hx0 k) hx0
theorem aS:∀ k,L0 k0 k K=G0 k0 (H0 K) k:=bP rfl fun k ih=>by rw[zs0,G0];(try simp only[ih]);try rfl
variable (x:List U8) (target:Int)
def aA:au (Int×Bool×Unit):=dw Tryz.prog [.tmp 6,.tmp 7] Gi Gf (x,target,())
theorem bf:H0 (K0 k0 (aA x target))=A0 x target:=by kernel_rfl
def FF:Option (Int×Bool×Unit):=T (G0 k0 (A0 x target) k0) x target
theorem aZ:dA Tryz.prog (aW [(126,[],Iu)]) aB k0 125 Gi Gf [] (x,target,())=FF k0 x target:=Eq.trans (b:=T (L0 k0 k0 (K0 k0 (aA x target))) x target) (by kernel_rfl) (by rw[FF];(try simp only[aS,bf]);try rfl)
def _root_.Go.Rv.Gl:=fun x:(List U8)×Int×Unit=>FF (300+x.1.length) x.1 x.2.1
abbrev _root_.Go.Rv.XI:aG:=⟨Gi,Gf,Gl,[]⟩
theorem _root_.Go.Rv.XH:aF Dr Tryz.prog 125 XI:=dJ mix (.c YA .nil) (by kernel_rfl) fun x=>⟨aB,_,aZ _ _ _⟩
end vT
def JW.T(f0:Int)(f1 f2:List U8)(id:Int):Option (Int×Bool×Unit):=(Gl (f1,id,())).bind fun y1=>some (y1.1,y1.2.1,())
def qi:=fun x:Int×(List U8)×(List U8)×Int×Unit=>JW.T x.1 x.2.1 x.2.2.1 x.2.2.2.1
abbrev ZA:aG:=⟨[.v true gI,.v false [CT.int .i64]],[(false,[CT.int .i64]),(false,[CT.bool])],qi,[]⟩
theorem Ci:aF Dr Tryz.prog 109 ZA:=bC mix (.cf [126] XH .nil) (by kernel_rfl) fun x=>by kernel_rfl
def Ro.T(f0:Int)(f1 f2:List U8)(id:Int):Option (Int×Unit):=cond (id==0) (some (f0,())) ((qi (f0,f1,f2,id,())).bind fun y1=>if 0≤y1.1∧y1.1<(f1.length:Int)then some ((rd (0,0,0,0,()) f1 y1.1).2.2.1,())else none)
def zI:=fun x:Int×(List U8)×(List U8)×Int×Unit=>Ro.T x.1 x.2.1 x.2.2.1 x.2.2.2.1
abbrev QL:aG:=⟨[.v true gI,.v false [CT.int .i64]],[(false,[CT.int .i64])],zI,[]⟩
theorem ZL:aF Dr Tryz.prog 153 QL:=bC mix (.c Ci .nil) (by kernel_rfl) fun x=>by kernel_rfl
abbrev oN:Is:=[.v true gI,.v false [CT.int .i64]]
abbrev oM:Os:=[(false,[CT.int .i64])]
namespace jr
def dG(rc:Int×(List U8)×(List U8)×Int×Unit→Option (Int×Unit)):dV:=aW [(134,[],⟨oN,oM,rc,[]⟩),(153,[],QL)]
def EK:Code:=((Tryz.prog.funcs[134]?).bind (·.body)).getD .skip
def aB:Nat→List Nat×List Nat:=fun k=>if k=3 then([1,2,5,11,12,13],[1,2,5])else if k=9 then([1,2,5,29,30,31],[1,2,5])else([],[])
def R0{R:Type}(rc:Int×(List U8)×(List U8)×Int×Unit→Option (Int×Unit))(nx0:(Int→Int→(List U8)→Int→Int→Int→(List U8)→(List U8)→Option R))(ex0:(Int→Int→Int→(List U8)→(List U8)→Option R))(id2 sum:Int)(t11x:List U8)(t12x t13x f:Int)(f3 f4:List U8):Option R:=cond (decide (t13x<t12x)) (if 0≤t13x∧t13x<(t11x.length:Int)then cond ((rd (0,0,0,0,()) t11x t13x).2.1==id2) ((rc (f,f3,f4,(rd (0,0,0,0,()) t11x t13x).1,())).bind fun y1=>nx0 id2 (af (sum+y1.1)) t11x t12x (af (t13x+1)) f f3 f4) (nx0 id2 sum t11x t12x (af (t13x+1)) f f3 f4)else none) (ex0 id2 sum f f3 f4)
def R1{R:Type}(rc:Int×(List U8)×(List U8)×Int×Unit→Option (Int×Unit))(nx1:(Int→Int→(List U8)→Int→Int→Int→(List U8)→(List U8)→Option R))(ex1:(Int→Int→Int→(List U8)→(List U8)→Option R))(id2 sum:Int)(t29x:List U8)(t30x t31x f:Int)(f3 f4:List U8):Option R:=cond (decide (t31x<t30x)) (if 0≤t31x∧t31x<(t29x.length:Int)then cond ((rd (0,0,0,0,()) t29x t31x).2.1==id2) (nx1 id2 (af (sum+(rd (0,0,0,0,()) t29x t31x).2.2.1)) t29x t30x (af (t31x+1)) f f3 f4) (nx1 id2 sum t29x t30x (af (t31x+1)) f f3 f4)else none) (ex1 id2 sum f f3 f4)
def A0(rc:Int×(List U8)×(List U8)×Int×Unit→Option (Int×Unit))(lo1:(Int→Int→(List U8)→Int→Int→Int→(List U8)→(List U8)→Option (Int×Unit)))(f0:Int)(f1 f2:List U8)(id:Int)(id2 sum f:Int)(f3 f4:List U8):Option (Int×Unit):=lo1 id2 sum f4 (f4.length:Int) 0 f f3 f4
def A1(rc:Int×(List U8)×(List U8)×Int×Unit→Option (Int×Unit))(f0:Int)(f1 f2:List U8)(id:Int)(id2 sum f:Int)(f3 f4:List U8):Option (Int×Unit):=(zI (f,f3,f4,id2,())).bind fun y1=>some ((mn sum y1.1),())
def T(rc:Int×(List U8)×(List U8)×Int×Unit→Option (Int×Unit))(lo0:(Int→Int→(List U8)→Int→Int→Int→(List U8)→(List U8)→Option (Int×Unit)))(f0:Int)(f1 f2:List U8)(id:Int):Option (Int×Unit):=lo0 id 0 f1 (f1.length:Int) 0 f0 f1 f2
def aeI{R:Type}(rc:Int×(List U8)×(List U8)×Int×Unit→Option (Int×Unit))(k0:Nat):Env→List Ob→au R→Option R:=fun env ob K=>bJ Tryz.prog (dG rc) 49 0 aB k0 (cO [1,1,0,1,0,0] EK) env ob K
def K0{R:Type}(rc:Int×(List U8)×(List U8)×Int×Unit→Option (Int×Unit))(k0:Nat)(K:au R):au R:=bF 0 (bI (fun env ob=>bJ Tryz.prog (dG rc) 49 0 aB k0 (cO [1,1,1] EK) env ob (K)) (K))
def aeH{R:Type}(rc:Int×(List U8)×(List U8)×Int×Unit→Option (Int×Unit))(k0:Nat):Env→List Ob→au R→Option R:=fun env ob K=>bJ Tryz.prog (dG rc) 49 0 aB k0 (cO [1,1,1,0,1,0,0] EK) env ob K
def K1{R:Type}(rc:Int×(List U8)×(List U8)×Int×Unit→Option (Int×Unit))(k0:Nat)(K:au R):au R:=bF 2 (bI (fun env ob=>bJ Tryz.prog (dG rc) 49 0 aB k0 (cO [1,1,1,1] EK) env ob (K)) (K))
def L0{R:Type}(rc:Int×(List U8)×(List U8)×Int×Unit→Option (Int×Unit))(k0 k:Nat)(K:au R)(id2 sum:Int)(t11x:List U8)(t12x t13x f:Int)(f3 f4:List U8):Option R:=iter 0 [1,2,5,11,12,13] [1,2,5] (aeI rc k0) k [(1,.int .i64 id2),(2,.ptr 0 0 0 0),(5,.int .i64 sum),(11,.sl aC t11x),(12,.int .i64 t12x),(13,.int .i64 t13x)] [.box [.int .i64 f,.sl aC f3,.sl aC f4]] K
def L1{R:Type}(rc:Int×(List U8)×(List U8)×Int×Unit→Option (Int×Unit))(k0 k:Nat)(K:au R)(id2 sum:Int)(t29x:List U8)(t30x t31x f:Int)(f3 f4:List U8):Option R:=iter 0 [1,2,5,29,30,31] [1,2,5] (aeH rc k0) k [(1,.int .i64 id2),(2,.ptr 0 0 0 0),(5,.int .i64 sum),(29,.sl aC t29x),(30,.int .i64 t30x),(31,.int .i64 t31x)] [.box [.int .i64 f,.sl aC f3,.sl aC f4]] K
theorem zs0{R:Type}(rc:Int×(List U8)×(List U8)×Int×Unit→Option (Int×Unit))(k0 k:Nat)(K:au R)(id2 sum:Int)(t11x:List U8)(t12x t13x f:Int)(f3 f4:List U8):L0 rc k0 (k+1) K id2 sum t11x t12x t13x f f3 f4=R0 rc (L0 rc k0 k K) (fun id2 sum f f3 f4=>K (.exit 0) [(1,.int .i64 id2),(2,.ptr 0 0 0 0),(5,.int .i64 sum)] [.box [.int .i64 f,.sl aC f3,.sl aC f4]]) id2 sum t11x t12x t13x f f3 f4:=by kernel_rfl
theorem zs1{R:Type}(rc:Int×(List U8)×(List U8)×Int×Unit→Option (Int×Unit))(k0 k:Nat)(K:au R)(id2 sum:Int)(t29x:List U8)(t30x t31x f:Int)(f3 f4:List U8):L1 rc k0 (k+1) K id2 sum t29x t30x t31x f f3 f4=R1 rc (L1 rc k0 k K) (fun id2 sum f f3 f4=>K (.exit 2) [(1,.int .i64 id2),(2,.ptr 0 0 0 0),(5,.int .i64 sum)] [.box [.int .i64 f,.sl aC f3,.sl aC f4]]) id2 sum t29x t30x t31x f f3 f4:=by kernel_rfl
theorem bf(rc:Int×(List U8)×(List U8)×Int×Unit→Option (Int×Unit))(k0:Nat)(f0:Int)(f1 f2:List U8)(id:Int)(id2 sum f:Int)(f3 f4:List U8):K0 (R:=(Int×Unit)) rc k0 (dw Tryz.prog [.tmp 4] oN oM (f0,f1,f2,id,())) (.exit 0) [(1,.int .i64 id2),(2,.ptr 0 0 0 0),(5,.int .i64 sum)] [.box [.int .i64 f,.sl aC f3,.sl aC f4]]=A0 rc (L1 (R:=(Int×Unit)) rc k0 k0 (K1 (R:=(Int×Unit)) rc k0 ((dw Tryz.prog [.tmp 4] oN oM (f0,f1,f2,id,()))))) f0 f1 f2 id id2 sum f f3 f4:=by kernel_rfl
theorem dB(rc:Int×(List U8)×(List U8)×Int×Unit→Option (Int×Unit))(k0:Nat)(f0:Int)(f1 f2:List U8)(id:Int)(id2 sum f:Int)(f3 f4:List U8):K1 (R:=(Int×Unit)) rc k0 (dw Tryz.prog [.tmp 4] oN oM (f0,f1,f2,id,())) (.exit 2) [(1,.int .i64 id2),(2,.ptr 0 0 0 0),(5,.int .i64 sum)] [.box [.int .i64 f,.sl aC f3,.sl aC f4]]=A1 rc f0 f1 f2 id id2 sum f f3 f4:=by kernel_rfl
theorem aeG(rc:Int×(List U8)×(List U8)×Int×Unit→Option (Int×Unit))(k0:Nat)(f0:Int)(f1 f2:List U8)(id:Int):dA Tryz.prog (dG rc) aB k0 134 oN oM [] (f0,f1,f2,id,())=T rc (L0 (R:=(Int×Unit)) rc k0 k0 (K0 (R:=(Int×Unit)) rc k0 ((dw Tryz.prog [.tmp 4] oN oM (f0,f1,f2,id,()))))) f0 f1 f2 id:=by kernel_rfl
def G0{R:Type}(rc:Int×(List U8)×(List U8)×Int×Unit→Option (Int×Unit))(k0:Nat)(hx0:(Int→Int→Int→(List U8)→(List U8)→Option R)):Nat→Int→Int→(List U8)→Int→Int→Int→(List U8)→(List U8)→Option R
 |0,_,_,_,_,_,_,_,_=>none
 |k+1,id2,sum,t11x,t12x,t13x,f,f3,f4=>R0 rc (G0 rc k0 hx0 k) hx0 id2 sum t11x t12x t13x f f3 f4
theorem aS{R:Type}(rc:Int×(List U8)×(List U8)×Int×Unit→Option (Int×Unit))(k0:Nat)(K:au R):∀ k:Nat,L0 rc k0 k K=G0 rc k0 (fun id2 sum f f3 f4=>K (.exit 0) [(1,.int .i64 id2),(2,.ptr 0 0 0 0),(5,.int .i64 sum)] [.box [.int .i64 f,.sl aC f3,.sl aC f4]]) k:=by
 intro k
 induction k with
 |zero=>funext id2 sum t11x t12x t13x f f3 f4;rfl
 |succ k ih=>funext id2 sum t11x t12x t13x f f3 f4;rw[zs0,G0];(try simp only[ih]);try rfl
def G1{R:Type}(rc:Int×(List U8)×(List U8)×Int×Unit→Option (Int×Unit))(k0:Nat)(hx1:(Int→Int→Int→(List U8)→(List U8)→Option R)):Nat→Int→Int→(List U8)→Int→Int→Int→(List U8)→(List U8)→Option R
 |0,_,_,_,_,_,_,_,_=>none
 |k+1,id2,sum,t29x,t30x,t31x,f,f3,f4=>R1 rc (G1 rc k0 hx1 k) hx1 id2 sum t29x t30x t31x f f3 f4
theorem dP{R:Type}(rc:Int×(List U8)×(List U8)×Int×Unit→Option (Int×Unit))(k0:Nat)(K:au R):∀ k:Nat,L1 rc k0 k K=G1 rc k0 (fun id2 sum f f3 f4=>K (.exit 2) [(1,.int .i64 id2),(2,.ptr 0 0 0 0),(5,.int .i64 sum)] [.box [.int .i64 f,.sl aC f3,.sl aC f4]]) k:=by
 intro k
 induction k with
 |zero=>funext id2 sum t29x t30x t31x f f3 f4;rfl
 |succ k ih=>funext id2 sum t29x t30x t31x f f3 f4;rw[zs1,G1];(try simp only[ih,aS]);try rfl
def FF(rc:Int×(List U8)×(List U8)×Int×Unit→Option (Int×Unit))(k0:Nat)(f0:Int)(f1 f2:List U8)(id:Int):Option (Int×Unit):=T rc (G0 rc k0 (A0 rc (G1 rc k0 (A1 rc f0 f1 f2 id) k0) f0 f1 f2 id) k0) f0 f1 f2 id
theorem aZ(rc:Int×(List U8)×(List U8)×Int×Unit→Option (Int×Unit))(k0:Nat)(f0:Int)(f1 f2:List U8)(id:Int):dA Tryz.prog (dG rc) aB k0 134 oN oM [] (f0,f1,f2,id,())=FF rc k0 f0 f1 f2 id:=by
 rw[aeG,FF];(try simp only[aS,dP,bf,dB]);try rfl
def _root_.Go.Rv.uf:Nat→Int×(List U8)×(List U8)×Int×Unit→Option (Int×Unit)
 |0,_=>none
 |n+1,x=>(fun(f0:Int) (f1 f2:List U8) (id:Int)=>FF (uf n) (300+f1.length+f2.length) f0 f1 f2 id) x.1 x.2.1 x.2.2.1 x.2.2.2.1
def _root_.Go.Rv.JJ:Int×(List U8)×(List U8)×Int×Unit→Option (Int×Unit):=fun x=>(fun(f0:Int) (f1 f2:List U8) (id:Int)=>uf (300+f1.length+f2.length) x) x.1 x.2.1 x.2.2.1 x.2.2.2.1
theorem adH(rc:Int×(List U8)×(List U8)×Int×Unit→Option (Int×Unit))(hr:aF Dr Tryz.prog 134 ⟨oN,oM,rc,[]⟩):∀ g fs S,(dG rc) g fs=some S→aF Dr Tryz.prog g S:=MZ (.cons hr (.cons ZL .nil))
abbrev _root_.Go.Rv.JG:aG:=⟨oN,oM,JJ,[]⟩
theorem _root_.Go.Rv.PK:∀ n,aF Dr Tryz.prog 134 ⟨oN,oM,uf n,[]⟩
 |0=>⟨fun args w=>jQ (by kernel_rfl) args w,fun w T J x y vals avals _ _ _ _ h=>by cases h⟩
 |n+1=>Md (by kernel_rfl) (adH (uf n) (PK n)) (by kernel_rfl) fun x y h=>⟨aB,_,(aZ (uf n) _ x.1 x.2.1 x.2.2.1 x.2.2.2.1).trans h⟩
theorem _root_.Go.Rv.Zo:aF Dr Tryz.prog 134 JG:=⟨fun args w=>jQ (by kernel_rfl) args w,fun w T J x y vals avals h1 h2 h3 h4 h5 h6=>(PK _).2 w T J x y vals avals h1 h2 h3 h4 h5 h6⟩
end jr
abbrev IJ:Is:=[.v true gI,.v false [CT.int .i64]]
abbrev Ij:Os:=[(false,[CT.sl ct0]),(false,[CT.sl [CT.int .i64]]),(false,[CT.sl [CT.int .i64]])]
namespace iU
def aB:Nat→List Nat×List Nat:=fun k=>if k=3 then([1,2,7,8,9,18,19,20],[1,2,7,8,9])else if k=9 then([1,7,8,9,48,49,50],[7,8,9])else([],[])
def zrc{R:Type}(k0:Nat)(p:List Nat):Env→List Ob→au R→Option R:=bJ Tryz.prog (aW [(134,[],JG)]) 78 0 aB k0 (cO p (dI Tryz.prog 116))
def R0{R:Type}(nx0:Y5 R)(ex0:Y6 R)(id2:Int)(t18x:List U8)(t19x t20x f:Int)(f3 f4:List U8)(items:List U9)(groups members:List (Int×Unit)):Option R:=cond (decide (t20x<t19x)) (if 0≤t20x∧t20x<(t18x.length:Int)then cond ((rd (0,0,0,0,()) t18x t20x).2.1==id2) ((JJ (f,f3,f4,(rd (0,0,0,0,()) t18x t20x).1,())).bind fun y1=>if items.length+[((af ((items.length:Int)+1)),y1.1,(rd (0,0,0,0,()) t18x t20x).2.2.2.1,())].length≤maxRow then if groups.length+[(t20x,())].length≤maxRow then nx0 id2 t18x t19x (af (t20x+1)) f f3 f4 (items++[((af ((items.length:Int)+1)),y1.1,(rd (0,0,0,0,()) t18x t20x).2.2.2.1,())]) (groups++[(t20x,())]) members else none else none) (nx0 id2 t18x t19x (af (t20x+1)) f f3 f4 items groups members)else none) (ex0 id2 f f3 f4 items groups members)
def R1{R:Type}(nx1:Y7 R)(ex1:Y8 R)(id2:Int)(t48x:List U8)(t49x t50x:Int)(items:List U9)(groups members:List (Int×Unit)):Option R:=cond (decide (t50x<t49x)) (if 0≤t50x∧t50x<(t48x.length:Int)then cond ((rd (0,0,0,0,()) t48x t50x).2.1==id2) (if items.length+[((af ((items.length:Int)+1)),(rd (0,0,0,0,()) t48x t50x).2.2.1,(rd (0,0,0,0,()) t48x t50x).2.2.2.1,())].length≤maxRow then if members.length+[(t50x,())].length≤maxRow then nx1 id2 t48x t49x (af (t50x+1)) (items++[((af ((items.length:Int)+1)),(rd (0,0,0,0,()) t48x t50x).2.2.1,(rd (0,0,0,0,()) t48x t50x).2.2.2.1,())]) groups (members++[(t50x,())])else none else none) (nx1 id2 t48x t49x (af (t50x+1)) items groups members)else none) (ex1 items groups members)
def A0(lo1:Y7 ((List U9)×(List (Int×Unit))×(List (Int×Unit))×Unit))(f0:Int)(f1 f2:List U8)(id:Int)(id2 f:Int)(f3 f4:List U8)(items:List U9)(groups members:List (Int×Unit)):Option ((List U9)×(List (Int×Unit))×(List (Int×Unit))×Unit):=lo1 id2 f4 (f4.length:Int) 0 items groups members
def A1(f0:Int)(f1 f2:List U8)(id:Int)(items:List U9)(groups members:List (Int×Unit)):Option ((List U9)×(List (Int×Unit))×(List (Int×Unit))×Unit):=some (items,groups,members,())
def T(lo0:Y5 ((List U9)×(List (Int×Unit))×(List (Int×Unit))×Unit))(f0:Int)(f1 f2:List U8)(id:Int):Option ((List U9)×(List (Int×Unit))×(List (Int×Unit))×Unit):=lo0 id f1 (f1.length:Int) 0 f0 f1 f2 ([]:List U9) ([]:List (Int×Unit)) ([]:List (Int×Unit))
def K0{R:Type}(k0:Nat)(K:au R):au R:=bF 0 (bI (fun env ob=>zrc k0 [1,1,1] env ob (K)) (K))
def K1{R:Type}(k0:Nat)(K:au R):au R:=bF 2 (bI (fun env ob=>zrc k0 [1,1,1,1] env ob (K)) (K))
def L0:Y5 R:=fun id2 t18x t19x t20x f f3 f4 items groups members=>iter 0 [1,2,7,8,9,18,19,20] [1,2,7,8,9] (zrc k0 [1,1,0,1,0,0]) k [(1,.int .i64 id2),(2,.ptr 0 0 0 0),(7,.own 1),(8,.own 2),(9,.own 3),(18,.sl aC t18x),(19,.int .i64 t19x),(20,.int .i64 t20x)] [.box [.int .i64 f,.sl aC f3,.sl aC f4],.arr ct0 items,.arr [CT.int .i64] groups,.arr [CT.int .i64] members] K
def L1:Y7 R:=fun id2 t48x t49x t50x items groups members=>iter 0 [1,7,8,9,48,49,50] [7,8,9] (zrc k0 [1,1,1,0,1,0,0]) k [(1,.int .i64 id2),(7,.own 0),(8,.own 1),(9,.own 2),(48,.sl aC t48x),(49,.int .i64 t49x),(50,.int .i64 t50x)] [.arr ct0 items,.arr [CT.int .i64] groups,.arr [CT.int .i64] members] K
def H0:Y6 R:=fun id2 f f3 f4 items groups members=>K (.exit 0) [(1,.int .i64 id2),(2,.ptr 0 0 0 0),(7,.own 1),(8,.own 2),(9,.own 3)] [.box [.int .i64 f,.sl aC f3,.sl aC f4],.arr ct0 items,.arr [CT.int .i64] groups,.arr [CT.int .i64] members]
def H1:Y8 R:=fun items groups members=>K (.exit 2) [(7,.own 0),(8,.own 1),(9,.own 2)] [.arr ct0 items,.arr [CT.int .i64] groups,.arr [CT.int .i64] members]
theorem zs0:L0 k0 (k+1) K=R0 (L0 k0 k K) (H0 K):=by kernel_rfl
theorem zs1:L1 k0 (k+1) K=R1 (L1 k0 k K) (H1 K):=by kernel_rfl
def G0{R:Type}(k0:Nat)(hx0:Y6 R):Nat→Y5 R
 |0=>fun _ _ _ _ _ _ _ _ _ _=>none
 |k+1=>R0 (G0 k0 hx0 k) hx0
theorem aS:∀ k,L0 k0 k K=G0 k0 (H0 K) k:=bP rfl fun k ih=>by rw[zs0,G0];(try simp only[ih]);try rfl
def G1{R:Type}(k0:Nat)(hx1:Y8 R):Nat→Y7 R
 |0=>fun _ _ _ _ _ _ _=>none
 |k+1=>R1 (G1 k0 hx1 k) hx1
theorem dP:∀ k,L1 k0 k K=G1 k0 (H1 K) k:=bP rfl fun k ih=>by rw[zs1,G1];(try simp only[ih,aS]);try rfl
variable (f0:Int) (f1 f2:List U8) (id:Int)
def aA:au ((List U9)×(List (Int×Unit))×(List (Int×Unit))×Unit):=dw Tryz.prog [.tmp 4,.tmp 5,.tmp 6] IJ Ij (f0,f1,f2,id,())
theorem bf:H0 (K0 k0 (aA f0 f1 f2 id))=A0 (L1 k0 k0 (K1 k0 (aA f0 f1 f2 id))) f0 f1 f2 id:=by kernel_rfl
theorem dB:H1 (K1 k0 (aA f0 f1 f2 id))=A1 f0 f1 f2 id:=by kernel_rfl
def FF:Option ((List U9)×(List (Int×Unit))×(List (Int×Unit))×Unit):=T (G0 k0 (A0 (G1 k0 (A1 f0 f1 f2 id) k0) f0 f1 f2 id) k0) f0 f1 f2 id
theorem aZ:dA Tryz.prog (aW [(134,[],JG)]) aB k0 116 IJ Ij [] (f0,f1,f2,id,())=FF k0 f0 f1 f2 id:=Eq.trans (b:=T (L0 k0 k0 (K0 k0 (aA f0 f1 f2 id))) f0 f1 f2 id) (by kernel_rfl) (by rw[FF];(try simp only[aS,dP,bf,dB]);try rfl)
def _root_.Go.Rv.CX:=fun x:Int×(List U8)×(List U8)×Int×Unit=>FF (300+x.2.1.length+x.2.2.1.length) x.1 x.2.1 x.2.2.1 x.2.2.2.1
abbrev _root_.Go.Rv.JI:aG:=⟨IJ,Ij,CX,[]⟩
theorem _root_.Go.Rv.Zq:aF Dr Tryz.prog 116 JI:=dJ mix (.c Zo .nil) (by kernel_rfl) fun x=>⟨aB,_,aZ _ _ _ _ _⟩
end iU
abbrev GH:Is:=[.v false [CT.sl ct0],.v true ct0]
abbrev Gy:Os:=[(false,[CT.int .i64])]
namespace qX
def aB:Nat→List Nat×List Nat:=fun k=>if k=2 then([0,3,7,8],[4])else([],[])
def zrc{R:Type}(k0:Nat)(p:List Nat):Env→List Ob→au R→Option R:=bJ Tryz.prog (aW []) 19 0 aB k0 (cO p (dI Tryz.prog 137))
def R0{R:Type}(nx0:Y9 R)(ex0:Y2 R)(ex1:eY R)(s2:List U9)(t7x t8x v v3 v4:Int):Option R:=cond (decide (t8x<t7x)) (if 0≤t8x∧t8x<(s2.length:Int)then cond ((v==(rd (0,0,0,()) s2 t8x).1)&&((v3==(rd (0,0,0,()) s2 t8x).2.1)&&((v4==(rd (0,0,0,()) s2 t8x).2.2.1)&&true))) (ex0 t8x) (nx0 s2 t7x (af (t8x+1)) v v3 v4)else none) (ex1 ())
def A0(s:List U9)(v0 v1 v2:Int)(t4x:Int):Option (Int×Unit):=some (t4x,())
def A1(s:List U9)(v0 v1 v2:Int)(_u:Unit):Option (Int×Unit):=some ((-1),())
def T(lo0:Y9 (Int×Unit))(s:List U9)(v0 v1 v2:Int):Option (Int×Unit):=lo0 s (s.length:Int) 0 v0 v1 v2
def K0{R:Type}(k0:Nat)(K:au R):au R:=bF 0 (bI (fun env ob=>zrc k0 [1,1] env ob (K)) (K))
def L0:Y9 R:=fun s2 t7x t8x v v3 v4=>iter 0 [0,3,7,8] [4] (zrc k0 [1,0,1,0,0]) k [(0,.sl ct0 s2),(3,.ptr 0 0 0 0),(7,.int .i64 t7x),(8,.int .i64 t8x)] [.box [.int .i64 v,.int .i64 v3,.int .i64 v4]] K
def H0:Y2 R:=fun t4x=>K .ret [(4,.int .i64 t4x)] []
def H1:eY R:=fun _=>K (.exit 0) [(4,.undef)] []
theorem zs0:L0 k0 (k+1) K=R0 (L0 k0 k K) (H0 K) (H1 K):=by kernel_rfl
def G0{R:Type}(k0:Nat)(hx0:Y2 R)(hx1:eY R):Nat→Y9 R
 |0=>fun _ _ _ _ _ _=>none
 |k+1=>R0 (G0 k0 hx0 hx1 k) hx0 hx1
theorem aS:∀ k,L0 k0 k K=G0 k0 (H0 K) (H1 K) k:=bP rfl fun k ih=>by rw[zs0,G0];(try simp only[ih]);try rfl
variable (s:List U9) (v0 v1 v2:Int)
def aA:au (Int×Unit):=dw Tryz.prog [.tmp 4] GH Gy (s,v0,v1,v2,())
theorem bf:H0 (K0 k0 (aA s v0 v1 v2))=A0 s v0 v1 v2:=by kernel_rfl
theorem dB:H1 (K0 k0 (aA s v0 v1 v2))=A1 s v0 v1 v2:=by kernel_rfl
def FF:Option (Int×Unit):=T (G0 k0 (A0 s v0 v1 v2) (A1 s v0 v1 v2) k0) s v0 v1 v2
theorem aZ:dA Tryz.prog (aW []) aB k0 137 GH Gy [] (s,v0,v1,v2,())=FF k0 s v0 v1 v2:=Eq.trans (b:=T (L0 k0 k0 (K0 k0 (aA s v0 v1 v2))) s v0 v1 v2) (by kernel_rfl) (by rw[FF];(try simp only[aS,bf,dB]);try rfl)
def _root_.Go.Rv.BR:=fun x:(List U9)×U9=>FF (300+x.1.length) x.1 x.2.1 x.2.2.1 x.2.2.2.1
abbrev _root_.Go.Rv.Yi:aG:=⟨GH,Gy,BR,[]⟩
theorem _root_.Go.Rv.Yh:aF Dr Tryz.prog 137 Yi:=dJ mix .nil (by kernel_rfl) fun x=>⟨aB,_,aZ _ _ _ _ _⟩
end qX
def SE.T(a0 a1 a2:Int)(a'0:List U9):Option (Int×Unit):=(BR ((a'0,()).1,a0,a1,a2,())).bind fun y1=>some (y1.1,())
def uG:=fun x:Int×Int×Int×(List U9)×Unit=>SE.T x.1 x.2.1 x.2.2.1 x.2.2.2.1
abbrev Rw:aG:=⟨[.v true ct0,.r [CT.sl ct0]],[(false,[CT.int .i64])],uG,[]⟩
theorem aaq:aF Dr Tryz.prog 136 Rw:=bC mix (.c Yh .nil) (by kernel_rfl) fun x=>by kernel_rfl
def QY.T(a0 a1 a2 amount all:Int):Option (Bool×Unit):=cond (decide (amount≥0)) ((zh (a1,all,amount,a2,())).bind fun y1=>some ((decide (y1.1≤0)),())) (some (false,()))
def zy:=fun x:U6=>QY.T x.1 x.2.1 x.2.2.1 x.2.2.2.1 x.2.2.2.2.1
abbrev Qs:aG:=⟨[.v true ct0,.v false [CT.int .i64],.v false [CT.int .i64]],[(false,[CT.bool])],zy,[]⟩
theorem Zn:aF Dr Tryz.prog 138 Qs:=bC mix (.c Pz .nil) (by kernel_rfl) fun x=>by kernel_rfl
def aad.T(x:Int):Option (Int×Unit):=cond (decide (x≥4294967296)) (cond (decide ((Int.fdiv x (2 ^ 32))≥65536)) (cond (decide ((Int.fdiv (Int.fdiv x (2 ^ 32)) (2 ^ 16))≥256)) (if 0≤(IntKind.u8.wrap ((Int.fdiv (Int.fdiv (Int.fdiv x (2 ^ 32)) (2 ^ 16)) (2 ^ 8))))∧(IntKind.u8.wrap ((Int.fdiv (Int.fdiv (Int.fdiv x (2 ^ 32)) (2 ^ 16)) (2 ^ 8))))<((kK).size:Int)then some ((af ((af ((af (32+16))+8))+(af ((bt (kK) (IntKind.u8.wrap ((Int.fdiv (Int.fdiv (Int.fdiv x (2 ^ 32)) (2 ^ 16)) (2 ^ 8))))))))),())else none) (if 0≤(IntKind.u8.wrap ((Int.fdiv (Int.fdiv x (2 ^ 32)) (2 ^ 16))))∧(IntKind.u8.wrap ((Int.fdiv (Int.fdiv x (2 ^ 32)) (2 ^ 16))))<((kK).size:Int)then some ((af ((af (32+16))+(af ((bt (kK) (IntKind.u8.wrap ((Int.fdiv (Int.fdiv x (2 ^ 32)) (2 ^ 16))))))))),())else none)) (cond (decide ((Int.fdiv x (2 ^ 32))≥256)) (if 0≤(IntKind.u8.wrap ((Int.fdiv (Int.fdiv x (2 ^ 32)) (2 ^ 8))))∧(IntKind.u8.wrap ((Int.fdiv (Int.fdiv x (2 ^ 32)) (2 ^ 8))))<((kK).size:Int)then some ((af ((af (32+8))+(af ((bt (kK) (IntKind.u8.wrap ((Int.fdiv (Int.fdiv x (2 ^ 32)) (2 ^ 8))))))))),())else none) (if 0≤(IntKind.u8.wrap ((Int.fdiv x (2 ^ 32))))∧(IntKind.u8.wrap ((Int.fdiv x (2 ^ 32))))<((kK).size:Int)then some ((af (32+(af ((bt (kK) (IntKind.u8.wrap ((Int.fdiv x (2 ^ 32))))))))),())else none))) (cond (decide (x≥65536)) (cond (decide ((Int.fdiv x (2 ^ 16))≥256)) (if 0≤(IntKind.u8.wrap ((Int.fdiv (Int.fdiv x (2 ^ 16)) (2 ^ 8))))∧(IntKind.u8.wrap ((Int.fdiv (Int.fdiv x (2 ^ 16)) (2 ^ 8))))<((kK).size:Int)then some ((af ((af ((af (0+16))+8))+(af ((bt (kK) (IntKind.u8.wrap ((Int.fdiv (Int.fdiv x (2 ^ 16)) (2 ^ 8))))))))),())else none) (if 0≤(IntKind.u8.wrap ((Int.fdiv x (2 ^ 16))))∧(IntKind.u8.wrap ((Int.fdiv x (2 ^ 16))))<((kK).size:Int)then some ((af ((af (0+16))+(af ((bt (kK) (IntKind.u8.wrap ((Int.fdiv x (2 ^ 16))))))))),())else none)) (cond (decide (x≥256)) (if 0≤(IntKind.u8.wrap ((Int.fdiv x (2 ^ 8))))∧(IntKind.u8.wrap ((Int.fdiv x (2 ^ 8))))<((kK).size:Int)then some ((af ((af (0+8))+(af ((bt (kK) (IntKind.u8.wrap ((Int.fdiv x (2 ^ 8))))))))),())else none) (if 0≤(IntKind.u8.wrap (x))∧(IntKind.u8.wrap (x))<((kK).size:Int)then some ((af (0+(af ((bt (kK) (IntKind.u8.wrap (x))))))),())else none)))
def CJ:=fun x:Int×Unit=>aad.T x.1
abbrev Zw:aG:=⟨[.v false [CT.int .u64]],[(false,[CT.int .i64])],CJ,[]⟩
theorem YS:aF Dr Tryz.prog 194 Zw:=bC mix .nil (by kernel_rfl) fun x=>by kernel_rfl
def Pq.T(x:Int):Option (Int×Unit):=(CJ (x,())).bind fun y1=>some ((af (64 - y1.1)),())
def BU:=fun x:Int×Unit=>Pq.T x.1
abbrev GR:aG:=⟨[.v false [CT.int .u64]],[(false,[CT.int .i64])],BU,[]⟩
theorem Yj:aF Dr Tryz.prog 183 GR:=bC mix (.c YS .nil) (by kernel_rfl) fun x=>by kernel_rfl
abbrev Iq:Is:=[.v false [CT.int .u64],.v false [CT.int .u64],.v false [CT.int .u64]]
abbrev Ht:Os:=[(false,[CT.int .u64]),(false,[CT.int .u64])]
namespace lW
def aB:Nat→List Nat×List Nat:=fun k=>if k=17 then([2,8,9,10,11,13,14,15,16],[2,8,9,10,11,13,14,15])else if k=24 then([2,8,9,10,14,15,16,17,18],[2,8,14,15,17,18])else([],[])
def zrc{R:Type}(k0:Nat)(p:List Nat):Env→List Ob→au R→Option R:=bJ Tryz.prog (aW [(183,[],GR)]) 135 0 aB k0 (cO p (dI Tryz.prog 174))
def R0{R:Type}(nx0:tZ R)(ex0:yX R)(y2 s yn1 yn0 un32 un1 un0 q1 rhat:Int):Option R:=cond (decide (q1≥4294967296)) (cond (decide ((IntKind.u64.wrap (rhat+yn1))≥4294967296)) (ex0 y2 s yn1 yn0 un32 un1 un0 (IntKind.u64.wrap (q1 - 1))) (nx0 y2 s yn1 yn0 un32 un1 un0 (IntKind.u64.wrap (q1 - 1)) (IntKind.u64.wrap (rhat+yn1)))) (cond (decide ((IntKind.u64.wrap (q1*yn0))>(IntKind.u64.wrap ((IntKind.u64.wrap (4294967296*rhat))+un1)))) (cond (decide ((IntKind.u64.wrap (rhat+yn1))≥4294967296)) (ex0 y2 s yn1 yn0 un32 un1 un0 (IntKind.u64.wrap (q1 - 1))) (nx0 y2 s yn1 yn0 un32 un1 un0 (IntKind.u64.wrap (q1 - 1)) (IntKind.u64.wrap (rhat+yn1)))) (ex0 y2 s yn1 yn0 un32 un1 un0 q1))
def R1{R:Type}(nx1:tZ R)(ex1:Pe R)(y2 s yn1 yn0 un0 q1 rhat un21 q0:Int):Option R:=cond (decide (q0≥4294967296)) (cond (decide ((IntKind.u64.wrap (rhat+yn1))≥4294967296)) (ex1 y2 s un0 q1 un21 (IntKind.u64.wrap (q0 - 1))) (nx1 y2 s yn1 yn0 un0 q1 (IntKind.u64.wrap (rhat+yn1)) un21 (IntKind.u64.wrap (q0 - 1)))) (cond (decide ((IntKind.u64.wrap (q0*yn0))>(IntKind.u64.wrap ((IntKind.u64.wrap (4294967296*rhat))+un0)))) (cond (decide ((IntKind.u64.wrap (rhat+yn1))≥4294967296)) (ex1 y2 s un0 q1 un21 (IntKind.u64.wrap (q0 - 1))) (nx1 y2 s yn1 yn0 un0 q1 (IntKind.u64.wrap (rhat+yn1)) un21 (IntKind.u64.wrap (q0 - 1)))) (ex1 y2 s un0 q1 un21 q0))
def A0(lo1:tZ (aN))(hi lo y:Int)(y2 s yn1 yn0 un32 un1 un0 q1:Int):Option (aN):=if yn1=0 then none else lo1 y2 s yn1 yn0 un0 q1 (IntKind.u64.wrap ((IntKind.u64.wrap ((IntKind.u64.wrap ((IntKind.u64.wrap (un32*4294967296))+un1)) - (IntKind.u64.wrap (q1*y2)))) - (IntKind.u64.wrap ((IntKind.u64.wrap (Int.tdiv (IntKind.u64.wrap ((IntKind.u64.wrap ((IntKind.u64.wrap (un32*4294967296))+un1)) - (IntKind.u64.wrap (q1*y2)))) yn1))*yn1)))) (IntKind.u64.wrap ((IntKind.u64.wrap ((IntKind.u64.wrap (un32*4294967296))+un1)) - (IntKind.u64.wrap (q1*y2)))) (IntKind.u64.wrap (Int.tdiv (IntKind.u64.wrap ((IntKind.u64.wrap ((IntKind.u64.wrap (un32*4294967296))+un1)) - (IntKind.u64.wrap (q1*y2)))) yn1))
def A1(hi lo y:Int)(y2 s un0 q1 un21 q0:Int):Option (aN):=if s<0 then none else some ((IntKind.u64.wrap ((IntKind.u64.wrap (q1*4294967296))+q0)),(Int.fdiv (IntKind.u64.wrap ((IntKind.u64.wrap ((IntKind.u64.wrap (un21*4294967296))+un0)) - (IntKind.u64.wrap (q0*y2)))) (2 ^ (min ((s:Int)).toNat 64))),())
def T(lo0:tZ (aN))(hi lo y:Int):Option (aN):=cond (y==0) (none) (cond (decide (y≤hi)) (none) (cond (hi==0) (if y=0 then none else if y=0 then none else some ((IntKind.u64.wrap (Int.tdiv lo y)),(Int.tmod lo y),())) ((BU (y,())).bind fun y1=>if(IntKind.u64.wrap (y1.1))<0 then none else if(IntKind.u64.wrap (y1.1))<0 then none else if(IntKind.u64.wrap (64 - (IntKind.u64.wrap (y1.1))))<0 then none else if(IntKind.u64.wrap (y1.1))<0 then none else if(Int.fdiv (IntKind.u64.wrap (y*2 ^ (min (((IntKind.u64.wrap (y1.1)):Int)).toNat 64))) (2 ^ 32))=0 then none else lo0 (IntKind.u64.wrap (y*2 ^ (min (((IntKind.u64.wrap (y1.1)):Int)).toNat 64))) (IntKind.u64.wrap (y1.1)) (Int.fdiv (IntKind.u64.wrap (y*2 ^ (min (((IntKind.u64.wrap (y1.1)):Int)).toNat 64))) (2 ^ 32)) (IntKind.u64.wrap (((BitVec.ofInt 64 (IntKind.u64.wrap (y*2 ^ (min (((IntKind.u64.wrap (y1.1)):Int)).toNat 64)))) &&& (BitVec.ofInt 64 4294967295)).toNat)) (IntKind.u64.wrap (((BitVec.ofInt 64 (IntKind.u64.wrap (hi*2 ^ (min (((IntKind.u64.wrap (y1.1)):Int)).toNat 64)))) ||| (BitVec.ofInt 64 (Int.fdiv lo (2 ^ (min (((IntKind.u64.wrap (64 - (IntKind.u64.wrap (y1.1)))):Int)).toNat 64))))).toNat)) (Int.fdiv (IntKind.u64.wrap (lo*2 ^ (min (((IntKind.u64.wrap (y1.1)):Int)).toNat 64))) (2 ^ 32)) (IntKind.u64.wrap (((BitVec.ofInt 64 (IntKind.u64.wrap (lo*2 ^ (min (((IntKind.u64.wrap (y1.1)):Int)).toNat 64)))) &&& (BitVec.ofInt 64 4294967295)).toNat)) (IntKind.u64.wrap (Int.tdiv (IntKind.u64.wrap (((BitVec.ofInt 64 (IntKind.u64.wrap (hi*2 ^ (min (((IntKind.u64.wrap (y1.1)):Int)).toNat 64)))) ||| (BitVec.ofInt 64 (Int.fdiv lo (2 ^ (min (((IntKind.u64.wrap (64 - (IntKind.u64.wrap (y1.1)))):Int)).toNat 64))))).toNat)) (Int.fdiv (IntKind.u64.wrap (y*2 ^ (min (((IntKind.u64.wrap (y1.1)):Int)).toNat 64))) (2 ^ 32)))) (IntKind.u64.wrap ((IntKind.u64.wrap (((BitVec.ofInt 64 (IntKind.u64.wrap (hi*2 ^ (min (((IntKind.u64.wrap (y1.1)):Int)).toNat 64)))) ||| (BitVec.ofInt 64 (Int.fdiv lo (2 ^ (min (((IntKind.u64.wrap (64 - (IntKind.u64.wrap (y1.1)))):Int)).toNat 64))))).toNat)) - (IntKind.u64.wrap ((IntKind.u64.wrap (Int.tdiv (IntKind.u64.wrap (((BitVec.ofInt 64 (IntKind.u64.wrap (hi*2 ^ (min (((IntKind.u64.wrap (y1.1)):Int)).toNat 64)))) ||| (BitVec.ofInt 64 (Int.fdiv lo (2 ^ (min (((IntKind.u64.wrap (64 - (IntKind.u64.wrap (y1.1)))):Int)).toNat 64))))).toNat)) (Int.fdiv (IntKind.u64.wrap (y*2 ^ (min (((IntKind.u64.wrap (y1.1)):Int)).toNat 64))) (2 ^ 32))))*(Int.fdiv (IntKind.u64.wrap (y*2 ^ (min (((IntKind.u64.wrap (y1.1)):Int)).toNat 64))) (2 ^ 32)))))))))
def K0{R:Type}(k0:Nat)(K:au R):au R:=bF 0 (bI (fun env ob=>zrc k0 [1,1,1,1,1,1,1,1,1,1,1,1,1,1,1] env ob (K)) (K))
def K1{R:Type}(k0:Nat)(K:au R):au R:=bF 2 (bI (fun env ob=>zrc k0 [1,1,1,1,1,1,1,1,1,1,1,1,1,1,1,1,1,1,1] env ob (K)) (K))
def L0:tZ R:=fun y2 s yn1 yn0 un32 un1 un0 q1 rhat=>iter 0 [2,8,9,10,11,13,14,15,16] [2,8,9,10,11,13,14,15] (zrc k0 [1,1,1,1,1,1,1,1,1,1,1,1,1,1,0,0,0]) k [(2,.int .u64 y2),(8,.int .u64 s),(9,.int .u64 yn1),(10,.int .u64 yn0),(11,.int .u64 un32),(13,.int .u64 un1),(14,.int .u64 un0),(15,.int .u64 q1),(16,.int .u64 rhat)] [] K
def L1:tZ R:=fun y2 s yn1 yn0 un0 q1 rhat un21 q0=>iter 0 [2,8,9,10,14,15,16,17,18] [2,8,14,15,17,18] (zrc k0 [1,1,1,1,1,1,1,1,1,1,1,1,1,1,1,1,1,1,0,0,0]) k [(2,.int .u64 y2),(8,.int .u64 s),(9,.int .u64 yn1),(10,.int .u64 yn0),(14,.int .u64 un0),(15,.int .u64 q1),(16,.int .u64 rhat),(17,.int .u64 un21),(18,.int .u64 q0)] [] K
def H0:yX R:=fun y2 s yn1 yn0 un32 un1 un0 q1=>K (.exit 0) [(2,.int .u64 y2),(8,.int .u64 s),(9,.int .u64 yn1),(10,.int .u64 yn0),(11,.int .u64 un32),(13,.int .u64 un1),(14,.int .u64 un0),(15,.int .u64 q1)] []
def H1:Pe R:=fun y2 s un0 q1 un21 q0=>K (.exit 2) [(2,.int .u64 y2),(8,.int .u64 s),(14,.int .u64 un0),(15,.int .u64 q1),(17,.int .u64 un21),(18,.int .u64 q0)] []
theorem zs0:L0 k0 (k+1) K=R0 (L0 k0 k K) (H0 K):=by kernel_rfl
theorem zs1:L1 k0 (k+1) K=R1 (L1 k0 k K) (H1 K):=by kernel_rfl
def G0{R:Type}(k0:Nat)(hx0:yX R):Nat→tZ R
 |0=>fun _ _ _ _ _ _ _ _ _=>none
 |k+1=>R0 (G0 k0 hx0 k) hx0
theorem aS:∀ k,L0 k0 k K=G0 k0 (H0 K) k:=bP rfl fun k ih=>by rw[zs0,G0];(try simp only[ih]);try rfl
def G1{R:Type}(k0:Nat)(hx1:Pe R):Nat→tZ R
 |0=>fun _ _ _ _ _ _ _ _ _=>none
 |k+1=>R1 (G1 k0 hx1 k) hx1
theorem dP:∀ k,L1 k0 k K=G1 k0 (H1 K) k:=bP rfl fun k ih=>by rw[zs1,G1];(try simp only[ih,aS]);try rfl
variable (hi lo y:Int)
def aA:au (aN):=dw Tryz.prog [.tmp 6,.tmp 7] Iq Ht (hi,lo,y,())
theorem bf:H0 (K0 k0 (aA hi lo y))=A0 (L1 k0 k0 (K1 k0 (aA hi lo y))) hi lo y:=by kernel_rfl
theorem dB:H1 (K1 k0 (aA hi lo y))=A1 hi lo y:=by kernel_rfl
def FF:Option (aN):=T (G0 k0 (A0 (G1 k0 (A1 hi lo y) k0) hi lo y) k0) hi lo y
theorem aZ:dA Tryz.prog (aW [(183,[],GR)]) aB k0 174 Iq Ht [] (hi,lo,y,())=FF k0 hi lo y:=Eq.trans (b:=T (L0 k0 k0 (K0 k0 (aA hi lo y))) hi lo y) (by kernel_rfl) (by rw[FF];(try simp only[aS,dP,bf,dB]);try rfl)
def _root_.Go.Rv.CO:=fun x:U9=>FF (300) x.1 x.2.1 x.2.2.1
abbrev _root_.Go.Rv.Zx:aG:=⟨Iq,Ht,CO,[]⟩
theorem _root_.Go.Rv.YT:aF Dr Tryz.prog 174 Zx:=dJ mix (.c Yj .nil) (by kernel_rfl) fun x=>⟨aB,_,aZ _ _ _ _⟩
end lW
def RS.T(a0 a1 d:Int):Option (U9):=cond (d==0) (some (0,0,0,())) (if d=0 then none else if d=0 then none else(CO ((Int.tmod a0 d),a1,d,())).bind fun y1=>some ((IntKind.u64.wrap (Int.tdiv a0 d)),y1.1,y1.2.1,()))
def Dt:=fun x:U9=>RS.T x.1 x.2.1 x.2.2.1
abbrev aaz:aG:=⟨[.v true ct1,.v false [CT.int .u64]],[(true,XE)],Dt,[]⟩
theorem Z8:aF Dr Tryz.prog 158 aaz:=bC mix (.c YT .nil) (by kernel_rfl) fun x=>by kernel_rfl
def Tz.T(amount weight all:Int):Option (Int×Unit):=(wP (amount,weight,())).bind fun y1=>(Dt (y1.1,y1.2.1,(IntKind.u64.wrap (all)),())).bind fun y2=>some ((af (y2.2.1)),())
def wU:=fun x:U9=>Tz.T x.1 x.2.1 x.2.2.1
abbrev RZ:aG:=⟨[.v false [CT.int .i64],.v false [CT.int .i64],.v false [CT.int .i64]],[(false,[CT.int .i64])],wU,[]⟩
theorem aaG:aF Dr Tryz.prog 139 RZ:=bC mix (.c Z8 (.c QA .nil)) (by kernel_rfl) fun x=>by kernel_rfl
abbrev Ku:Is:=[.v false [CT.int .i64],.v false [CT.sl ct0]]
abbrev J5:Os:=[(true,ct7)]
namespace bY
def dG:Tb:=[(135,[],⟨QD,Qg,uF,[]⟩),(136,[],Rw),(138,[],Qs),(139,[],RZ)]
def aB:Nat→List Nat×List Nat:=fun k=>if k=3 then([3,4,5,26,27,28],[3,4,5])else if k=9 then([3,4,5,8,9],[3,4,5,8,9])else if k=18 then([3,4,5,9,11,12,108,109,110],[3,4,5,11,12])else if k=25 then([4,5,11,12,142,143],[4,5])else([],[])
def zrc{R:Type}(k0:Nat)(p:List Nat):Env→List Ob→au R→Option R:=bJ Tryz.prog (aW dG) 172 0 aB k0 (cO p (dI Tryz.prog 117))
def R0{R:Type}(nx0:F6 R)(ex0:O9 R)(t26x:List U9)(t27x t28x:Int)(list2:List U9)(t4x t4x2 t4x3 out out2 out3:Int)(o3:List (Int×Unit))(o4:List (Bool×Unit)):Option R:=cond (decide (t28x<t27x)) (if 0≤t28x∧t28x<(t26x.length:Int)then nx0 t26x t27x (af (t28x+1)) list2 t4x t4x2 t4x3 out (af (out2+(rd (0,0,0,()) t26x t28x).2.2.1)) out3 o3 o4 else none) (ex0 list2 t4x t4x2 t4x3 out out2 out3 o3 o4)
def R1{R:Type}(nx2:vO R)(ex1:vN R)(list2:List U9)(t4x t4x2 t4x3 out out2 out3:Int)(order:List U9)(o4:List (Int×Unit))(o5:List (Bool×Unit)):Option R:=cond (decide ((order.length:Int)>0)) (if(0:Int)≤0∧0<(order.length:Int)then(zy ((order.getD ((0:Int).toNat) (0,0,0,())).1,(order.getD ((0:Int).toNat) (0,0,0,())).2.1,(order.getD ((0:Int).toNat) (0,0,0,())).2.2.1,out,out2,())).bind fun y1=>cond y1.1 (if(0:Int)≤0∧0<(order.length:Int)then(uG ((order.getD ((0:Int).toNat) (0,0,0,())).1,(order.getD ((0:Int).toNat) (0,0,0,())).2.1,(order.getD ((0:Int).toNat) (0,0,0,())).2.2.1,list2,())).bind fun y2=>if 0≤y2.1∧y2.1<(o4.length:Int)then if(0:Int)≤1∧1≤(order.length:Int)then nx2 ((1:Int).toNat) (order.length - (1:Int).toNat) list2 t4x t4x2 t4x3 (af (out - (order.getD ((0:Int).toNat) (0,0,0,())).2.1)) (af (out2 - (order.getD ((0:Int).toNat) (0,0,0,())).2.2.1)) (af (out3+1)) order (o4.set ((y2.1).toNat) ((order.getD ((0:Int).toNat) (0,0,0,())).2.1,())) o5 else none else none else none) (ex1 list2 t4x t4x2 t4x3 out out2 out3 order o4 o5)else none) (ex1 list2 t4x t4x2 t4x3 out out2 out3 order o4 o5)
def R2{R:Type}(nx2 ex2:vO R)(ordero orderl:Nat)(list2:List U9)(t4x t4x2 t4x3 out out2 out3:Int)(order:List U9)(o4:List (Int×Unit))(o5:List (Bool×Unit)):Option R:=cond (decide ((orderl:Int)>0)) (if ordero+orderl≤order.length then if(0:Int)≤0∧0<(orderl:Int)then(zy ((order.getD (ordero+(0:Int).toNat) (0,0,0,())).1,(order.getD (ordero+(0:Int).toNat) (0,0,0,())).2.1,(order.getD (ordero+(0:Int).toNat) (0,0,0,())).2.2.1,out,out2,())).bind fun y1=>cond y1.1 (if ordero+orderl≤order.length then if(0:Int)≤0∧0<(orderl:Int)then(uG ((order.getD (ordero+(0:Int).toNat) (0,0,0,())).1,(order.getD (ordero+(0:Int).toNat) (0,0,0,())).2.1,(order.getD (ordero+(0:Int).toNat) (0,0,0,())).2.2.1,list2,())).bind fun y2=>if 0≤y2.1∧y2.1<(o4.length:Int)then if ordero+orderl≤order.length then if(0:Int)≤1∧1≤(orderl:Int)then nx2 (ordero+(1:Int).toNat) (orderl - (1:Int).toNat) list2 t4x t4x2 t4x3 (af (out - (order.getD (ordero+(0:Int).toNat) (0,0,0,())).2.1)) (af (out2 - (order.getD (ordero+(0:Int).toNat) (0,0,0,())).2.2.1)) (af (out3+1)) order (o4.set ((y2.1).toNat) ((order.getD (ordero+(0:Int).toNat) (0,0,0,())).2.1,())) o5 else none else none else none else none else none) (ex2 ordero orderl list2 t4x t4x2 t4x3 out out2 out3 order o4 o5)else none else none) (ex2 ordero orderl list2 t4x t4x2 t4x3 out out2 out3 order o4 o5)
def R3{R:Type}(nx3:F5 R)(ex3:BM R)(left t109x t110x:Int)(list2:List U9)(t4x t4x2 t4x3 out out2 out3:Int)(poor:List (Bool×Unit))(t108x:List U9)(o5:List (Int×Unit))(o6:List (Bool×Unit)):Option R:=cond (decide (t110x<t109x)) (if 0≤t110x∧t110x<(t108x.length:Int)then(uG ((t108x.getD t110x.toNat (0,0,0,())).1,(t108x.getD t110x.toNat (0,0,0,())).2.1,(t108x.getD t110x.toNat (0,0,0,())).2.2.1,list2,())).bind fun y1=>(wU (out,(t108x.getD t110x.toNat (0,0,0,())).2.2.1,out2,())).bind fun y2=>if 0≤y1.1∧y1.1<(o5.length:Int)then if 0≤y1.1∧y1.1<(poor.length:Int)then if 0≤y1.1∧y1.1<((o5.set ((y1.1).toNat) (y2.1,())).length:Int)then nx3 (af (left - ((o5.set ((y1.1).toNat) (y2.1,())).getD ((y1.1).toNat) (0,())).1)) t109x (af (t110x+1)) list2 t4x t4x2 t4x3 out out2 out3 (poor.set ((y1.1).toNat) (true,())) t108x (o5.set ((y1.1).toNat) (y2.1,())) o6 else none else none else none else none) (ex3 left list2 t4x t4x2 t4x3 out out2 out3 poor o5 o6)
def R4{R:Type}(nx4:FZ R)(ex3:BM R)(left:Int)(t108o t108l:Nat)(t109x t110x:Int)(list2:List U9)(t4x t4x2 t4x3 out out2 out3:Int)(poor:List (Bool×Unit))(t108x:List U9)(o5:List (Int×Unit))(o6:List (Bool×Unit)):Option R:=cond (decide (t110x<t109x)) (if t108o+t108l≤t108x.length then if 0≤t110x∧t110x<(t108l:Int)then(uG ((t108x.getD (t108o+t110x.toNat) (0,0,0,())).1,(t108x.getD (t108o+t110x.toNat) (0,0,0,())).2.1,(t108x.getD (t108o+t110x.toNat) (0,0,0,())).2.2.1,list2,())).bind fun y1=>(wU (out,(t108x.getD (t108o+t110x.toNat) (0,0,0,())).2.2.1,out2,())).bind fun y2=>if 0≤y1.1∧y1.1<(o5.length:Int)then if 0≤y1.1∧y1.1<(poor.length:Int)then if 0≤y1.1∧y1.1<((o5.set ((y1.1).toNat) (y2.1,())).length:Int)then nx4 (af (left - ((o5.set ((y1.1).toNat) (y2.1,())).getD ((y1.1).toNat) (0,())).1)) t108o t108l t109x (af (t110x+1)) list2 t4x t4x2 t4x3 out out2 out3 (poor.set ((y1.1).toNat) (true,())) t108x (o5.set ((y1.1).toNat) (y2.1,())) o6 else none else none else none else none else none) (ex3 left list2 t4x t4x2 t4x3 out out2 out3 poor o5 o6)
def R5{R:Type}(nx5:FY R)(qU:O8 R)(left t142x t143x t4x t4x2 t4x3 out out2 out3:Int)(poor:List (Bool×Unit))(o3:List (Int×Unit))(o4:List (Bool×Unit)):Option R:=cond (decide (t143x<t142x)) (if 0≤t143x∧t143x<(poor.length:Int)then cond ((poor.getD t143x.toNat (false,())).1) (cond (decide (left>0)) (if 0≤t143x∧t143x<(o3.length:Int)then if 0≤t143x∧t143x<(o3.length:Int)then if 0≤t143x∧t143x<(o4.length:Int)then nx5 (af (left - 1)) t142x (af (t143x+1)) t4x t4x2 t4x3 out out2 out3 poor (o3.set t143x.toNat ((af ((o3.getD t143x.toNat (0,())).1+1)),())) (o4.set t143x.toNat (true,()))else none else none else none) (nx5 left t142x (af (t143x+1)) t4x t4x2 t4x3 out out2 out3 poor o3 o4)) (nx5 left t142x (af (t143x+1)) t4x t4x2 t4x3 out out2 out3 poor o3 o4)else none) (qU t4x t4x2 t4x3 out out2 out3 o3 o4)
def A0(lo1:vN (U4))(amount:Int)(list:List U9)(list2:List U9)(t4x t4x2 t4x3 out out2 out3:Int)(o3:List (Int×Unit))(o4:List (Bool×Unit)):Option (U4):=(uF (list2,())).bind fun y1=>lo1 list2 t4x t4x2 t4x3 out out2 out3 y1.1 o3 o4
def A1(lo3:F5 (U4))(amount:Int)(list:List U9)(list2:List U9)(t4x t4x2 t4x3 out out2 out3:Int)(order:List U9)(o4:List (Int×Unit))(o5:List (Bool×Unit)):Option (U4):=cond ((order.length:Int)==0) (some (o4,0,0,out3,o5,())) (if 0≤(list2.length:Int)∧(1:Int)*(list2.length:Int)≤281474976710656∧(list2.length:Int)≤9223372036854775807 then lo3 out (order.length:Int) 0 list2 t4x t4x2 t4x3 out out2 out3 (List.replicate (((list2.length:Int):Int)).toNat (false,())) order o4 o5 else none)
def A2(lo4:FZ (U4))(amount:Int)(list:List U9)(ordero orderl:Nat)(list2:List U9)(t4x t4x2 t4x3 out out2 out3:Int)(order:List U9)(o4:List (Int×Unit))(o5:List (Bool×Unit)):Option (U4):=cond ((orderl:Int)==0) (some (o4,0,0,out3,o5,())) (if 0≤(list2.length:Int)∧(1:Int)*(list2.length:Int)≤281474976710656∧(list2.length:Int)≤9223372036854775807 then lo4 out ordero orderl (orderl:Int) 0 list2 t4x t4x2 t4x3 out out2 out3 (List.replicate (((list2.length:Int):Int)).toNat (false,())) order o4 o5 else none)
def A3(lo5:FY (U4))(amount:Int)(list:List U9)(left:Int)(list2:List U9)(t4x t4x2 t4x3 out out2 out3:Int)(poor:List (Bool×Unit))(o4:List (Int×Unit))(o5:List (Bool×Unit)):Option (U4):=lo5 left (list2.length:Int) 0 t4x t4x2 t4x3 out out2 out3 poor o4 o5
def A4(amount:Int)(list:List U9)(t4x t4x2 t4x3 out out2 out3:Int)(o2:List (Int×Unit))(o3:List (Bool×Unit)):Option (U4):=some (o2,out,out2,out3,o3,())
def T(lo0:F6 (U4))(amount:Int)(list:List U9):Option (U4):=if 0≤(list.length:Int)∧(8:Int)*(list.length:Int)≤281474976710656∧(list.length:Int)≤9223372036854775807 then if 0≤(list.length:Int)∧(1:Int)*(list.length:Int)≤281474976710656∧(list.length:Int)≤9223372036854775807 then lo0 list (list.length:Int) 0 list 0 0 0 amount 0 0 (List.replicate (((list.length:Int):Int)).toNat (0,())) (List.replicate (((list.length:Int):Int)).toNat (false,()))else none else none
def K0{R:Type}(k0:Nat)(K:au R):au R:=bF 0 (bI (fun env ob=>zrc k0 [1,1,1] env ob (K)) (K))
def K1{R:Type}(k0:Nat)(K:au R):au R:=bF 2 (bI (fun env ob=>zrc k0 [1,1,1,1,1,1] env ob (K)) (K))
def K2{R:Type}(k0:Nat)(K:au R):au R:=bF 4 (bI (fun env ob=>zrc k0 [1,1,1,1,1,1,1,1,1] env ob (K)) (K))
def K3{R:Type}(k0:Nat)(K:au R):au R:=bF 6 (bI (fun env ob=>zrc k0 [1,1,1,1,1,1,1,1,1,1] env ob (K)) (K))
def L0:F6 R:=fun t26x t27x t28x list2 t4x t4x2 t4x3 out out2 out3 o3 o4=>iter 0 [3,4,5,26,27,28] [3,4,5] (zrc k0 [1,1,0,1,0,0]) k [(3,.ptr 0 0 0 0),(4,.ptr 1 0 0 0),(5,.ptr 2 0 0 0),(26,.sl ct0 t26x),(27,.int .i64 t27x),(28,.int .i64 t28x)] [.box [.sl ct0 list2],.box [.nils,.int .i64 t4x,.int .i64 t4x2,.int .i64 t4x3,.nils],.box [.own 3,.int .i64 out,.int .i64 out2,.int .i64 out3,.own 4],.arr [CT.int .i64] o3,.arr [CT.bool] o4] K
def L1:vN R:=fun list2 t4x t4x2 t4x3 out out2 out3 order o4 o5=>iter 0 [3,4,5,8,9] [3,4,5,8,9] (zrc k0 [1,1,1,1,1,0,0,0]) k [(3,.ptr 0 0 0 0),(4,.ptr 1 0 0 0),(5,.ptr 2 0 0 0),(8,.own 3),(9,.fn 136 [.ptr 0 0 0 0])] [.box [.sl ct0 list2],.box [.nils,.int .i64 t4x,.int .i64 t4x2,.int .i64 t4x3,.nils],.box [.own 4,.int .i64 out,.int .i64 out2,.int .i64 out3,.own 5],.arr ct0 order,.arr [CT.int .i64] o4,.arr [CT.bool] o5] K
def L2:vO R:=fun ordero orderl list2 t4x t4x2 t4x3 out out2 out3 order o4 o5=>iter 0 [3,4,5,8,9] [3,4,5,8,9] (zrc k0 [1,1,1,1,1,0,0,0]) k [(3,.ptr 0 0 0 0),(4,.ptr 1 0 0 0),(5,.ptr 2 0 0 0),(8,.ref 3 3 ordero orderl),(9,.fn 136 [.ptr 0 0 0 0])] [.box [.sl ct0 list2],.box [.nils,.int .i64 t4x,.int .i64 t4x2,.int .i64 t4x3,.nils],.box [.own 4,.int .i64 out,.int .i64 out2,.int .i64 out3,.own 5],.arr ct0 order,.arr [CT.int .i64] o4,.arr [CT.bool] o5] K
def L3:F5 R:=fun left t109x t110x list2 t4x t4x2 t4x3 out out2 out3 poor t108x o5 o6=>iter 0 [3,4,5,9,11,12,108,109,110] [3,4,5,11,12] (zrc k0 [1,1,1,1,1,1,1,1,0,1,0,0]) k [(3,.ptr 0 0 0 0),(4,.ptr 1 0 0 0),(5,.ptr 2 0 0 0),(9,.fn 136 [.ptr 0 0 0 0]),(11,.int .i64 left),(12,.own 3),(108,.own 4),(109,.int .i64 t109x),(110,.int .i64 t110x)] [.box [.sl ct0 list2],.box [.nils,.int .i64 t4x,.int .i64 t4x2,.int .i64 t4x3,.nils],.box [.own 5,.int .i64 out,.int .i64 out2,.int .i64 out3,.own 6],.arr [CT.bool] poor,.arr ct0 t108x,.arr [CT.int .i64] o5,.arr [CT.bool] o6] K
def L4:FZ R:=fun left t108o t108l t109x t110x list2 t4x t4x2 t4x3 out out2 out3 poor t108x o5 o6=>iter 0 [3,4,5,9,11,12,108,109,110] [3,4,5,11,12] (zrc k0 [1,1,1,1,1,1,1,1,0,1,0,0]) k [(3,.ptr 0 0 0 0),(4,.ptr 1 0 0 0),(5,.ptr 2 0 0 0),(9,.fn 136 [.ptr 0 0 0 0]),(11,.int .i64 left),(12,.own 3),(108,.ref 4 3 t108o t108l),(109,.int .i64 t109x),(110,.int .i64 t110x)] [.box [.sl ct0 list2],.box [.nils,.int .i64 t4x,.int .i64 t4x2,.int .i64 t4x3,.nils],.box [.own 5,.int .i64 out,.int .i64 out2,.int .i64 out3,.own 6],.arr [CT.bool] poor,.arr ct0 t108x,.arr [CT.int .i64] o5,.arr [CT.bool] o6] K
def L5:FY R:=fun left t142x t143x t4x t4x2 t4x3 out out2 out3 poor o3 o4=>iter 0 [4,5,11,12,142,143] [4,5] (zrc k0 [1,1,1,1,1,1,1,1,1,0,1,0,0]) k [(4,.ptr 0 0 0 0),(5,.ptr 1 0 0 0),(11,.int .i64 left),(12,.own 2),(142,.int .i64 t142x),(143,.int .i64 t143x)] [.box [.nils,.int .i64 t4x,.int .i64 t4x2,.int .i64 t4x3,.nils],.box [.own 3,.int .i64 out,.int .i64 out2,.int .i64 out3,.own 4],.arr [CT.bool] poor,.arr [CT.int .i64] o3,.arr [CT.bool] o4] K
def H0:O9 R:=fun list2 t4x t4x2 t4x3 out out2 out3 o3 o4=>K (.exit 0) [(3,.ptr 0 0 0 0),(4,.ptr 1 0 0 0),(5,.ptr 2 0 0 0)] [.box [.sl ct0 list2],.box [.nils,.int .i64 t4x,.int .i64 t4x2,.int .i64 t4x3,.nils],.box [.own 3,.int .i64 out,.int .i64 out2,.int .i64 out3,.own 4],.arr [CT.int .i64] o3,.arr [CT.bool] o4]
def H1:vN R:=fun list2 t4x t4x2 t4x3 out out2 out3 order o4 o5=>K (.exit 2) [(3,.ptr 0 0 0 0),(4,.ptr 1 0 0 0),(5,.ptr 2 0 0 0),(8,.own 3),(9,.fn 136 [.ptr 0 0 0 0])] [.box [.sl ct0 list2],.box [.nils,.int .i64 t4x,.int .i64 t4x2,.int .i64 t4x3,.nils],.box [.own 4,.int .i64 out,.int .i64 out2,.int .i64 out3,.own 5],.arr ct0 order,.arr [CT.int .i64] o4,.arr [CT.bool] o5]
def H2:vO R:=fun ordero orderl list2 t4x t4x2 t4x3 out out2 out3 order o4 o5=>K (.exit 2) [(3,.ptr 0 0 0 0),(4,.ptr 1 0 0 0),(5,.ptr 2 0 0 0),(8,.ref 3 3 ordero orderl),(9,.fn 136 [.ptr 0 0 0 0])] [.box [.sl ct0 list2],.box [.nils,.int .i64 t4x,.int .i64 t4x2,.int .i64 t4x3,.nils],.box [.own 4,.int .i64 out,.int .i64 out2,.int .i64 out3,.own 5],.arr ct0 order,.arr [CT.int .i64] o4,.arr [CT.bool] o5]
def H3:BM R:=fun left list2 t4x t4x2 t4x3 out out2 out3 poor o4 o5=>K (.exit 4) [(3,.ptr 0 0 0 0),(4,.ptr 1 0 0 0),(5,.ptr 2 0 0 0),(11,.int .i64 left),(12,.own 3)] [.box [.sl ct0 list2],.box [.nils,.int .i64 t4x,.int .i64 t4x2,.int .i64 t4x3,.nils],.box [.own 4,.int .i64 out,.int .i64 out2,.int .i64 out3,.own 5],.arr [CT.bool] poor,.arr [CT.int .i64] o4,.arr [CT.bool] o5]
def H4:O8 R:=fun t4x t4x2 t4x3 out out2 out3 o2 o3=>K (.exit 6) [(4,.ptr 0 0 0 0),(5,.ptr 1 0 0 0)] [.box [.nils,.int .i64 t4x,.int .i64 t4x2,.int .i64 t4x3,.nils],.box [.own 2,.int .i64 out,.int .i64 out2,.int .i64 out3,.own 3],.arr [CT.int .i64] o2,.arr [CT.bool] o3]
theorem zs0:L0 k0 (k+1) K=R0 (L0 k0 k K) (H0 K):=by kernel_rfl
theorem zs1:L1 k0 (k+1) K=R1 (L2 k0 k K) (H1 K):=by kernel_rfl
theorem zs2:L2 k0 (k+1) K=R2 (L2 k0 k K) (H2 K):=by kernel_rfl
theorem Oz:L3 k0 (k+1) K=R3 (L3 k0 k K) (H3 K):=by kernel_rfl
theorem Oy:L4 k0 (k+1) K=R4 (L4 k0 k K) (H3 K):=by kernel_rfl
theorem zs5:L5 k0 (k+1) K=R5 (L5 k0 k K) (H4 K):=by kernel_rfl
def G0{R:Type}(k0:Nat)(hx0:O9 R):Nat→F6 R
 |0=>fun _ _ _ _ _ _ _ _ _ _ _ _=>none
 |k+1=>R0 (G0 k0 hx0 k) hx0
theorem aS:∀ k,L0 k0 k K=G0 k0 (H0 K) k:=bP rfl fun k ih=>by rw[zs0,G0];(try simp only[ih]);try rfl
def G2{R:Type}(k0:Nat)(hx1:vN R)(hx2:vO R):Nat→vO R
 |0=>fun _ _ _ _ _ _ _ _ _ _ _ _=>none
 |k+1=>R2 (G2 k0 hx1 hx2 k) hx2
theorem lC:∀ k,L2 k0 k K=G2 k0 (H1 K) (H2 K) k:=bP rfl fun k ih=>by rw[zs2,G2];(try simp only[ih,aS]);try rfl
def G1{R:Type}(k0:Nat)(hx1:vN R)(hx2:vO R):Nat→vN R
 |0=>fun _ _ _ _ _ _ _ _ _ _=>none
 |k+1=>R1 (G2 k0 hx1 hx2 k) hx1
theorem dP:∀ k,L1 k0 k K=G1 k0 (H1 K) (H2 K) k:=bP rfl fun k ih=>by rw[zs1,G1];(try simp only[ih,aS,lC]);try rfl
def G3{R:Type}(k0:Nat)(hx3:BM R):Nat→F5 R
 |0=>fun _ _ _ _ _ _ _ _ _ _ _ _ _ _=>none
 |k+1=>R3 (G3 k0 hx3 k) hx3
theorem yK:∀ k,L3 k0 k K=G3 k0 (H3 K) k:=bP rfl fun k ih=>by rw[Oz,G3];(try simp only[ih,aS,lC,dP]);try rfl
def G5{R:Type}(k0:Nat)(hx4:O8 R):Nat→FY R
 |0=>fun _ _ _ _ _ _ _ _ _ _ _ _=>none
 |k+1=>R5 (G5 k0 hx4 k) hx4
theorem XC:∀ k,L5 k0 k K=G5 k0 (H4 K) k:=bP rfl fun k ih=>by rw[zs5,G5];(try simp only[ih,aS,lC,dP,yK]);try rfl
def G4{R:Type}(k0:Nat)(hx3:BM R):Nat→FZ R
 |0=>fun _ _ _ _ _ _ _ _ _ _ _ _ _ _ _ _=>none
 |k+1=>R4 (G4 k0 hx3 k) hx3
theorem OA:∀ k,L4 k0 k K=G4 k0 (H3 K) k:=bP rfl fun k ih=>by rw[Oy,G4];(try simp only[ih,aS,lC,dP,yK,XC]);try rfl
variable (amount:Int) (list:List U9)
def aA:au (U4):=dw Tryz.prog [.cell 4 145] Ku J5 (amount,list,())
theorem bf:H0 (K0 k0 (aA amount list))=A0 (L1 k0 k0 (K1 k0 (aA amount list))) amount list:=by kernel_rfl
theorem dB:H1 (K1 k0 (aA amount list))=A1 (L3 k0 k0 (K2 k0 (aA amount list))) amount list:=by kernel_rfl
theorem mG:H2 (K1 k0 (aA amount list))=A2 (L4 k0 k0 (K2 k0 (aA amount list))) amount list:=by kernel_rfl
theorem qR:H3 (K2 k0 (aA amount list))=A3 (L5 k0 k0 (K3 k0 (aA amount list))) amount list:=by kernel_rfl
theorem OB:H4 (K3 k0 (aA amount list))=A4 amount list:=by kernel_rfl
def FF:Option (U4):=T (G0 k0 (A0 (G1 k0 (A1 (G3 k0 (A3 (G5 k0 (A4 amount list) k0) amount list) k0) amount list) (A2 (G4 k0 (A3 (G5 k0 (A4 amount list) k0) amount list) k0) amount list) k0) amount list) k0) amount list
theorem aZ:dA Tryz.prog (aW dG) aB k0 117 Ku J5 [] (amount,list,())=FF k0 amount list:=Eq.trans (b:=T (L0 k0 k0 (K0 k0 (aA amount list))) amount list) (by kernel_rfl) (by rw[FF];(try simp only[aS,lC,dP,yK,XC,OA,bf,dB,mG,qR,OB]);try rfl)
end bY
def zV:=fun x:Int×(List U9)×Unit=>bY.FF (300+x.2.1.length) x.1 x.2.1
abbrev KR:aG:=⟨Ku,J5,zV,[]⟩
theorem aaV:aF KN Tryz.prog 117 KR:=dJ mix (.c QX (.c aaq (.c Zn (.c aaG .nil)))) (by kernel_rfl) fun x=>⟨bY.aB,_,bY.aZ _ _ _⟩
abbrev II:Is:=[.v true gI,.v false [CT.int .i64],.v false [CT.int .i64],.w false [CT.sl eH],.w false [CT.sl eH]]
abbrev Ii:Os:=[]
namespace jh
def aB:Nat→List Nat×List Nat:=fun k=>if k=4 then([3,4,11,12,13,29,30,31],[4,11,12,13])else if k=9 then([4,11,13,45,46,47],[])else([],[])
def zrc{R:Type}(k0:Nat)(p:List Nat):Env→List Ob→au R→Option R:=bJ Tryz.prog (aW [(116,[],JI),(117,[],KR)]) 64 2 aB k0 (cO p (dI Tryz.prog 94))
def R0{R:Type}(nx0:tY R)(ex0:O7 R)(t30x t31x:Int)(groups2 members2:List aN)(own others amounts:List (Int×Unit)):Option R:=cond (decide (t31x<t30x)) (if 0≤t31x∧t31x<(own.length:Int)then if 0≤t31x∧t31x<(amounts.length:Int)then if 0≤(own.getD t31x.toNat (0,())).1∧(own.getD t31x.toNat (0,())).1<(groups2.length:Int)then nx0 t30x (af (t31x+1)) (groups2.set (((own.getD t31x.toNat (0,())).1).toNat) ((groups2.getD (((own.getD t31x.toNat (0,())).1).toNat) (0,0,())).1,(amounts.getD t31x.toNat (0,())).1,())) members2 own others amounts else none else none else none) (ex0 groups2 members2 own others amounts)
def R1{R:Type}(nx1:tY R)(ex1:yV R)(t46x t47x:Int)(o0 members2:List aN)(own amounts t45x:List (Int×Unit)):Option R:=cond (decide (t47x<t46x)) (if 0≤t47x∧t47x<(t45x.length:Int)then if 0≤(af ((own.length:Int)+t47x))∧(af ((own.length:Int)+t47x))<(amounts.length:Int)then if 0≤(t45x.getD t47x.toNat (0,())).1∧(t45x.getD t47x.toNat (0,())).1<(members2.length:Int)then nx1 t46x (af (t47x+1)) o0 (members2.set (((t45x.getD t47x.toNat (0,())).1).toNat) ((members2.getD (((t45x.getD t47x.toNat (0,())).1).toNat) (0,0,())).1,(amounts.getD (((af ((own.length:Int)+t47x))).toNat) (0,())).1,())) own amounts t45x else none else none else none) (ex1 o0 members2)
def A0(lo1:tY ((List aN)×(List aN)×Unit))(f0:Int)(f1 f2:List U8)(id amount:Int)(groups members:List aN)(o0 members2:List aN)(own others amounts:List (Int×Unit)):Option ((List aN)×(List aN)×Unit):=lo1 (others.length:Int) 0 o0 members2 own amounts others
def A1(f0:Int)(f1 f2:List U8)(id amount:Int)(groups members:List aN)(o0 o1:List aN):Option ((List aN)×(List aN)×Unit):=some (o0,o1,())
def T(lo0:tY ((List aN)×(List aN)×Unit))(f0:Int)(f1 f2:List U8)(id amount:Int)(groups members:List aN):Option ((List aN)×(List aN)×Unit):=(CX (f0,f1,f2,id,())).bind fun y1=>(zV (amount,y1.1,())).bind fun y2=>lo0 (y1.2.1.length:Int) 0 groups members y1.2.1 y1.2.2.1 y2.1
def K0{R:Type}(k0:Nat)(K:au R):au R:=bF 0 (bI (fun env ob=>zrc k0 [1,1,1,1] env ob (K)) (K))
def K1{R:Type}(k0:Nat)(K:au R):au R:=bF 2 (K)
def L0:tY R:=fun t30x t31x groups2 members2 own others amounts=>iter 2 [3,4,11,12,13,29,30,31] [4,11,12,13] (zrc k0 [1,1,1,0,1,0,0]) k [(3,.own 0),(4,.own 1),(11,.own 2),(12,.own 3),(13,.own 4),(29,.own 2),(30,.int .i64 t30x),(31,.int .i64 t31x)] [.arr eH groups2,.arr eH members2,.arr [CT.int .i64] own,.arr [CT.int .i64] others,.arr [CT.int .i64] amounts] K
def L1:tY R:=fun t46x t47x o0 members2 own amounts t45x=>iter 2 [4,11,13,45,46,47] [] (zrc k0 [1,1,1,1,1,0,0]) k [(4,.own 1),(11,.own 2),(13,.own 3),(45,.own 4),(46,.int .i64 t46x),(47,.int .i64 t47x)] [.arr eH o0,.arr eH members2,.arr [CT.int .i64] own,.arr [CT.int .i64] amounts,.arr [CT.int .i64] t45x] K
def H0:O7 R:=fun o0 members2 own others amounts=>K (.exit 0) [(4,.own 1),(11,.own 2),(12,.own 3),(13,.own 4)] [.arr eH o0,.arr eH members2,.arr [CT.int .i64] own,.arr [CT.int .i64] others,.arr [CT.int .i64] amounts]
def H1:yV R:=fun o0 o1=>K (.exit 2) [] [.arr eH o0,.arr eH o1]
theorem zs0:L0 k0 (k+1) K=R0 (L0 k0 k K) (H0 K):=by kernel_rfl
theorem zs1:L1 k0 (k+1) K=R1 (L1 k0 k K) (H1 K):=by kernel_rfl
def G0{R:Type}(k0:Nat)(hx0:O7 R):Nat→tY R
 |0=>fun _ _ _ _ _ _ _=>none
 |k+1=>R0 (G0 k0 hx0 k) hx0
theorem aS:∀ k,L0 k0 k K=G0 k0 (H0 K) k:=bP rfl fun k ih=>by rw[zs0,G0];(try simp only[ih]);try rfl
def G1{R:Type}(k0:Nat)(hx1:yV R):Nat→tY R
 |0=>fun _ _ _ _ _ _ _=>none
 |k+1=>R1 (G1 k0 hx1 k) hx1
theorem dP:∀ k,L1 k0 k K=G1 k0 (H1 K) k:=bP rfl fun k ih=>by rw[zs1,G1];(try simp only[ih,aS]);try rfl
variable (f0:Int) (f1 f2:List U8) (id amount:Int) (groups members:List aN)
def aA:au ((List aN)×(List aN)×Unit):=dw Tryz.prog [] II Ii (f0,f1,f2,id,amount,groups,members,())
theorem bf:H0 (K0 k0 (aA f0 f1 f2 id amount groups members))=A0 (L1 k0 k0 (K1 k0 (aA f0 f1 f2 id amount groups members))) f0 f1 f2 id amount groups members:=by kernel_rfl
theorem dB:H1 (K1 k0 (aA f0 f1 f2 id amount groups members))=A1 f0 f1 f2 id amount groups members:=by kernel_rfl
def FF:Option ((List aN)×(List aN)×Unit):=T (G0 k0 (A0 (G1 k0 (A1 f0 f1 f2 id amount groups members) k0) f0 f1 f2 id amount groups members) k0) f0 f1 f2 id amount groups members
theorem aZ:dA Tryz.prog (aW [(116,[],JI),(117,[],KR)]) aB k0 94 II Ii [] (f0,f1,f2,id,amount,groups,members,())=FF k0 f0 f1 f2 id amount groups members:=Eq.trans (b:=T (L0 k0 k0 (K0 k0 (aA f0 f1 f2 id amount groups members))) f0 f1 f2 id amount groups members) (by kernel_rfl) (by rw[FF];(try simp only[aS,dP,bf,dB]);try rfl)
def _root_.Go.Rv.zA:=fun x:Int×(List U8)×(List U8)×Int×Int×(List aN)×(List aN)×Unit=>FF (300+x.2.1.length+x.2.2.1.length+x.2.2.2.2.2.1.length+x.2.2.2.2.2.2.1.length) x.1 x.2.1 x.2.2.1 x.2.2.2.1 x.2.2.2.2.1 x.2.2.2.2.2.1 x.2.2.2.2.2.2.1
abbrev _root_.Go.Rv.JH:aG:=⟨II,Ii,zA,[]⟩
theorem _root_.Go.Rv.Zp:aF KN Tryz.prog 94 JH:=dJ mix (.c Zq (.c aaV .nil)) (by kernel_rfl) fun x=>⟨aB,_,aZ _ _ _ _ _ _ _ _⟩
end jh
abbrev H8:Is:=[.v true gI]
abbrev He:Os:=[(false,[CT.sl eH]),(false,[CT.sl eH])]
namespace fK
def aB:Nat→List Nat×List Nat:=fun k=>if k=3 then([1,4,5,15,16,17],[1,4,5])else if k=8 then([1,4,5,29,30,31],[1,4,5])else if k=14 then([1,4,5,49,50,51],[4,5])else([],[])
def zrc{R:Type}(k0:Nat)(p:List Nat):Env→List Ob→au R→Option R:=bJ Tryz.prog (aW [(94,[],JH)]) 70 0 aB k0 (cO p (dI Tryz.prog 46))
def R0{R:Type}(nx0:nT R)(ex0:yU R)(t15x:List U8)(t16x t17x f:Int)(f3 f4:List U8)(groups members:List aN):Option R:=cond (decide (t17x<t16x)) (if 0≤t17x∧t17x<(t15x.length:Int)then if groups.length+[((rd (0,0,0,0,()) t15x t17x).1,0,())].length≤maxRow then nx0 t15x t16x (af (t17x+1)) f f3 f4 (groups++[((rd (0,0,0,0,()) t15x t17x).1,0,())]) members else none else none) (ex0 f f3 f4 groups members)
def R1{R:Type}(nx1:nT R)(ex1:yU R)(t29x:List U8)(t30x t31x f:Int)(f3 f4:List U8)(groups members:List aN):Option R:=cond (decide (t31x<t30x)) (if 0≤t31x∧t31x<(t29x.length:Int)then if members.length+[((rd (0,0,0,0,()) t29x t31x).1,0,())].length≤maxRow then nx1 t29x t30x (af (t31x+1)) f f3 f4 groups (members++[((rd (0,0,0,0,()) t29x t31x).1,0,())])else none else none) (ex1 f f3 f4 groups members)
def R2{R:Type}(nx2:nT R)(ex2:yV R)(t49x:List U8)(t50x t51x f:Int)(f3 f4:List U8)(groups members:List aN):Option R:=cond (decide (t51x<t50x)) (if 0≤t51x∧t51x<(t49x.length:Int)then if 0≤t51x∧t51x<(groups.length:Int)then(zA (f,f3,f4,(rd (0,0,0,0,()) t49x t51x).1,(groups.getD t51x.toNat (0,0,())).2.1,groups,members,())).bind fun y1=>nx2 t49x t50x (af (t51x+1)) f f3 f4 y1.1 y1.2.1 else none else none) (ex2 groups members)
def A0(lo1:nT ((List aN)×(List aN)×Unit))(f0:Int)(f1 f2:List U8)(f:Int)(f3 f4:List U8)(groups members:List aN):Option ((List aN)×(List aN)×Unit):=lo1 f4 (f4.length:Int) 0 f f3 f4 groups members
def A1(lo2:nT ((List aN)×(List aN)×Unit))(f0:Int)(f1 f2:List U8)(f:Int)(f3 f4:List U8)(groups members:List aN):Option ((List aN)×(List aN)×Unit):=(zA (f,f3,f4,0,f,groups,members,())).bind fun y1=>lo2 f3 (f3.length:Int) 0 f f3 f4 y1.1 y1.2.1
def A2(f0:Int)(f1 f2:List U8)(groups members:List aN):Option ((List aN)×(List aN)×Unit):=some (groups,members,())
def T(lo0:nT ((List aN)×(List aN)×Unit))(f0:Int)(f1 f2:List U8):Option ((List aN)×(List aN)×Unit):=lo0 f1 (f1.length:Int) 0 f0 f1 f2 ([]:List aN) ([]:List aN)
def K0{R:Type}(k0:Nat)(K:au R):au R:=bF 0 (bI (fun env ob=>zrc k0 [1,1,1] env ob (K)) (K))
def K1{R:Type}(k0:Nat)(K:au R):au R:=bF 2 (bI (fun env ob=>zrc k0 [1,1,1,1] env ob (K)) (K))
def K2{R:Type}(k0:Nat)(K:au R):au R:=bF 4 (bI (fun env ob=>zrc k0 [1,1,1,1,1,1] env ob (K)) (K))
def L0:nT R:=fun t15x t16x t17x f f3 f4 groups members=>iter 0 [1,4,5,15,16,17] [1,4,5] (zrc k0 [1,1,0,1,0,0]) k [(1,.ptr 0 0 0 0),(4,.own 1),(5,.own 2),(15,.sl aC t15x),(16,.int .i64 t16x),(17,.int .i64 t17x)] [.box [.int .i64 f,.sl aC f3,.sl aC f4],.arr eH groups,.arr eH members] K
def L1:nT R:=fun t29x t30x t31x f f3 f4 groups members=>iter 0 [1,4,5,29,30,31] [1,4,5] (zrc k0 [1,1,1,0,1,0,0]) k [(1,.ptr 0 0 0 0),(4,.own 1),(5,.own 2),(29,.sl aC t29x),(30,.int .i64 t30x),(31,.int .i64 t31x)] [.box [.int .i64 f,.sl aC f3,.sl aC f4],.arr eH groups,.arr eH members] K
def L2:nT R:=fun t49x t50x t51x f f3 f4 groups members=>iter 0 [1,4,5,49,50,51] [4,5] (zrc k0 [1,1,1,1,1,0,1,0,0]) k [(1,.ptr 0 0 0 0),(4,.own 1),(5,.own 2),(49,.sl aC t49x),(50,.int .i64 t50x),(51,.int .i64 t51x)] [.box [.int .i64 f,.sl aC f3,.sl aC f4],.arr eH groups,.arr eH members] K
def H0:yU R:=fun f f3 f4 groups members=>K (.exit 0) [(1,.ptr 0 0 0 0),(4,.own 1),(5,.own 2)] [.box [.int .i64 f,.sl aC f3,.sl aC f4],.arr eH groups,.arr eH members]
def H1:yU R:=fun f f3 f4 groups members=>K (.exit 2) [(1,.ptr 0 0 0 0),(4,.own 1),(5,.own 2)] [.box [.int .i64 f,.sl aC f3,.sl aC f4],.arr eH groups,.arr eH members]
def H2:yV R:=fun groups members=>K (.exit 4) [(4,.own 0),(5,.own 1)] [.arr eH groups,.arr eH members]
theorem zs0:L0 k0 (k+1) K=R0 (L0 k0 k K) (H0 K):=by kernel_rfl
theorem zs1:L1 k0 (k+1) K=R1 (L1 k0 k K) (H1 K):=by kernel_rfl
theorem zs2:L2 k0 (k+1) K=R2 (L2 k0 k K) (H2 K):=by kernel_rfl
def G0{R:Type}(k0:Nat)(hx0:yU R):Nat→nT R
 |0=>fun _ _ _ _ _ _ _ _=>none
 |k+1=>R0 (G0 k0 hx0 k) hx0
theorem aS:∀ k,L0 k0 k K=G0 k0 (H0 K) k:=bP rfl fun k ih=>by rw[zs0,G0];(try simp only[ih]);try rfl
def G1{R:Type}(k0:Nat)(hx1:yU R):Nat→nT R
 |0=>fun _ _ _ _ _ _ _ _=>none
 |k+1=>R1 (G1 k0 hx1 k) hx1
theorem dP:∀ k,L1 k0 k K=G1 k0 (H1 K) k:=bP rfl fun k ih=>by rw[zs1,G1];(try simp only[ih,aS]);try rfl
def G2{R:Type}(k0:Nat)(hx2:yV R):Nat→nT R
 |0=>fun _ _ _ _ _ _ _ _=>none
 |k+1=>R2 (G2 k0 hx2 k) hx2
theorem lC:∀ k,L2 k0 k K=G2 k0 (H2 K) k:=bP rfl fun k ih=>by rw[zs2,G2];(try simp only[ih,aS,dP]);try rfl
variable (f0:Int) (f1 f2:List U8)
def aA:au ((List aN)×(List aN)×Unit):=dw Tryz.prog [.tmp 2,.tmp 3] H8 He (f0,f1,f2,())
theorem bf:H0 (K0 k0 (aA f0 f1 f2))=A0 (L1 k0 k0 (K1 k0 (aA f0 f1 f2))) f0 f1 f2:=by kernel_rfl
theorem dB:H1 (K1 k0 (aA f0 f1 f2))=A1 (L2 k0 k0 (K2 k0 (aA f0 f1 f2))) f0 f1 f2:=by kernel_rfl
theorem mG:H2 (K2 k0 (aA f0 f1 f2))=A2 f0 f1 f2:=by kernel_rfl
def FF:Option ((List aN)×(List aN)×Unit):=T (G0 k0 (A0 (G1 k0 (A1 (G2 k0 (A2 f0 f1 f2) k0) f0 f1 f2) k0) f0 f1 f2) k0) f0 f1 f2
theorem aZ:dA Tryz.prog (aW [(94,[],JH)]) aB k0 46 H8 He [] (f0,f1,f2,())=FF k0 f0 f1 f2:=Eq.trans (b:=T (L0 k0 k0 (K0 k0 (aA f0 f1 f2))) f0 f1 f2) (by kernel_rfl) (by rw[FF];(try simp only[aS,dP,lC,bf,dB,mG]);try rfl)
def _root_.Go.Rv.qg:=fun x:U3=>FF (300+x.2.1.length+x.2.2.1.length) x.1 x.2.1 x.2.2.1
abbrev _root_.Go.Rv.Ze:aG:=⟨H8,He,qg,[]⟩
theorem _root_.Go.Rv.YI:aF KN Tryz.prog 46 Ze:=dJ mix (.c Zp .nil) (by kernel_rfl) fun x=>⟨aB,_,aZ _ _ _ _⟩
end fK
abbrev JV:Is:=[.v false [CT.sl ct0],.v false [CT.int .i64],.v false [CT.int .i64]]
abbrev Js:Os:=[(false,[CT.int .i64])]
namespace ng
def aB:Nat→List Nat×List Nat:=fun k=>if k=3 then([1,2,7,10,11,12],[7])else([],[])
def zrc{R:Type}(k0:Nat)(p:List Nat):Env→List Ob→au R→Option R:=bJ Tryz.prog (aW []) 32 0 aB k0 (cO p (dI Tryz.prog 47))
def R0{R:Type}(nx0:FX R)(ex0:Y2 R)(now2 id2 sum:Int)(t10x:List U9)(t11x t12x:Int):Option R:=cond (decide (t12x<t11x)) (if 0≤t12x∧t12x<(t10x.length:Int)then cond (decide ((rd (0,0,0,()) t10x t12x).2.2.1>now2)) (cond ((rd (0,0,0,()) t10x t12x).1 != id2) (nx0 now2 id2 (af (sum+(rd (0,0,0,()) t10x t12x).2.1)) t10x t11x (af (t12x+1))) (nx0 now2 id2 sum t10x t11x (af (t12x+1)))) (nx0 now2 id2 sum t10x t11x (af (t12x+1)))else none) (ex0 sum)
def A0(list:List U9)(now id:Int)(sum:Int):Option (Int×Unit):=some (sum,())
def T(lo0:FX (Int×Unit))(list:List U9)(now id:Int):Option (Int×Unit):=lo0 now id 0 list (list.length:Int) 0
def K0{R:Type}(k0:Nat)(K:au R):au R:=bF 0 (bI (fun env ob=>zrc k0 [1,1,1] env ob (K)) (K))
def L0:FX R:=fun now2 id2 sum t10x t11x t12x=>iter 0 [1,2,7,10,11,12] [7] (zrc k0 [1,1,0,1,0,0]) k [(1,.int .i64 now2),(2,.int .i64 id2),(7,.int .i64 sum),(10,.sl ct0 t10x),(11,.int .i64 t11x),(12,.int .i64 t12x)] [] K
def H0:Y2 R:=fun sum=>K (.exit 0) [(7,.int .i64 sum)] []
theorem zs0:L0 k0 (k+1) K=R0 (L0 k0 k K) (H0 K):=by kernel_rfl
def G0{R:Type}(k0:Nat)(hx0:Y2 R):Nat→FX R
 |0=>fun _ _ _ _ _ _=>none
 |k+1=>R0 (G0 k0 hx0 k) hx0
theorem aS:∀ k,L0 k0 k K=G0 k0 (H0 K) k:=bP rfl fun k ih=>by rw[zs0,G0];(try simp only[ih]);try rfl
variable (list:List U9) (now id:Int)
def aA:au (Int×Unit):=dw Tryz.prog [.tmp 6] JV Js (list,now,id,())
theorem bf:H0 (K0 k0 (aA list now id))=A0 list now id:=by kernel_rfl
def FF:Option (Int×Unit):=T (G0 k0 (A0 list now id) k0) list now id
theorem aZ:dA Tryz.prog (aW []) aB k0 47 JV Js [] (list,now,id,())=FF k0 list now id:=Eq.trans (b:=T (L0 k0 k0 (K0 k0 (aA list now id))) list now id) (by kernel_rfl) (by rw[FF];(try simp only[aS,bf]);try rfl)
def _root_.Go.Rv.wS:=fun x:(List U9)×aN=>FF (300+x.1.length) x.1 x.2.1 x.2.2.1
abbrev _root_.Go.Rv.aaK:aG:=⟨JV,Js,wS,[]⟩
theorem _root_.Go.Rv.aan:aF Dr Tryz.prog 47 aaK:=dJ mix .nil (by kernel_rfl) fun x=>⟨aB,_,aZ _ _ _ _⟩
end ng
def IQ.T(m0 m1 m2 m3 id:Int):Option (Int×Unit):=(qf (m0,id,())).bind fun y1=>some (y1.1,())
def yZ:=fun x:U6=>IQ.T x.1 x.2.1 x.2.2.1 x.2.2.2.1 x.2.2.2.2.1
abbrev Ia:aG:=⟨[.v true aC,.v false [CT.int .i64]],[(false,[CT.int .i64])],yZ,[]⟩
theorem Yw:aF Dr Tryz.prog 104 Ia:=bC mix (.c BX .nil) (by kernel_rfl) fun x=>by kernel_rfl
abbrev F9:Is:=[.v false [CT.sl aC],.v false [CT.int .i64],.cl 104 []]
abbrev F8:Os:=[(false,[CT.int .i64]),(false,[CT.bool])]
namespace vS
def aB:Nat→List Nat×List Nat:=fun k=>if k=3 then([0,1,2,8,9,10],[0,1,2,8,9])else([],[])
def zrc{R:Type}(k0:Nat)(p:List Nat):Env→List Ob→au R→Option R:=bJ Tryz.prog (aW [(104,[],Ia)]) 49 0 aB k0 (cO p (dI Tryz.prog 103))
def R0{R:Type}(nx0:Y3 R)(ex0:Y4 R)(x2:List U8)(target2 n i j:Int):Option R:=cond (decide (i<j)) (if 0≤(af ((Int.fdiv (IntKind.u64.wrap ((af (i+j)))) (2 ^ 1))))∧(af ((Int.fdiv (IntKind.u64.wrap ((af (i+j)))) (2 ^ 1))))<(x2.length:Int)then(yZ ((rd (0,0,0,0,()) x2 (af ((Int.fdiv (IntKind.u64.wrap ((af (i+j)))) (2 ^ 1))))).1,(rd (0,0,0,0,()) x2 (af ((Int.fdiv (IntKind.u64.wrap ((af (i+j)))) (2 ^ 1))))).2.1,(rd (0,0,0,0,()) x2 (af ((Int.fdiv (IntKind.u64.wrap ((af (i+j)))) (2 ^ 1))))).2.2.1,(rd (0,0,0,0,()) x2 (af ((Int.fdiv (IntKind.u64.wrap ((af (i+j)))) (2 ^ 1))))).2.2.2.1,target2,())).bind fun y1=>cond (decide (y1.1<0)) (nx0 x2 target2 n (af ((af ((Int.fdiv (IntKind.u64.wrap ((af (i+j)))) (2 ^ 1))))+1)) j) (nx0 x2 target2 n i (af ((Int.fdiv (IntKind.u64.wrap ((af (i+j)))) (2 ^ 1)))))else none) (ex0 x2 target2 n i)
def A0(x:List U8)(target:Int)(x2:List U8)(target2 n i:Int):Option (Int×Bool×Unit):=cond (decide (i<n)) (if 0≤i∧i<(x2.length:Int)then(yZ ((rd (0,0,0,0,()) x2 i).1,(rd (0,0,0,0,()) x2 i).2.1,(rd (0,0,0,0,()) x2 i).2.2.1,(rd (0,0,0,0,()) x2 i).2.2.2.1,target2,())).bind fun y1=>some (i,(y1.1==0),())else none) (some (i,false,()))
def T(lo0:Y3 (Int×Bool×Unit))(x:List U8)(target:Int):Option (Int×Bool×Unit):=lo0 x target (x.length:Int) 0 (x.length:Int)
def K0{R:Type}(k0:Nat)(K:au R):au R:=bF 0 (bI (fun env ob=>zrc k0 [1,1,1,1] env ob (K)) (K))
def L0:Y3 R:=fun x2 target2 n i j=>iter 0 [0,1,2,8,9,10] [0,1,2,8,9] (zrc k0 [1,1,1,0,0,0]) k [(0,.sl aC x2),(1,.int .i64 target2),(2,.fn 104 []),(8,.int .i64 n),(9,.int .i64 i),(10,.int .i64 j)] [] K
def H0:Y4 R:=fun x2 target2 n i=>K (.exit 0) [(0,.sl aC x2),(1,.int .i64 target2),(2,.fn 104 []),(8,.int .i64 n),(9,.int .i64 i)] []
theorem zs0:L0 k0 (k+1) K=R0 (L0 k0 k K) (H0 K):=by kernel_rfl
def G0{R:Type}(k0:Nat)(hx0:Y4 R):Nat→Y3 R
 |0=>fun _ _ _ _ _=>none
 |k+1=>R0 (G0 k0 hx0 k) hx0
theorem aS:∀ k,L0 k0 k K=G0 k0 (H0 K) k:=bP rfl fun k ih=>by rw[zs0,G0];(try simp only[ih]);try rfl
variable (x:List U8) (target:Int)
def aA:au (Int×Bool×Unit):=dw Tryz.prog [.tmp 6,.tmp 7] F9 F8 (x,target,())
theorem bf:H0 (K0 k0 (aA x target))=A0 x target:=by kernel_rfl
def FF:Option (Int×Bool×Unit):=T (G0 k0 (A0 x target) k0) x target
theorem aZ:dA Tryz.prog (aW [(104,[],Ia)]) aB k0 103 F9 F8 [] (x,target,())=FF k0 x target:=Eq.trans (b:=T (L0 k0 k0 (K0 k0 (aA x target))) x target) (by kernel_rfl) (by rw[FF];(try simp only[aS,bf]);try rfl)
def _root_.Go.Rv.Gg:=fun x:(List U8)×Int×Unit=>FF (300+x.1.length) x.1 x.2.1
abbrev _root_.Go.Rv.XG:aG:=⟨F9,F8,Gg,[]⟩
theorem _root_.Go.Rv.XF:aF Dr Tryz.prog 103 XG:=dJ mix (.c Yw .nil) (by kernel_rfl) fun x=>⟨aB,_,aZ _ _ _⟩
end vS
def Ql.T(f0:Int)(f1 f2:List U8)(id:Int):Option (Int×Bool×Unit):=(Gg (f2,id,())).bind fun y1=>some (y1.1,y1.2.1,())
def oO:=fun x:Int×(List U8)×(List U8)×Int×Unit=>Ql.T x.1 x.2.1 x.2.2.1 x.2.2.2.1
abbrev PX:aG:=⟨[.v true gI,.v false [CT.int .i64]],[(false,[CT.int .i64]),(false,[CT.bool])],oO,[]⟩
theorem Cc:aF Dr Tryz.prog 76 PX:=bC mix (.cf [104] XF .nil) (by kernel_rfl) fun x=>by kernel_rfl
def PO.T(f0:Int)(f1 f2:List U8)(id:Int):Option (Bool×Unit):=(qi (f0,f1,f2,id,())).bind fun y1=>cond y1.2.1 (some (true,())) (some ((id==0),()))
def mO:=fun x:Int×(List U8)×(List U8)×Int×Unit=>PO.T x.1 x.2.1 x.2.2.1 x.2.2.2.1
abbrev PE:aG:=⟨[.v true gI,.v false [CT.int .i64]],[(false,[CT.bool])],mO,[]⟩
theorem BV:aF Dr Tryz.prog 92 PE:=bC mix (.c Ci .nil) (by kernel_rfl) fun x=>by kernel_rfl
def GK.T(s:List U9):Option ((List U9)×Unit):=if s.length=0 then(@ite _ (some ([],())=if([]:List U9).length+s.length≤maxRow then some ((([]:List U9)++s),())else none) (Classical.propDecidable _) (if([]:List U9).length+s.length≤maxRow then some ((([]:List U9)++s),())else none) none)else if([]:List U9).length+s.length≤maxRow then some ((([]:List U9)++s),())else none
def BQ:=fun x:(List U9)×Unit=>GK.T x.1
abbrev Yf:aG:=⟨[.v false [CT.sl ct0]],[(false,[CT.sl ct0])],BQ,[]⟩
theorem Po:aF Dr Tryz.prog 74 Yf:=bC mix .nil (by kernel_rfl) fun x=>by kernel_rfl
def J7.T(l0 l1 l2 id:Int):Option (Int×Unit):=(qf (l0,id,())).bind fun y1=>some (y1.1,())
def zx:=fun x:U8=>J7.T x.1 x.2.1 x.2.2.1 x.2.2.2.1
abbrev JF:aG:=⟨[.v true ct0,.v false [CT.int .i64]],[(false,[CT.int .i64])],zx,[]⟩
theorem Zm:aF Dr Tryz.prog 142 JF:=bC mix (.c BX .nil) (by kernel_rfl) fun x=>by kernel_rfl
abbrev Gm:Is:=[.v false [CT.sl ct0],.v false [CT.int .i64],.cl 142 []]
abbrev Gj:Os:=[(false,[CT.int .i64]),(false,[CT.bool])]
namespace vU
def aB:Nat→List Nat×List Nat:=fun k=>if k=3 then([0,1,2,8,9,10],[0,1,2,8,9])else([],[])
def zrc{R:Type}(k0:Nat)(p:List Nat):Env→List Ob→au R→Option R:=bJ Tryz.prog (aW [(142,[],JF)]) 49 0 aB k0 (cO p (dI Tryz.prog 141))
def R0{R:Type}(nx0:tX R)(ex0:O6 R)(x2:List U9)(target2 n i j:Int):Option R:=cond (decide (i<j)) (if 0≤(af ((Int.fdiv (IntKind.u64.wrap ((af (i+j)))) (2 ^ 1))))∧(af ((Int.fdiv (IntKind.u64.wrap ((af (i+j)))) (2 ^ 1))))<(x2.length:Int)then(zx ((rd (0,0,0,()) x2 (af ((Int.fdiv (IntKind.u64.wrap ((af (i+j)))) (2 ^ 1))))).1,(rd (0,0,0,()) x2 (af ((Int.fdiv (IntKind.u64.wrap ((af (i+j)))) (2 ^ 1))))).2.1,(rd (0,0,0,()) x2 (af ((Int.fdiv (IntKind.u64.wrap ((af (i+j)))) (2 ^ 1))))).2.2.1,target2,())).bind fun y1=>cond (decide (y1.1<0)) (nx0 x2 target2 n (af ((af ((Int.fdiv (IntKind.u64.wrap ((af (i+j)))) (2 ^ 1))))+1)) j) (nx0 x2 target2 n i (af ((Int.fdiv (IntKind.u64.wrap ((af (i+j)))) (2 ^ 1)))))else none) (ex0 x2 target2 n i)
def A0(x:List U9)(target:Int)(x2:List U9)(target2 n i:Int):Option (Int×Bool×Unit):=cond (decide (i<n)) (if 0≤i∧i<(x2.length:Int)then(zx ((rd (0,0,0,()) x2 i).1,(rd (0,0,0,()) x2 i).2.1,(rd (0,0,0,()) x2 i).2.2.1,target2,())).bind fun y1=>some (i,(y1.1==0),())else none) (some (i,false,()))
def T(lo0:tX (Int×Bool×Unit))(x:List U9)(target:Int):Option (Int×Bool×Unit):=lo0 x target (x.length:Int) 0 (x.length:Int)
def K0{R:Type}(k0:Nat)(K:au R):au R:=bF 0 (bI (fun env ob=>zrc k0 [1,1,1,1] env ob (K)) (K))
def L0:tX R:=fun x2 target2 n i j=>iter 0 [0,1,2,8,9,10] [0,1,2,8,9] (zrc k0 [1,1,1,0,0,0]) k [(0,.sl ct0 x2),(1,.int .i64 target2),(2,.fn 142 []),(8,.int .i64 n),(9,.int .i64 i),(10,.int .i64 j)] [] K
def H0:O6 R:=fun x2 target2 n i=>K (.exit 0) [(0,.sl ct0 x2),(1,.int .i64 target2),(2,.fn 142 []),(8,.int .i64 n),(9,.int .i64 i)] []
theorem zs0:L0 k0 (k+1) K=R0 (L0 k0 k K) (H0 K):=by kernel_rfl
def G0{R:Type}(k0:Nat)(hx0:O6 R):Nat→tX R
 |0=>fun _ _ _ _ _=>none
 |k+1=>R0 (G0 k0 hx0 k) hx0
theorem aS:∀ k,L0 k0 k K=G0 k0 (H0 K) k:=bP rfl fun k ih=>by rw[zs0,G0];(try simp only[ih]);try rfl
variable (x:List U9) (target:Int)
def aA:au (Int×Bool×Unit):=dw Tryz.prog [.tmp 6,.tmp 7] Gm Gj (x,target,())
theorem bf:H0 (K0 k0 (aA x target))=A0 x target:=by kernel_rfl
def FF:Option (Int×Bool×Unit):=T (G0 k0 (A0 x target) k0) x target
theorem aZ:dA Tryz.prog (aW [(142,[],JF)]) aB k0 141 Gm Gj [] (x,target,())=FF k0 x target:=Eq.trans (b:=T (L0 k0 k0 (K0 k0 (aA x target))) x target) (by kernel_rfl) (by rw[FF];(try simp only[aS,bf]);try rfl)
def _root_.Go.Rv.Gn:=fun x:(List U9)×Int×Unit=>FF (300+x.1.length) x.1 x.2.1
abbrev _root_.Go.Rv.XK:aG:=⟨Gm,Gj,Gn,[]⟩
theorem _root_.Go.Rv.XJ:aF Dr Tryz.prog 141 XK:=dJ mix (.c Zm .nil) (by kernel_rfl) fun x=>⟨aB,_,aZ _ _ _⟩
end vU
def RP.T(list:List U9)(id:Int):Option (Int×Bool×Unit):=(Gn (list,id,())).bind fun y1=>some (y1.1,y1.2.1,())
def Dq:=fun x:(List U9)×Int×Unit=>RP.T x.1 x.2.1
abbrev aax:aG:=⟨[.v false [CT.sl ct0],.v false [CT.int .i64]],[(false,[CT.int .i64]),(false,[CT.bool])],Dq,[]⟩
theorem Z5:aF Dr Tryz.prog 120 aax:=bC mix (.cf [142] XJ .nil) (by kernel_rfl) fun x=>by kernel_rfl
def Kv.T(list:List U9)(l0 l1 l2:Int):Option ((List U9)×Unit):=(BQ (list,())).bind fun y1=>(Dq (list,l0,())).bind fun y2=>cond y2.2.1 (if 0≤y2.1∧y2.1<(y1.1.length:Int)then some ((y1.1.set ((y2.1).toNat) (l0,l1,l2,())),())else none) ((BP (y1.1,y2.1,[(l0,l1,l2,())],())).bind fun y3=>some (y3.1,()))
def qm:=fun x:(List U9)×U9=>Kv.T x.1 x.2.1 x.2.2.1 x.2.2.2.1
abbrev aaf:aG:=⟨[.v false [CT.sl ct0],.v true ct0],[(false,[CT.sl ct0])],qm,[]⟩
theorem ZJ:aF Dr Tryz.prog 102 aaf:=bC mix (.c Po (.c Z5 (.c Ya .nil))) (by kernel_rfl) fun x=>by kernel_rfl
def CY.T(s0 s1 s2 s3:Int)(s4 s5:List U8)(s6:List U9)(o0 o1 o2 o3 o4:Int):Option (Int×Int×Int×U1):=(oO (s3,s4,s5,o1,())).bind fun y1=>cond (decide (s2<(af (s1+s0)))) (some (0,0,7,s0,s1,s2,s3,s4,s5,s6,())) ((mO (s3,s4,s5,o2,())).bind fun y2=>cond (!y2.1) (some (0,0,4,s0,s1,s2,s3,s4,s5,s6,())) (cond (!y1.2.1) (cond ((s5.length:Int)==60) (some (0,0,6,s0,s1,s2,s3,s4,s5,s6,())) (cond (!y1.2.1) ((lV (s5,y1.1,[(0,0,0,0,())],())).bind fun y3=>if 0≤y1.1∧y1.1<(y3.1.length:Int)then(qg (s3,s4,(y3.1.set ((y1.1).toNat) (o1,o2,o3,o4,())),())).bind fun y4=>(wS (s6,s2,o1,())).bind fun y5=>if 0≤y1.1∧y1.1<(y4.2.1.length:Int)then(qm (s6,o1,(mn ((y4.2.1.getD ((y1.1).toNat) (0,0,())).2.1) (mx (af (s3 - y5.1)) 0)),(af (s2+s0)),())).bind fun y6=>some ((mn ((y4.2.1.getD ((y1.1).toNat) (0,0,())).2.1) (mx (af (s3 - y5.1)) 0)),(af (s2+s0)),0,s0,s1,s2,s3,s4,(y3.1.set ((y1.1).toNat) (o1,o2,o3,o4,())),y6.1,())else none else none) (if 0≤y1.1∧y1.1<(s5.length:Int)then(qg (s3,s4,(s5.set ((y1.1).toNat) (o1,o2,o3,o4,())),())).bind fun y7=>(wS (s6,s2,o1,())).bind fun y8=>if 0≤y1.1∧y1.1<(y7.2.1.length:Int)then(qm (s6,o1,(mn ((y7.2.1.getD ((y1.1).toNat) (0,0,())).2.1) (mx (af (s3 - y8.1)) 0)),(af (s2+s0)),())).bind fun y9=>some ((mn ((y7.2.1.getD ((y1.1).toNat) (0,0,())).2.1) (mx (af (s3 - y8.1)) 0)),(af (s2+s0)),0,s0,s1,s2,s3,s4,(s5.set ((y1.1).toNat) (o1,o2,o3,o4,())),y9.1,())else none else none))) (cond (!y1.2.1) ((lV (s5,y1.1,[(0,0,0,0,())],())).bind fun y10=>if 0≤y1.1∧y1.1<(y10.1.length:Int)then(qg (s3,s4,(y10.1.set ((y1.1).toNat) (o1,o2,o3,o4,())),())).bind fun y11=>(wS (s6,s2,o1,())).bind fun y12=>if 0≤y1.1∧y1.1<(y11.2.1.length:Int)then(qm (s6,o1,(mn ((y11.2.1.getD ((y1.1).toNat) (0,0,())).2.1) (mx (af (s3 - y12.1)) 0)),(af (s2+s0)),())).bind fun y13=>some ((mn ((y11.2.1.getD ((y1.1).toNat) (0,0,())).2.1) (mx (af (s3 - y12.1)) 0)),(af (s2+s0)),0,s0,s1,s2,s3,s4,(y10.1.set ((y1.1).toNat) (o1,o2,o3,o4,())),y13.1,())else none else none) (if 0≤y1.1∧y1.1<(s5.length:Int)then(qg (s3,s4,(s5.set ((y1.1).toNat) (o1,o2,o3,o4,())),())).bind fun y14=>(wS (s6,s2,o1,())).bind fun y15=>if 0≤y1.1∧y1.1<(y14.2.1.length:Int)then(qm (s6,o1,(mn ((y14.2.1.getD ((y1.1).toNat) (0,0,())).2.1) (mx (af (s3 - y15.1)) 0)),(af (s2+s0)),())).bind fun y16=>some ((mn ((y14.2.1.getD ((y1.1).toNat) (0,0,())).2.1) (mx (af (s3 - y15.1)) 0)),(af (s2+s0)),0,s0,s1,s2,s3,s4,(s5.set ((y1.1).toNat) (o1,o2,o3,o4,())),y16.1,())else none else none))))
def qh:=fun x:Int×Int×Int×Int×(List U8)×(List U8)×(List U9)×U6=>CY.T x.1 x.2.1 x.2.2.1 x.2.2.2.1 x.2.2.2.2.1 x.2.2.2.2.2.1 x.2.2.2.2.2.2.1 x.2.2.2.2.2.2.2.1 x.2.2.2.2.2.2.2.2.1 x.2.2.2.2.2.2.2.2.2.1 x.2.2.2.2.2.2.2.2.2.2.1 x.2.2.2.2.2.2.2.2.2.2.2.1
abbrev Zy:aG:=⟨[.m jg,.v true fZ],[(true,ct0)],qh,[]⟩
theorem YV:aF KN Tryz.prog 75 Zy:=bC mix (.c YI (.c aan (.c Cc (.c BV (.c Pn (.c ZJ .nil)))))) (by kernel_rfl) fun x=>by kernel_rfl
def QF.T(f0:Int)(f1 f2:List U8)(e0 e1 e2 e3 e4:Int):Option (Int×U3):=(oO (f0,f1,f2,e1,())).bind fun y1=>cond (e0==6) ((qi (f0,f1,f2,e1,())).bind fun y2=>cond y2.2.1 (some (5,f0,f1,f2,())) ((mO (f0,f1,f2,e2,())).bind fun y3=>cond (!y3.1) (some (4,f0,f1,f2,())) (cond (e0==1) (cond ((f2.length:Int)==60) (some (6,f0,f1,f2,())) (cond (e0==6) (cond ((f1.length:Int)==30) (some (6,f0,f1,f2,())) (cond (e0==1) ((lV (f2,y2.1,[(e1,e2,e3,e4,())],())).bind fun y4=>some (0,f0,f1,y4.1,())) ((mJ (f1,y2.1,[(e1,e2,e3,e4,())],())).bind fun y5=>some (0,f0,y5.1,f2,())))) (cond (e0==1) ((lV (f2,y2.1,[(e1,e2,e3,e4,())],())).bind fun y6=>some (0,f0,f1,y6.1,())) ((mJ (f1,y2.1,[(e1,e2,e3,e4,())],())).bind fun y7=>some (0,f0,y7.1,f2,()))))) (cond (e0==6) (cond ((f1.length:Int)==30) (some (6,f0,f1,f2,())) (cond (e0==1) ((lV (f2,y2.1,[(e1,e2,e3,e4,())],())).bind fun y8=>some (0,f0,f1,y8.1,())) ((mJ (f1,y2.1,[(e1,e2,e3,e4,())],())).bind fun y9=>some (0,f0,y9.1,f2,())))) (cond (e0==1) ((lV (f2,y2.1,[(e1,e2,e3,e4,())],())).bind fun y10=>some (0,f0,f1,y10.1,())) ((mJ (f1,y2.1,[(e1,e2,e3,e4,())],())).bind fun y11=>some (0,f0,y11.1,f2,()))))))) (cond y1.2.1 (some (5,f0,f1,f2,())) ((mO (f0,f1,f2,e2,())).bind fun y12=>cond (!y12.1) (some (4,f0,f1,f2,())) (cond (e0==1) (cond ((f2.length:Int)==60) (some (6,f0,f1,f2,())) (cond (e0==6) (cond ((f1.length:Int)==30) (some (6,f0,f1,f2,())) (cond (e0==1) ((lV (f2,y1.1,[(e1,e2,e3,e4,())],())).bind fun y13=>some (0,f0,f1,y13.1,())) ((mJ (f1,y1.1,[(e1,e2,e3,e4,())],())).bind fun y14=>some (0,f0,y14.1,f2,())))) (cond (e0==1) ((lV (f2,y1.1,[(e1,e2,e3,e4,())],())).bind fun y15=>some (0,f0,f1,y15.1,())) ((mJ (f1,y1.1,[(e1,e2,e3,e4,())],())).bind fun y16=>some (0,f0,y16.1,f2,()))))) (cond (e0==6) (cond ((f1.length:Int)==30) (some (6,f0,f1,f2,())) (cond (e0==1) ((lV (f2,y1.1,[(e1,e2,e3,e4,())],())).bind fun y17=>some (0,f0,f1,y17.1,())) ((mJ (f1,y1.1,[(e1,e2,e3,e4,())],())).bind fun y18=>some (0,f0,y18.1,f2,())))) (cond (e0==1) ((lV (f2,y1.1,[(e1,e2,e3,e4,())],())).bind fun y19=>some (0,f0,f1,y19.1,())) ((mJ (f1,y1.1,[(e1,e2,e3,e4,())],())).bind fun y20=>some (0,f0,y20.1,f2,())))))))
def wB:=fun x:Int×(List U8)×(List U8)×U6=>QF.T x.1 x.2.1 x.2.2.1 x.2.2.2.1 x.2.2.2.2.1 x.2.2.2.2.2.1 x.2.2.2.2.2.2.1 x.2.2.2.2.2.2.2.1
abbrev ZB:aG:=⟨[.m gI,.v true fZ],[(false,[CT.int .i64])],wB,[]⟩
theorem YX:aF Dr Tryz.prog 110 ZB:=bC mix (.c Cc (.c BV (.c Pn (.c Ci (.c Yb .nil))))) (by kernel_rfl) fun x=>by kernel_rfl
def PI.T(g0 g1 g2 g3 a0:Int):Option (Bool×Unit):=some ((g1==(a0,()).1),())
def Ho:=fun x:U6=>PI.T x.1 x.2.1 x.2.2.1 x.2.2.2.1 x.2.2.2.2.1
abbrev Hg:aG:=⟨[.v true aC,.r [CT.int .i64]],[(false,[CT.bool])],Ho,[]⟩
theorem Yr:aF Dr Tryz.prog 129 Hg:=bC mix .nil (by kernel_rfl) fun x=>by kernel_rfl
abbrev Gt:Is:=[.v false [CT.sl aC],.cl 129 [[CT.int .i64]]]
abbrev Gs:Os:=[(false,[CT.int .i64])]
namespace vW
def aB:Nat→List Nat×List Nat:=fun k=>if k=2 then([0,1,7,8],[4])else([],[])
def zrc{R:Type}(k0:Nat)(p:List Nat):Env→List Ob→au R→Option R:=bJ Tryz.prog (aW [(129,[],Hg)]) 19 0 aB k0 (cO p (dI Tryz.prog 147))
def R0{R:Type}(nx0:tV R)(ex0:Y2 R)(ex1:eY R)(s2:List U8)(f:Int×Unit)(t7x t8x:Int):Option R:=cond (decide (t8x<t7x)) (if 0≤t8x∧t8x<(s2.length:Int)then(Ho ((rd (0,0,0,0,()) s2 t8x).1,(rd (0,0,0,0,()) s2 t8x).2.1,(rd (0,0,0,0,()) s2 t8x).2.2.1,(rd (0,0,0,0,()) s2 t8x).2.2.2.1,f.1,())).bind fun y1=>cond y1.1 (ex0 t8x) (nx0 s2 f t7x (af (t8x+1)))else none) (ex1 ())
def A0(s:List U8)(f0:Int)(t4x:Int):Option (Int×Unit):=some (t4x,())
def A1(s:List U8)(f0:Int)(_u:Unit):Option (Int×Unit):=some ((-1),())
def T(lo0:tV (Int×Unit))(s:List U8)(f0:Int):Option (Int×Unit):=lo0 s (f0,()) (s.length:Int) 0
def K0{R:Type}(k0:Nat)(K:au R):au R:=bF 0 (bI (fun env ob=>zrc k0 [1,1] env ob (K)) (K))
def L0:tV R:=fun s2 f t7x t8x=>iter 0 [0,1,7,8] [4] (zrc k0 [1,0,1,0,0]) k [(0,.sl aC s2),(1,.fn 129 [.eptr [CT.int .i64] f 0]),(7,.int .i64 t7x),(8,.int .i64 t8x)] [] K
def H0:Y2 R:=fun t4x=>K .ret [(4,.int .i64 t4x)] []
def H1:eY R:=fun _=>K (.exit 0) [(4,.undef)] []
theorem zs0:L0 k0 (k+1) K=R0 (L0 k0 k K) (H0 K) (H1 K):=by kernel_rfl
def G0{R:Type}(k0:Nat)(hx0:Y2 R)(hx1:eY R):Nat→tV R
 |0=>fun _ _ _ _=>none
 |k+1=>R0 (G0 k0 hx0 hx1 k) hx0 hx1
theorem aS:∀ k,L0 k0 k K=G0 k0 (H0 K) (H1 K) k:=bP rfl fun k ih=>by rw[zs0,G0];(try simp only[ih]);try rfl
variable (s:List U8) (f0:Int)
def aA:au (Int×Unit):=dw Tryz.prog [.tmp 4] Gt Gs (s,f0,())
theorem bf:H0 (K0 k0 (aA s f0))=A0 s f0:=by kernel_rfl
theorem dB:H1 (K0 k0 (aA s f0))=A1 s f0:=by kernel_rfl
def FF:Option (Int×Unit):=T (G0 k0 (A0 s f0) (A1 s f0) k0) s f0
theorem aZ:dA Tryz.prog (aW [(129,[],Hg)]) aB k0 147 Gt Gs [] (s,f0,())=FF k0 s f0:=Eq.trans (b:=T (L0 k0 k0 (K0 k0 (aA s f0))) s f0) (by kernel_rfl) (by rw[FF];(try simp only[aS,bf,dB]);try rfl)
def _root_.Go.Rv.Gv:=fun x:(List U8)×Int×Unit=>FF (300+x.1.length) x.1 x.2.1
abbrev _root_.Go.Rv.XU:aG:=⟨Gt,Gs,Gv,[]⟩
theorem _root_.Go.Rv.XT:aF Dr Tryz.prog 147 XU:=dJ mix (.c Yr .nil) (by kernel_rfl) fun x=>⟨aB,_,aZ _ _ _⟩
end vW
def Pm.T(s:List U8)(f0:Int):Option (Bool×Unit):=(Gv (s,(f0,()).1,())).bind fun y1=>some ((decide (y1.1≥0)),())
def BO:=fun x:(List U8)×Int×Unit=>Pm.T x.1 x.2.1
abbrev XQ:aG:=⟨[.v false [CT.sl aC],.cl 129 [[CT.int .i64]]],[(false,[CT.bool])],BO,[]⟩
theorem XO:aF Dr Tryz.prog 128 XQ:=bC mix (.cf [129] XT .nil) (by kernel_rfl) fun x=>by kernel_rfl
def PG.T(m0 m1 m2 m3 a0:Int):Option (Bool×Unit):=some ((m1==(a0,()).1),())
def Hl:=fun x:U6=>PG.T x.1 x.2.1 x.2.2.1 x.2.2.2.1 x.2.2.2.2.1
abbrev Hf:aG:=⟨[.v true aC,.r [CT.int .i64]],[(false,[CT.bool])],Hl,[]⟩
theorem Yq:aF Dr Tryz.prog 131 Hf:=bC mix .nil (by kernel_rfl) fun x=>by kernel_rfl
abbrev Gq:Is:=[.v false [CT.sl aC],.cl 131 [[CT.int .i64]]]
abbrev Gp:Os:=[(false,[CT.int .i64])]
namespace vV
def aB:Nat→List Nat×List Nat:=fun k=>if k=2 then([0,1,7,8],[4])else([],[])
def zrc{R:Type}(k0:Nat)(p:List Nat):Env→List Ob→au R→Option R:=bJ Tryz.prog (aW [(131,[],Hf)]) 19 0 aB k0 (cO p (dI Tryz.prog 124))
def R0{R:Type}(nx0:tV R)(ex0:Y2 R)(ex1:eY R)(s2:List U8)(f:Int×Unit)(t7x t8x:Int):Option R:=cond (decide (t8x<t7x)) (if 0≤t8x∧t8x<(s2.length:Int)then(Hl ((rd (0,0,0,0,()) s2 t8x).1,(rd (0,0,0,0,()) s2 t8x).2.1,(rd (0,0,0,0,()) s2 t8x).2.2.1,(rd (0,0,0,0,()) s2 t8x).2.2.2.1,f.1,())).bind fun y1=>cond y1.1 (ex0 t8x) (nx0 s2 f t7x (af (t8x+1)))else none) (ex1 ())
def A0(s:List U8)(f0:Int)(t4x:Int):Option (Int×Unit):=some (t4x,())
def A1(s:List U8)(f0:Int)(_u:Unit):Option (Int×Unit):=some ((-1),())
def T(lo0:tV (Int×Unit))(s:List U8)(f0:Int):Option (Int×Unit):=lo0 s (f0,()) (s.length:Int) 0
def K0{R:Type}(k0:Nat)(K:au R):au R:=bF 0 (bI (fun env ob=>zrc k0 [1,1] env ob (K)) (K))
def L0:tV R:=fun s2 f t7x t8x=>iter 0 [0,1,7,8] [4] (zrc k0 [1,0,1,0,0]) k [(0,.sl aC s2),(1,.fn 131 [.eptr [CT.int .i64] f 0]),(7,.int .i64 t7x),(8,.int .i64 t8x)] [] K
def H0:Y2 R:=fun t4x=>K .ret [(4,.int .i64 t4x)] []
def H1:eY R:=fun _=>K (.exit 0) [(4,.undef)] []
theorem zs0:L0 k0 (k+1) K=R0 (L0 k0 k K) (H0 K) (H1 K):=by kernel_rfl
def G0{R:Type}(k0:Nat)(hx0:Y2 R)(hx1:eY R):Nat→tV R
 |0=>fun _ _ _ _=>none
 |k+1=>R0 (G0 k0 hx0 hx1 k) hx0 hx1
theorem aS:∀ k,L0 k0 k K=G0 k0 (H0 K) (H1 K) k:=bP rfl fun k ih=>by rw[zs0,G0];(try simp only[ih]);try rfl
variable (s:List U8) (f0:Int)
def aA:au (Int×Unit):=dw Tryz.prog [.tmp 4] Gq Gp (s,f0,())
theorem bf:H0 (K0 k0 (aA s f0))=A0 s f0:=by kernel_rfl
theorem dB:H1 (K0 k0 (aA s f0))=A1 s f0:=by kernel_rfl
def FF:Option (Int×Unit):=T (G0 k0 (A0 s f0) (A1 s f0) k0) s f0
theorem aZ:dA Tryz.prog (aW [(131,[],Hf)]) aB k0 124 Gq Gp [] (s,f0,())=FF k0 s f0:=Eq.trans (b:=T (L0 k0 k0 (K0 k0 (aA s f0))) s f0) (by kernel_rfl) (by rw[FF];(try simp only[aS,bf,dB]);try rfl)
def _root_.Go.Rv.Gu:=fun x:(List U8)×Int×Unit=>FF (300+x.1.length) x.1 x.2.1
abbrev _root_.Go.Rv.XR:aG:=⟨Gq,Gp,Gu,[]⟩
theorem _root_.Go.Rv.XP:aF Dr Tryz.prog 124 XR:=dJ mix (.c Yq .nil) (by kernel_rfl) fun x=>⟨aB,_,aZ _ _ _⟩
end vV
def Pj.T(s:List U8)(f0:Int):Option (Bool×Unit):=(Gu (s,(f0,()).1,())).bind fun y1=>some ((decide (y1.1≥0)),())
def BN:=fun x:(List U8)×Int×Unit=>Pj.T x.1 x.2.1
abbrev XM:aG:=⟨[.v false [CT.sl aC],.cl 131 [[CT.int .i64]]],[(false,[CT.bool])],BN,[]⟩
theorem XL:aF Dr Tryz.prog 130 XM:=bC mix (.cf [131] XP .nil) (by kernel_rfl) fun x=>by kernel_rfl
def P9.T(f0:Int)(f1 f2:List U8)(id:Int):Option (Bool×Unit):=(BO (f1,id,())).bind fun y1=>cond (!y1.1) ((BN (f2,id,())).bind fun y2=>some ((!y2.1),())) (some (false,()))
def Cf:=fun x:Int×(List U8)×(List U8)×Int×Unit=>P9.T x.1 x.2.1 x.2.2.1 x.2.2.2.1
abbrev YN:aG:=⟨[.v true gI,.v false [CT.int .i64]],[(false,[CT.bool])],Cf,[]⟩
theorem Yz:aF Dr Tryz.prog 111 YN:=bC mix (.cf [129] XO (.cf [131] XL .nil)) (by kernel_rfl) fun x=>by kernel_rfl
def Dh.T(f0:Int)(f1 f2:List U8)(e0 e1 e2 e3 e4:Int):Option (Int×U3):=(qi (f0,f1,f2,e1,())).bind fun y1=>(oO (f0,f1,f2,e1,())).bind fun y2=>cond (e0==1) ((wB (f0,f1,f2,e0,e1,e2,e3,e4,())).bind fun y3=>some (y3.1,y3.2.1,y3.2.2.1,y3.2.2.2.1,())) (cond (e0==6) ((wB (f0,f1,f2,e0,e1,e2,e3,e4,())).bind fun y4=>some (y4.1,y4.2.1,y4.2.2.1,y4.2.2.2.1,())) (cond (e0==7) (cond (!y1.2.1) (some (4,f0,f1,f2,())) ((Cf (f0,f1,f2,e1,())).bind fun y5=>cond (!y5.1) (some (9,f0,f1,f2,())) ((yY (f1,y1.1,(af (y1.1+1)),())).bind fun y6=>some (0,f0,y6.1,f2,())))) (cond (e0==8) (cond (e1==0) (some (0,e3,f1,f2,())) (cond (!y1.2.1) (some (4,f0,f1,f2,())) (if 0≤y1.1∧y1.1<(f1.length:Int)then some (0,f0,(f1.set ((y1.1).toNat) ((f1.getD ((y1.1).toNat) (0,0,0,0,())).1,(f1.getD ((y1.1).toNat) (0,0,0,0,())).2.1,e3,(f1.getD ((y1.1).toNat) (0,0,0,0,())).2.2.2.1,())),f2,())else none))) (cond (!y2.2.1) (some (4,f0,f1,f2,())) (cond (e0==2) ((Gw (f2,y2.1,(af (y2.1+1)),())).bind fun y7=>some (0,f0,f1,y7.1,())) (cond (e0==3) (if 0≤y2.1∧y2.1<(f2.length:Int)then some (0,f0,f1,(f2.set ((y2.1).toNat) ((f2.getD ((y2.1).toNat) (0,0,0,0,())).1,(f2.getD ((y2.1).toNat) (0,0,0,0,())).2.1,e3,(f2.getD ((y2.1).toNat) (0,0,0,0,())).2.2.2.1,())),())else none) (cond (e0==4) (if 0≤y2.1∧y2.1<(f2.length:Int)then some (0,f0,f1,(f2.set ((y2.1).toNat) ((f2.getD ((y2.1).toNat) (0,0,0,0,())).1,(f2.getD ((y2.1).toNat) (0,0,0,0,())).2.1,(f2.getD ((y2.1).toNat) (0,0,0,0,())).2.2.1,e3,())),())else none) ((mO (f0,f1,f2,e2,())).bind fun y8=>cond (!y8.1) (some (4,f0,f1,f2,())) (if 0≤y2.1∧y2.1<(f2.length:Int)then some (0,f0,f1,(f2.set ((y2.1).toNat) ((f2.getD ((y2.1).toNat) (0,0,0,0,())).1,e2,(f2.getD ((y2.1).toNat) (0,0,0,0,())).2.2.1,(f2.getD ((y2.1).toNat) (0,0,0,0,())).2.2.2.1,())),())else none)))))))))
def mQ:=fun x:Int×(List U8)×(List U8)×U6=>Dh.T x.1 x.2.1 x.2.2.1 x.2.2.2.1 x.2.2.2.2.1 x.2.2.2.2.2.1 x.2.2.2.2.2.2.1 x.2.2.2.2.2.2.2.1
abbrev Qu:aG:=⟨[.m gI,.v true fZ],[(false,[CT.int .i64])],mQ,[]⟩
theorem Zr:aF Dr Tryz.prog 80 Qu:=bC mix (.c Cc (.c BV (.c Ci (.c YX (.c Yz (.c Yc (.c X5 .nil))))))) (by kernel_rfl) fun x=>by kernel_rfl
def KF.T(o0 o1 o2 o3 o4:Int):Option (U6):=cond (o0==3) (some (8,o1,o2,o3,o4,())) (cond (o0==6) (some (6,o1,o2,o3,o4,())) (cond (o0==7) (some (7,o1,o2,o3,o4,())) (some (0,o1,o2,o3,o4,()))))
def mY:=fun x:U6=>KF.T x.1 x.2.1 x.2.2.1 x.2.2.2.1 x.2.2.2.2.1
abbrev Rh:aG:=⟨[.v true fZ],[(true,fZ)],mY,[]⟩
theorem QB:aF Dr Tryz.prog 72 Rh:=bC mix .nil (by kernel_rfl) fun x=>by kernel_rfl
end Go.Rv
end
