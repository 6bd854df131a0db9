/- What functions come to on pure values (printed by a program of ours). -/
import Derived.Test.YtmgahpicfjpjaaaGreatEM10
set_option linter.unusedVariables false
set_option linter.unusedSimpArgs false
set_option linter.unusedSectionVars false
set_option maxRecDepth 100000
noncomputable section
namespace Go.Rv
open Go.Proofs
variable {Dr:Kn} {R:Type} (k0 k:Nat) (K:ai R)
def JM.T(m0 m1 m2 m3 id:Int):Option (Int×Unit):=(qo (m0,id,())).bind fun y1=>some (y1.1,())
def zy:=fun x:U5=>JM.T x.1 x.2.1 x.2.2.1 x.2.2.2.1 x.2.2.2.2.1
abbrev Jc:aG:=⟨[.v true aC,.v false [CT.int .i64]],[(false,[CT.int .i64])],zy,[]⟩
theorem aac:aF Dr Tryz.prog 117 Jc:=aW mix (.c CO .nil) (by kernel_rfl) fun x=>by kernel_rfl
abbrev He:Is:=[.v false [CT.sl aC],.v false [CT.int .i64],.cl 117 []]
abbrev G9:Os:=[(false,[CT.int .i64]),(false,[CT.bool])]
namespace wB
def ay:Nat→List Nat×List Nat:=fun k=>if k=3 then([0,1,2,8,9,10],[0,1,2,8,9])else([],[])
def zrc{R:Type}(k0:Nat)(p:List Nat):Env→List Ob→ai R→Option R:=bD Tryz.prog (aP [(117,[],Jc)]) 49 0 ay k0 (bQ p (cZ Tryz.prog 116))
def R0{R:Type}(nx0:Y3 R)(ex0:Y4 R)(x2:List U7)(target2 n i j:Int):Option R:=cond (decide (i<j)) (if 0≤(af ((Int.fdiv (IntKind.u64.wrap ((af (i+j)))) (2 ^ 1))))∧(af ((Int.fdiv (IntKind.u64.wrap ((af (i+j)))) (2 ^ 1))))<(x2.length:Int)then(zy ((rd (0,0,0,0,()) x2 (af ((Int.fdiv (IntKind.u64.wrap ((af (i+j)))) (2 ^ 1))))).1,(rd (0,0,0,0,()) x2 (af ((Int.fdiv (IntKind.u64.wrap ((af (i+j)))) (2 ^ 1))))).2.1,(rd (0,0,0,0,()) x2 (af ((Int.fdiv (IntKind.u64.wrap ((af (i+j)))) (2 ^ 1))))).2.2.1,(rd (0,0,0,0,()) x2 (af ((Int.fdiv (IntKind.u64.wrap ((af (i+j)))) (2 ^ 1))))).2.2.2.1,target2,())).bind fun y1=>cond (decide (y1.1<0)) (nx0 x2 target2 n (af ((af ((Int.fdiv (IntKind.u64.wrap ((af (i+j)))) (2 ^ 1))))+1)) j) (nx0 x2 target2 n i (af ((Int.fdiv (IntKind.u64.wrap ((af (i+j)))) (2 ^ 1)))))else none) (ex0 x2 target2 n i)
def A0(x:List U7)(target:Int)(x2:List U7)(target2 n i:Int):Option (Int×Bool×Unit):=cond (decide (i<n)) (if 0≤i∧i<(x2.length:Int)then(zy ((rd (0,0,0,0,()) x2 i).1,(rd (0,0,0,0,()) x2 i).2.1,(rd (0,0,0,0,()) x2 i).2.2.1,(rd (0,0,0,0,()) x2 i).2.2.2.1,target2,())).bind fun y1=>some (i,(y1.1==0),())else none) (some (i,false,()))
def T(lo0:Y3 (Int×Bool×Unit))(x:List U7)(target:Int):Option (Int×Bool×Unit):=lo0 x target (x.length:Int) 0 (x.length:Int)
def K0{R:Type}(k0:Nat)(K:ai R):ai R:=aY 0 (bg (fun env ob=>zrc k0 [1,1,1,1] env ob (K)) (K))
def L0:Y3 R:=fun x2 target2 n i j=>iter 0 [0,1,2,8,9,10] [0,1,2,8,9] (zrc k0 [1,1,1,0,0,0]) k [(0,.sl aC x2),(1,.int .i64 target2),(2,.fn 117 []),(8,.int .i64 n),(9,.int .i64 i),(10,.int .i64 j)] [] K
def H0:Y4 R:=fun x2 target2 n i=>K (.exit 0) [(0,.sl aC x2),(1,.int .i64 target2),(2,.fn 117 []),(8,.int .i64 n),(9,.int .i64 i)] []
theorem zs0:L0 k0 (k+1) K=R0 (L0 k0 k K) (H0 K):=by kernel_rfl
def G0{R:Type}(k0:Nat)(hx0:Y4 R):Nat→Y3 R
 |0=>fun _ _ _ _ _=>none
 |k+1=>R0 (G0 k0 hx0 k) hx0
theorem aK:∀ k,L0 k0 k K=G0 k0 (H0 K) k:=bG rfl fun k ih=>by rw[zs0,G0];(try simp only[ih]);try rfl
variable (x:List U7) (target:Int)
def aA:ai (Int×Bool×Unit):=bW Tryz.prog [.tmp 6,.tmp 7] He G9 (x,target,())
theorem aS:H0 (K0 k0 (aA x target))=A0 x target:=by kernel_rfl
def FF:Option (Int×Bool×Unit):=T (G0 k0 (A0 x target) k0) x target
theorem aQ:bZ Tryz.prog (aP [(117,[],Jc)]) ay k0 116 He G9 [] (x,target,())=FF k0 x target:=Eq.trans (b:=T (L0 k0 k0 (K0 k0 (aA x target))) x target) (by kernel_rfl) (by rw[FF];(try simp only[aK,aS]);try rfl)
def _root_.Go.Rv.Hg:=fun x:(List U7)×Int×Unit=>FF (300+x.1.length) x.1 x.2.1
abbrev _root_.Go.Rv.Zm:aG:=⟨He,G9,Hg,[]⟩
theorem _root_.Go.Rv.Zl:aF Dr Tryz.prog 116 Zm:=dh mix (.c aac .nil) (by kernel_rfl) fun x=>⟨ay,_,aQ _ _ _⟩
end wB
def Si.T(f0:Int)(f1 f2:List U7)(id:Int):Option (Int×Bool×Unit):=(Hg (f2,id,())).bind fun y1=>some (y1.1,y1.2.1,())
def oQ:=fun x:Int×(List U7)×(List U7)×Int×Unit=>Si.T x.1 x.2.1 x.2.2.1 x.2.2.2.1
abbrev RH:aG:=⟨[.v true eH,.v false [CT.int .i64]],[(false,[CT.int .i64]),(false,[CT.bool])],oQ,[]⟩
theorem CS:aF Dr Tryz.prog 89 RH:=aW mix (.cf [117] Zl .nil) (by kernel_rfl) fun x=>by kernel_rfl
def Ky.T(g0 g1 g2 g3 id:Int):Option (Int×Unit):=(qo (g0,id,())).bind fun y1=>some (y1.1,())
def zC:=fun x:U5=>Ky.T x.1 x.2.1 x.2.2.1 x.2.2.2.1 x.2.2.2.2.1
abbrev Jt:aG:=⟨[.v true aC,.v false [CT.int .i64]],[(false,[CT.int .i64])],zC,[]⟩
theorem aaf:aF Dr Tryz.prog 142 Jt:=aW mix (.c CO .nil) (by kernel_rfl) fun x=>by kernel_rfl
abbrev Hl:Is:=[.v false [CT.sl aC],.v false [CT.int .i64],.cl 142 []]
abbrev Hf:Os:=[(false,[CT.int .i64]),(false,[CT.bool])]
namespace wC
def ay:Nat→List Nat×List Nat:=fun k=>if k=3 then([0,1,2,8,9,10],[0,1,2,8,9])else([],[])
def zrc{R:Type}(k0:Nat)(p:List Nat):Env→List Ob→ai R→Option R:=bD Tryz.prog (aP [(142,[],Jt)]) 49 0 ay k0 (bQ p (cZ Tryz.prog 141))
def R0{R:Type}(nx0:Y3 R)(ex0:Y4 R)(x2:List U7)(target2 n i j:Int):Option R:=cond (decide (i<j)) (if 0≤(af ((Int.fdiv (IntKind.u64.wrap ((af (i+j)))) (2 ^ 1))))∧(af ((Int.fdiv (IntKind.u64.wrap ((af (i+j)))) (2 ^ 1))))<(x2.length:Int)then(zC ((rd (0,0,0,0,()) x2 (af ((Int.fdiv (IntKind.u64.wrap ((af (i+j)))) (2 ^ 1))))).1,(rd (0,0,0,0,()) x2 (af ((Int.fdiv (IntKind.u64.wrap ((af (i+j)))) (2 ^ 1))))).2.1,(rd (0,0,0,0,()) x2 (af ((Int.fdiv (IntKind.u64.wrap ((af (i+j)))) (2 ^ 1))))).2.2.1,(rd (0,0,0,0,()) x2 (af ((Int.fdiv (IntKind.u64.wrap ((af (i+j)))) (2 ^ 1))))).2.2.2.1,target2,())).bind fun y1=>cond (decide (y1.1<0)) (nx0 x2 target2 n (af ((af ((Int.fdiv (IntKind.u64.wrap ((af (i+j)))) (2 ^ 1))))+1)) j) (nx0 x2 target2 n i (af ((Int.fdiv (IntKind.u64.wrap ((af (i+j)))) (2 ^ 1)))))else none) (ex0 x2 target2 n i)
def A0(x:List U7)(target:Int)(x2:List U7)(target2 n i:Int):Option (Int×Bool×Unit):=cond (decide (i<n)) (if 0≤i∧i<(x2.length:Int)then(zC ((rd (0,0,0,0,()) x2 i).1,(rd (0,0,0,0,()) x2 i).2.1,(rd (0,0,0,0,()) x2 i).2.2.1,(rd (0,0,0,0,()) x2 i).2.2.2.1,target2,())).bind fun y1=>some (i,(y1.1==0),())else none) (some (i,false,()))
def T(lo0:Y3 (Int×Bool×Unit))(x:List U7)(target:Int):Option (Int×Bool×Unit):=lo0 x target (x.length:Int) 0 (x.length:Int)
def K0{R:Type}(k0:Nat)(K:ai R):ai R:=aY 0 (bg (fun env ob=>zrc k0 [1,1,1,1] env ob (K)) (K))
def L0:Y3 R:=fun x2 target2 n i j=>iter 0 [0,1,2,8,9,10] [0,1,2,8,9] (zrc k0 [1,1,1,0,0,0]) k [(0,.sl aC x2),(1,.int .i64 target2),(2,.fn 142 []),(8,.int .i64 n),(9,.int .i64 i),(10,.int .i64 j)] [] K
def H0:Y4 R:=fun x2 target2 n i=>K (.exit 0) [(0,.sl aC x2),(1,.int .i64 target2),(2,.fn 142 []),(8,.int .i64 n),(9,.int .i64 i)] []
theorem zs0:L0 k0 (k+1) K=R0 (L0 k0 k K) (H0 K):=by kernel_rfl
def G0{R:Type}(k0:Nat)(hx0:Y4 R):Nat→Y3 R
 |0=>fun _ _ _ _ _=>none
 |k+1=>R0 (G0 k0 hx0 k) hx0
theorem aK:∀ k,L0 k0 k K=G0 k0 (H0 K) k:=bG rfl fun k ih=>by rw[zs0,G0];(try simp only[ih]);try rfl
variable (x:List U7) (target:Int)
def aA:ai (Int×Bool×Unit):=bW Tryz.prog [.tmp 6,.tmp 7] Hl Hf (x,target,())
theorem aS:H0 (K0 k0 (aA x target))=A0 x target:=by kernel_rfl
def FF:Option (Int×Bool×Unit):=T (G0 k0 (A0 x target) k0) x target
theorem aQ:bZ Tryz.prog (aP [(142,[],Jt)]) ay k0 141 Hl Hf [] (x,target,())=FF k0 x target:=Eq.trans (b:=T (L0 k0 k0 (K0 k0 (aA x target))) x target) (by kernel_rfl) (by rw[FF];(try simp only[aK,aS]);try rfl)
def _root_.Go.Rv.Hq:=fun x:(List U7)×Int×Unit=>FF (300+x.1.length) x.1 x.2.1
abbrev _root_.Go.Rv.Zo:aG:=⟨Hl,Hf,Hq,[]⟩
theorem _root_.Go.Rv.Zn:aF Dr Tryz.prog 141 Zo:=dh mix (.c aaf .nil) (by kernel_rfl) fun x=>⟨ay,_,aQ _ _ _⟩
end wC
def LP.T(f0:Int)(f1 f2:List U7)(id:Int):Option (Int×Bool×Unit):=(Hq (f1,id,())).bind fun y1=>some (y1.1,y1.2.1,())
def qx:=fun x:Int×(List U7)×(List U7)×Int×Unit=>LP.T x.1 x.2.1 x.2.2.1 x.2.2.2.1
abbrev abm:aG:=⟨[.v true eH,.v false [CT.int .i64]],[(false,[CT.int .i64]),(false,[CT.bool])],qx,[]⟩
theorem CV:aF Dr Tryz.prog 122 abm:=aW mix (.cf [142] Zn .nil) (by kernel_rfl) fun x=>by kernel_rfl
def Ry.T(f0:Int)(f1 f2:List U7)(id:Int):Option (Bool×Unit):=(qx (f0,f1,f2,id,())).bind fun y1=>cond y1.2.1 (some (true,())) (some ((id==0),()))
def mF:=fun x:Int×(List U7)×(List U7)×Int×Unit=>Ry.T x.1 x.2.1 x.2.2.1 x.2.2.2.1
abbrev Rl:aG:=⟨[.v true eH,.v false [CT.int .i64]],[(false,[CT.bool])],mF,[]⟩
theorem CJ:aF Dr Tryz.prog 107 Rl:=aW mix (.c CV .nil) (by kernel_rfl) fun x=>by kernel_rfl
def Ub.T(f0:Int)(f1 f2:List U7)(id:Int):Option (Int×Unit):=cond (id==0) (some (f0,())) ((qx (f0,f1,f2,id,())).bind fun y1=>if 0≤y1.1∧y1.1<(f1.length:Int)then some ((rd (0,0,0,0,()) f1 y1.1).2.2.1,())else none)
def zV:=fun x:Int×(List U7)×(List U7)×Int×Unit=>Ub.T x.1 x.2.1 x.2.2.1 x.2.2.2.1
abbrev Td:aG:=⟨[.v true eH,.v false [CT.int .i64]],[(false,[CT.int .i64])],zV,[]⟩
theorem abL:aF Dr Tryz.prog 179 Td:=aW mix (.c CV .nil) (by kernel_rfl) fun x=>by kernel_rfl
abbrev oP:Is:=[.v true eH,.v false [CT.int .i64]]
abbrev oO:Os:=[(false,[CT.int .i64])]
namespace jk
def dD(rc:Int×(List U7)×(List U7)×Int×Unit→Option (Int×Unit)):dW:=aP [(170,[],⟨oP,oO,rc,[]⟩),(179,[],Td)]
def FB:Code:=((Tryz.prog.funcs[170]?).bind (·.body)).getD .skip
def ay:Nat→List Nat×List Nat:=fun k=>if k=3 then([1,2,5,11,12,13],[1,2,5])else if k=9 then([1,2,5,29,30,31],[1,2,5])else([],[])
def R0{R:Type}(rc:Int×(List U7)×(List U7)×Int×Unit→Option (Int×Unit))(nx0:(Int→Int→(List U7)→Int→Int→Int→(List U7)→(List U7)→Option R))(ex0:(Int→Int→Int→(List U7)→(List U7)→Option R))(id2 sum:Int)(t11x:List U7)(t12x t13x f:Int)(f3 f4:List U7):Option R:=cond (decide (t13x<t12x)) (if 0≤t13x∧t13x<(t11x.length:Int)then cond ((rd (0,0,0,0,()) t11x t13x).2.1==id2) ((rc (f,f3,f4,(rd (0,0,0,0,()) t11x t13x).1,())).bind fun y1=>nx0 id2 (af (sum+y1.1)) t11x t12x (af (t13x+1)) f f3 f4) (nx0 id2 sum t11x t12x (af (t13x+1)) f f3 f4)else none) (ex0 id2 sum f f3 f4)
def R1{R:Type}(rc:Int×(List U7)×(List U7)×Int×Unit→Option (Int×Unit))(nx1:(Int→Int→(List U7)→Int→Int→Int→(List U7)→(List U7)→Option R))(ex1:(Int→Int→Int→(List U7)→(List U7)→Option R))(id2 sum:Int)(t29x:List U7)(t30x t31x f:Int)(f3 f4:List U7):Option R:=cond (decide (t31x<t30x)) (if 0≤t31x∧t31x<(t29x.length:Int)then cond ((rd (0,0,0,0,()) t29x t31x).2.1==id2) (nx1 id2 (af (sum+(rd (0,0,0,0,()) t29x t31x).2.2.1)) t29x t30x (af (t31x+1)) f f3 f4) (nx1 id2 sum t29x t30x (af (t31x+1)) f f3 f4)else none) (ex1 id2 sum f f3 f4)
def A0(rc:Int×(List U7)×(List U7)×Int×Unit→Option (Int×Unit))(lo1:(Int→Int→(List U7)→Int→Int→Int→(List U7)→(List U7)→Option (Int×Unit)))(f0:Int)(f1 f2:List U7)(id:Int)(id2 sum f:Int)(f3 f4:List U7):Option (Int×Unit):=lo1 id2 sum f4 (f4.length:Int) 0 f f3 f4
def A1(rc:Int×(List U7)×(List U7)×Int×Unit→Option (Int×Unit))(f0:Int)(f1 f2:List U7)(id:Int)(id2 sum f:Int)(f3 f4:List U7):Option (Int×Unit):=(zV (f,f3,f4,id2,())).bind fun y1=>some ((mn sum y1.1),())
def T(rc:Int×(List U7)×(List U7)×Int×Unit→Option (Int×Unit))(lo0:(Int→Int→(List U7)→Int→Int→Int→(List U7)→(List U7)→Option (Int×Unit)))(f0:Int)(f1 f2:List U7)(id:Int):Option (Int×Unit):=lo0 id 0 f1 (f1.length:Int) 0 f0 f1 f2
def ahx{R:Type}(rc:Int×(List U7)×(List U7)×Int×Unit→Option (Int×Unit))(k0:Nat):Env→List Ob→ai R→Option R:=fun env ob K=>bD Tryz.prog (dD rc) 49 0 ay k0 (bQ [1,1,0,1,0,0] FB) env ob K
def K0{R:Type}(rc:Int×(List U7)×(List U7)×Int×Unit→Option (Int×Unit))(k0:Nat)(K:ai R):ai R:=aY 0 (bg (fun env ob=>bD Tryz.prog (dD rc) 49 0 ay k0 (bQ [1,1,1] FB) env ob (K)) (K))
def ahw{R:Type}(rc:Int×(List U7)×(List U7)×Int×Unit→Option (Int×Unit))(k0:Nat):Env→List Ob→ai R→Option R:=fun env ob K=>bD Tryz.prog (dD rc) 49 0 ay k0 (bQ [1,1,1,0,1,0,0] FB) env ob K
def K1{R:Type}(rc:Int×(List U7)×(List U7)×Int×Unit→Option (Int×Unit))(k0:Nat)(K:ai R):ai R:=aY 2 (bg (fun env ob=>bD Tryz.prog (dD rc) 49 0 ay k0 (bQ [1,1,1,1] FB) env ob (K)) (K))
def L0{R:Type}(rc:Int×(List U7)×(List U7)×Int×Unit→Option (Int×Unit))(k0 k:Nat)(K:ai R)(id2 sum:Int)(t11x:List U7)(t12x t13x f:Int)(f3 f4:List U7):Option R:=iter 0 [1,2,5,11,12,13] [1,2,5] (ahx rc k0) k [(1,.int .i64 id2),(2,.ptr 0 0 0 0),(5,.int .i64 sum),(11,.sl aC t11x),(12,.int .i64 t12x),(13,.int .i64 t13x)] [.box [.int .i64 f,.sl aC f3,.sl aC f4]] K
def L1{R:Type}(rc:Int×(List U7)×(List U7)×Int×Unit→Option (Int×Unit))(k0 k:Nat)(K:ai R)(id2 sum:Int)(t29x:List U7)(t30x t31x f:Int)(f3 f4:List U7):Option R:=iter 0 [1,2,5,29,30,31] [1,2,5] (ahw rc k0) k [(1,.int .i64 id2),(2,.ptr 0 0 0 0),(5,.int .i64 sum),(29,.sl aC t29x),(30,.int .i64 t30x),(31,.int .i64 t31x)] [.box [.int .i64 f,.sl aC f3,.sl aC f4]] K
theorem zs0{R:Type}(rc:Int×(List U7)×(List U7)×Int×Unit→Option (Int×Unit))(k0 k:Nat)(K:ai R)(id2 sum:Int)(t11x:List U7)(t12x t13x f:Int)(f3 f4:List U7):L0 rc k0 (k+1) K id2 sum t11x t12x t13x f f3 f4=R0 rc (L0 rc k0 k K) (fun id2 sum f f3 f4=>K (.exit 0) [(1,.int .i64 id2),(2,.ptr 0 0 0 0),(5,.int .i64 sum)] [.box [.int .i64 f,.sl aC f3,.sl aC f4]]) id2 sum t11x t12x t13x f f3 f4:=by kernel_rfl
theorem zs1{R:Type}(rc:Int×(List U7)×(List U7)×Int×Unit→Option (Int×Unit))(k0 k:Nat)(K:ai R)(id2 sum:Int)(t29x:List U7)(t30x t31x f:Int)(f3 f4:List U7):L1 rc k0 (k+1) K id2 sum t29x t30x t31x f f3 f4=R1 rc (L1 rc k0 k K) (fun id2 sum f f3 f4=>K (.exit 2) [(1,.int .i64 id2),(2,.ptr 0 0 0 0),(5,.int .i64 sum)] [.box [.int .i64 f,.sl aC f3,.sl aC f4]]) id2 sum t29x t30x t31x f f3 f4:=by kernel_rfl
theorem aS(rc:Int×(List U7)×(List U7)×Int×Unit→Option (Int×Unit))(k0:Nat)(f0:Int)(f1 f2:List U7)(id:Int)(id2 sum f:Int)(f3 f4:List U7):K0 (R:=(Int×Unit)) rc k0 (bW Tryz.prog [.tmp 4] oP oO (f0,f1,f2,id,())) (.exit 0) [(1,.int .i64 id2),(2,.ptr 0 0 0 0),(5,.int .i64 sum)] [.box [.int .i64 f,.sl aC f3,.sl aC f4]]=A0 rc (L1 (R:=(Int×Unit)) rc k0 k0 (K1 (R:=(Int×Unit)) rc k0 ((bW Tryz.prog [.tmp 4] oP oO (f0,f1,f2,id,()))))) f0 f1 f2 id id2 sum f f3 f4:=by kernel_rfl
theorem bU(rc:Int×(List U7)×(List U7)×Int×Unit→Option (Int×Unit))(k0:Nat)(f0:Int)(f1 f2:List U7)(id:Int)(id2 sum f:Int)(f3 f4:List U7):K1 (R:=(Int×Unit)) rc k0 (bW Tryz.prog [.tmp 4] oP oO (f0,f1,f2,id,())) (.exit 2) [(1,.int .i64 id2),(2,.ptr 0 0 0 0),(5,.int .i64 sum)] [.box [.int .i64 f,.sl aC f3,.sl aC f4]]=A1 rc f0 f1 f2 id id2 sum f f3 f4:=by kernel_rfl
theorem ahv(rc:Int×(List U7)×(List U7)×Int×Unit→Option (Int×Unit))(k0:Nat)(f0:Int)(f1 f2:List U7)(id:Int):bZ Tryz.prog (dD rc) ay k0 170 oP oO [] (f0,f1,f2,id,())=T rc (L0 (R:=(Int×Unit)) rc k0 k0 (K0 (R:=(Int×Unit)) rc k0 ((bW Tryz.prog [.tmp 4] oP oO (f0,f1,f2,id,()))))) f0 f1 f2 id:=by kernel_rfl
def G0{R:Type}(rc:Int×(List U7)×(List U7)×Int×Unit→Option (Int×Unit))(k0:Nat)(hx0:(Int→Int→Int→(List U7)→(List U7)→Option R)):Nat→Int→Int→(List U7)→Int→Int→Int→(List U7)→(List U7)→Option R
 |0,_,_,_,_,_,_,_,_=>none
 |k+1,id2,sum,t11x,t12x,t13x,f,f3,f4=>R0 rc (G0 rc k0 hx0 k) hx0 id2 sum t11x t12x t13x f f3 f4
theorem aK{R:Type}(rc:Int×(List U7)×(List U7)×Int×Unit→Option (Int×Unit))(k0:Nat)(K:ai R):∀ k:Nat,L0 rc k0 k K=G0 rc k0 (fun id2 sum f f3 f4=>K (.exit 0) [(1,.int .i64 id2),(2,.ptr 0 0 0 0),(5,.int .i64 sum)] [.box [.int .i64 f,.sl aC f3,.sl aC f4]]) k:=by
 intro k
 induction k with
 |zero=>funext id2 sum t11x t12x t13x f f3 f4;rfl
 |succ k ih=>funext id2 sum t11x t12x t13x f f3 f4;rw[zs0,G0];(try simp only[ih]);try rfl
def G1{R:Type}(rc:Int×(List U7)×(List U7)×Int×Unit→Option (Int×Unit))(k0:Nat)(hx1:(Int→Int→Int→(List U7)→(List U7)→Option R)):Nat→Int→Int→(List U7)→Int→Int→Int→(List U7)→(List U7)→Option R
 |0,_,_,_,_,_,_,_,_=>none
 |k+1,id2,sum,t29x,t30x,t31x,f,f3,f4=>R1 rc (G1 rc k0 hx1 k) hx1 id2 sum t29x t30x t31x f f3 f4
theorem dO{R:Type}(rc:Int×(List U7)×(List U7)×Int×Unit→Option (Int×Unit))(k0:Nat)(K:ai R):∀ k:Nat,L1 rc k0 k K=G1 rc k0 (fun id2 sum f f3 f4=>K (.exit 2) [(1,.int .i64 id2),(2,.ptr 0 0 0 0),(5,.int .i64 sum)] [.box [.int .i64 f,.sl aC f3,.sl aC f4]]) k:=by
 intro k
 induction k with
 |zero=>funext id2 sum t29x t30x t31x f f3 f4;rfl
 |succ k ih=>funext id2 sum t29x t30x t31x f f3 f4;rw[zs1,G1];(try simp only[ih,aK]);try rfl
def FF(rc:Int×(List U7)×(List U7)×Int×Unit→Option (Int×Unit))(k0:Nat)(f0:Int)(f1 f2:List U7)(id:Int):Option (Int×Unit):=T rc (G0 rc k0 (A0 rc (G1 rc k0 (A1 rc f0 f1 f2 id) k0) f0 f1 f2 id) k0) f0 f1 f2 id
theorem aQ(rc:Int×(List U7)×(List U7)×Int×Unit→Option (Int×Unit))(k0:Nat)(f0:Int)(f1 f2:List U7)(id:Int):bZ Tryz.prog (dD rc) ay k0 170 oP oO [] (f0,f1,f2,id,())=FF rc k0 f0 f1 f2 id:=by
 rw[ahv,FF];(try simp only[aK,dO,aS,bU]);try rfl
def _root_.Go.Rv.uI:Nat→Int×(List U7)×(List U7)×Int×Unit→Option (Int×Unit)
 |0,_=>none
 |n+1,x=>(fun(f0:Int) (f1 f2:List U7) (id:Int)=>FF (uI n) (300+f1.length+f2.length) f0 f1 f2 id) x.1 x.2.1 x.2.2.1 x.2.2.2.1
def _root_.Go.Rv.Lm:Int×(List U7)×(List U7)×Int×Unit→Option (Int×Unit):=fun x=>(fun(f0:Int) (f1 f2:List U7) (id:Int)=>uI (300+f1.length+f2.length) x) x.1 x.2.1 x.2.2.1 x.2.2.2.1
theorem agt(rc:Int×(List U7)×(List U7)×Int×Unit→Option (Int×Unit))(hr:aF Dr Tryz.prog 170 ⟨oP,oO,rc,[]⟩):∀ g fs S,(dD rc) g fs=some S→aF Dr Tryz.prog g S:=O5 (.cons hr (.cons abL .nil))
abbrev _root_.Go.Rv.Ld:aG:=⟨oP,oO,Lm,[]⟩
theorem _root_.Go.Rv.Ru:∀ n,aF Dr Tryz.prog 170 ⟨oP,oO,uI n,[]⟩
 |0=>⟨fun args w=>jH (by kernel_rfl) args w,fun w T J x y vals avals _ _ _ _ h=>by cases h⟩
 |n+1=>OE (by kernel_rfl) (agt (uI n) (Ru n)) (by kernel_rfl) fun x y h=>⟨ay,_,(aQ (uI n) _ x.1 x.2.1 x.2.2.1 x.2.2.2.1).trans h⟩
theorem _root_.Go.Rv.aa2:aF Dr Tryz.prog 170 Ld:=⟨fun args w=>jH (by kernel_rfl) args w,fun w T J x y vals avals h1 h2 h3 h4 h5 h6=>(Ru _).2 w T J x y vals avals h1 h2 h3 h4 h5 h6⟩
end jk
abbrev JJ:Is:=[.v true eH,.v false [CT.int .i64]]
abbrev Jj:Os:=[(false,[CT.sl ct0]),(false,[CT.sl [CT.int .i64]]),(false,[CT.sl [CT.int .i64]])]
namespace iP
def ay:Nat→List Nat×List Nat:=fun k=>if k=3 then([1,2,7,8,9,18,19,20],[1,2,7,8,9])else if k=9 then([1,7,8,9,48,49,50],[7,8,9])else([],[])
def zrc{R:Type}(k0:Nat)(p:List Nat):Env→List Ob→ai R→Option R:=bD Tryz.prog (aP [(170,[],Ld)]) 78 0 ay k0 (bQ p (cZ Tryz.prog 154))
def R0{R:Type}(nx0:Y5 R)(ex0:Y6 R)(id2:Int)(t18x:List U7)(t19x t20x f:Int)(f3 f4:List U7)(items:List U8)(groups members:List (Int×Unit)):Option R:=cond (decide (t20x<t19x)) (if 0≤t20x∧t20x<(t18x.length:Int)then cond ((rd (0,0,0,0,()) t18x t20x).2.1==id2) ((Lm (f,f3,f4,(rd (0,0,0,0,()) t18x t20x).1,())).bind fun y1=>if items.length+[((af ((items.length:Int)+1)),y1.1,(rd (0,0,0,0,()) t18x t20x).2.2.2.1,())].length≤maxRow then if groups.length+[(t20x,())].length≤maxRow then nx0 id2 t18x t19x (af (t20x+1)) f f3 f4 (items++[((af ((items.length:Int)+1)),y1.1,(rd (0,0,0,0,()) t18x t20x).2.2.2.1,())]) (groups++[(t20x,())]) members else none else none) (nx0 id2 t18x t19x (af (t20x+1)) f f3 f4 items groups members)else none) (ex0 id2 f f3 f4 items groups members)
def R1{R:Type}(nx1:Y7 R)(ex1:Y8 R)(id2:Int)(t48x:List U7)(t49x t50x:Int)(items:List U8)(groups members:List (Int×Unit)):Option R:=cond (decide (t50x<t49x)) (if 0≤t50x∧t50x<(t48x.length:Int)then cond ((rd (0,0,0,0,()) t48x t50x).2.1==id2) (if items.length+[((af ((items.length:Int)+1)),(rd (0,0,0,0,()) t48x t50x).2.2.1,(rd (0,0,0,0,()) t48x t50x).2.2.2.1,())].length≤maxRow then if members.length+[(t50x,())].length≤maxRow then nx1 id2 t48x t49x (af (t50x+1)) (items++[((af ((items.length:Int)+1)),(rd (0,0,0,0,()) t48x t50x).2.2.1,(rd (0,0,0,0,()) t48x t50x).2.2.2.1,())]) groups (members++[(t50x,())])else none else none) (nx1 id2 t48x t49x (af (t50x+1)) items groups members)else none) (ex1 items groups members)
def A0(lo1:Y7 ((List U8)×(List (Int×Unit))×(List (Int×Unit))×Unit))(f0:Int)(f1 f2:List U7)(id:Int)(id2 f:Int)(f3 f4:List U7)(items:List U8)(groups members:List (Int×Unit)):Option ((List U8)×(List (Int×Unit))×(List (Int×Unit))×Unit):=lo1 id2 f4 (f4.length:Int) 0 items groups members
def A1(f0:Int)(f1 f2:List U7)(id:Int)(items:List U8)(groups members:List (Int×Unit)):Option ((List U8)×(List (Int×Unit))×(List (Int×Unit))×Unit):=some (items,groups,members,())
def T(lo0:Y5 ((List U8)×(List (Int×Unit))×(List (Int×Unit))×Unit))(f0:Int)(f1 f2:List U7)(id:Int):Option ((List U8)×(List (Int×Unit))×(List (Int×Unit))×Unit):=lo0 id f1 (f1.length:Int) 0 f0 f1 f2 ([]:List U8) ([]:List (Int×Unit)) ([]:List (Int×Unit))
def K0{R:Type}(k0:Nat)(K:ai R):ai R:=aY 0 (bg (fun env ob=>zrc k0 [1,1,1] env ob (K)) (K))
def K1{R:Type}(k0:Nat)(K:ai R):ai R:=aY 2 (bg (fun env ob=>zrc k0 [1,1,1,1] env ob (K)) (K))
def L0:Y5 R:=fun id2 t18x t19x t20x f f3 f4 items groups members=>iter 0 [1,2,7,8,9,18,19,20] [1,2,7,8,9] (zrc k0 [1,1,0,1,0,0]) k [(1,.int .i64 id2),(2,.ptr 0 0 0 0),(7,.own 1),(8,.own 2),(9,.own 3),(18,.sl aC t18x),(19,.int .i64 t19x),(20,.int .i64 t20x)] [.box [.int .i64 f,.sl aC f3,.sl aC f4],.arr ct0 items,.arr [CT.int .i64] groups,.arr [CT.int .i64] members] K
def L1:Y7 R:=fun id2 t48x t49x t50x items groups members=>iter 0 [1,7,8,9,48,49,50] [7,8,9] (zrc k0 [1,1,1,0,1,0,0]) k [(1,.int .i64 id2),(7,.own 0),(8,.own 1),(9,.own 2),(48,.sl aC t48x),(49,.int .i64 t49x),(50,.int .i64 t50x)] [.arr ct0 items,.arr [CT.int .i64] groups,.arr [CT.int .i64] members] K
def H0:Y6 R:=fun id2 f f3 f4 items groups members=>K (.exit 0) [(1,.int .i64 id2),(2,.ptr 0 0 0 0),(7,.own 1),(8,.own 2),(9,.own 3)] [.box [.int .i64 f,.sl aC f3,.sl aC f4],.arr ct0 items,.arr [CT.int .i64] groups,.arr [CT.int .i64] members]
def H1:Y8 R:=fun items groups members=>K (.exit 2) [(7,.own 0),(8,.own 1),(9,.own 2)] [.arr ct0 items,.arr [CT.int .i64] groups,.arr [CT.int .i64] members]
theorem zs0:L0 k0 (k+1) K=R0 (L0 k0 k K) (H0 K):=by kernel_rfl
theorem zs1:L1 k0 (k+1) K=R1 (L1 k0 k K) (H1 K):=by kernel_rfl
def G0{R:Type}(k0:Nat)(hx0:Y6 R):Nat→Y5 R
 |0=>fun _ _ _ _ _ _ _ _ _ _=>none
 |k+1=>R0 (G0 k0 hx0 k) hx0
theorem aK:∀ k,L0 k0 k K=G0 k0 (H0 K) k:=bG rfl fun k ih=>by rw[zs0,G0];(try simp only[ih]);try rfl
def G1{R:Type}(k0:Nat)(hx1:Y8 R):Nat→Y7 R
 |0=>fun _ _ _ _ _ _ _=>none
 |k+1=>R1 (G1 k0 hx1 k) hx1
theorem dO:∀ k,L1 k0 k K=G1 k0 (H1 K) k:=bG rfl fun k ih=>by rw[zs1,G1];(try simp only[ih,aK]);try rfl
variable (f0:Int) (f1 f2:List U7) (id:Int)
def aA:ai ((List U8)×(List (Int×Unit))×(List (Int×Unit))×Unit):=bW Tryz.prog [.tmp 4,.tmp 5,.tmp 6] JJ Jj (f0,f1,f2,id,())
theorem aS:H0 (K0 k0 (aA f0 f1 f2 id))=A0 (L1 k0 k0 (K1 k0 (aA f0 f1 f2 id))) f0 f1 f2 id:=by kernel_rfl
theorem bU:H1 (K1 k0 (aA f0 f1 f2 id))=A1 f0 f1 f2 id:=by kernel_rfl
def FF:Option ((List U8)×(List (Int×Unit))×(List (Int×Unit))×Unit):=T (G0 k0 (A0 (G1 k0 (A1 f0 f1 f2 id) k0) f0 f1 f2 id) k0) f0 f1 f2 id
theorem aQ:bZ Tryz.prog (aP [(170,[],Ld)]) ay k0 154 JJ Jj [] (f0,f1,f2,id,())=FF k0 f0 f1 f2 id:=Eq.trans (b:=T (L0 k0 k0 (K0 k0 (aA f0 f1 f2 id))) f0 f1 f2 id) (by kernel_rfl) (by rw[FF];(try simp only[aK,dO,aS,bU]);try rfl)
def _root_.Go.Rv.Dt:=fun x:Int×(List U7)×(List U7)×Int×Unit=>FF (300+x.2.1.length+x.2.2.1.length) x.1 x.2.1 x.2.2.1 x.2.2.2.1
abbrev _root_.Go.Rv.Lh:aG:=⟨JJ,Jj,Dt,[]⟩
theorem _root_.Go.Rv.aa4:aF Dr Tryz.prog 154 Lh:=dh mix (.c aa2 .nil) (by kernel_rfl) fun x=>⟨ay,_,aQ _ _ _ _ _⟩
end iP
abbrev Ie:Is:=[.v false [CT.sl ct0],.v true ct0]
abbrev Ib:Os:=[(false,[CT.int .i64])]
namespace rD
def ay:Nat→List Nat×List Nat:=fun k=>if k=2 then([0,3,7,8],[4])else([],[])
def zrc{R:Type}(k0:Nat)(p:List Nat):Env→List Ob→ai R→Option R:=bD Tryz.prog (aP []) 19 0 ay k0 (bQ p (cZ Tryz.prog 173))
def R0{R:Type}(nx0:Y9 R)(ex0:Y2 R)(ex1:dF R)(s2:List U8)(t7x t8x v v3 v4:Int):Option R:=cond (decide (t8x<t7x)) (if 0≤t8x∧t8x<(s2.length:Int)then cond ((v==(rd (0,0,0,()) s2 t8x).1)&&((v3==(rd (0,0,0,()) s2 t8x).2.1)&&((v4==(rd (0,0,0,()) s2 t8x).2.2.1)&&true))) (ex0 t8x) (nx0 s2 t7x (af (t8x+1)) v v3 v4)else none) (ex1 ())
def A0(s:List U8)(v0 v1 v2:Int)(t4x:Int):Option (Int×Unit):=some (t4x,())
def A1(s:List U8)(v0 v1 v2:Int)(_u:Unit):Option (Int×Unit):=some ((-1),())
def T(lo0:Y9 (Int×Unit))(s:List U8)(v0 v1 v2:Int):Option (Int×Unit):=lo0 s (s.length:Int) 0 v0 v1 v2
def K0{R:Type}(k0:Nat)(K:ai R):ai R:=aY 0 (bg (fun env ob=>zrc k0 [1,1] env ob (K)) (K))
def L0:Y9 R:=fun s2 t7x t8x v v3 v4=>iter 0 [0,3,7,8] [4] (zrc k0 [1,0,1,0,0]) k [(0,.sl ct0 s2),(3,.ptr 0 0 0 0),(7,.int .i64 t7x),(8,.int .i64 t8x)] [.box [.int .i64 v,.int .i64 v3,.int .i64 v4]] K
def H0:Y2 R:=fun t4x=>K .ret [(4,.int .i64 t4x)] []
def H1:dF R:=fun _=>K (.exit 0) [(4,.undef)] []
theorem zs0:L0 k0 (k+1) K=R0 (L0 k0 k K) (H0 K) (H1 K):=by kernel_rfl
def G0{R:Type}(k0:Nat)(hx0:Y2 R)(hx1:dF R):Nat→Y9 R
 |0=>fun _ _ _ _ _ _=>none
 |k+1=>R0 (G0 k0 hx0 hx1 k) hx0 hx1
theorem aK:∀ k,L0 k0 k K=G0 k0 (H0 K) (H1 K) k:=bG rfl fun k ih=>by rw[zs0,G0];(try simp only[ih]);try rfl
variable (s:List U8) (v0 v1 v2:Int)
def aA:ai (Int×Unit):=bW Tryz.prog [.tmp 4] Ie Ib (s,v0,v1,v2,())
theorem aS:H0 (K0 k0 (aA s v0 v1 v2))=A0 s v0 v1 v2:=by kernel_rfl
theorem bU:H1 (K0 k0 (aA s v0 v1 v2))=A1 s v0 v1 v2:=by kernel_rfl
def FF:Option (Int×Unit):=T (G0 k0 (A0 s v0 v1 v2) (A1 s v0 v1 v2) k0) s v0 v1 v2
theorem aQ:bZ Tryz.prog (aP []) ay k0 173 Ie Ib [] (s,v0,v1,v2,())=FF k0 s v0 v1 v2:=Eq.trans (b:=T (L0 k0 k0 (K0 k0 (aA s v0 v1 v2))) s v0 v1 v2) (by kernel_rfl) (by rw[FF];(try simp only[aK,aS,bU]);try rfl)
def _root_.Go.Rv.Cm:=fun x:(List U8)×U8=>FF (300+x.1.length) x.1 x.2.1 x.2.2.1 x.2.2.2.1
abbrev _root_.Go.Rv.ZW:aG:=⟨Ie,Ib,Cm,[]⟩
theorem _root_.Go.Rv.ZV:aF Dr Tryz.prog 173 ZW:=dh mix .nil (by kernel_rfl) fun x=>⟨ay,_,aQ _ _ _ _ _⟩
end rD
def UR.T(a0 a1 a2:Int)(a'0:List U8):Option (Int×Unit):=(Cm ((a'0,()).1,a0,a1,a2,())).bind fun y1=>some (y1.1,())
def uU:=fun x:Int×Int×Int×(List U8)×Unit=>UR.T x.1 x.2.1 x.2.2.1 x.2.2.2.1
abbrev Uf:aG:=⟨[.v true ct0,.r [CT.sl ct0]],[(false,[CT.int .i64])],uU,[]⟩
theorem acN:aF Dr Tryz.prog 172 Uf:=aW mix (.c ZV .nil) (by kernel_rfl) fun x=>by kernel_rfl
def Tz.T(a0 a1 a2 amount all:Int):Option (Bool×Unit):=cond (decide (amount≥0)) ((zB (a1,all,amount,a2,())).bind fun y1=>some ((decide (y1.1≤0)),())) (some (false,()))
def zL:=fun x:U5=>Tz.T x.1 x.2.1 x.2.2.1 x.2.2.2.1 x.2.2.2.2.1
abbrev Sv:aG:=⟨[.v true ct0,.v false [CT.int .i64],.v false [CT.int .i64]],[(false,[CT.bool])],zL,[]⟩
theorem aa1:aF Dr Tryz.prog 174 Sv:=aW mix (.c Rk .nil) (by kernel_rfl) fun x=>by kernel_rfl
def ach.T(x:Int):Option (Int×Unit):=cond (decide (x≥4294967296)) (cond (decide ((Int.fdiv x (2 ^ 32))≥65536)) (cond (decide ((Int.fdiv (Int.fdiv x (2 ^ 32)) (2 ^ 16))≥256)) (if 0≤(IntKind.u8.wrap ((Int.fdiv (Int.fdiv (Int.fdiv x (2 ^ 32)) (2 ^ 16)) (2 ^ 8))))∧(IntKind.u8.wrap ((Int.fdiv (Int.fdiv (Int.fdiv x (2 ^ 32)) (2 ^ 16)) (2 ^ 8))))<((kz).size:Int)then some ((af ((af ((af (32+16))+8))+(af ((bt (kz) (IntKind.u8.wrap ((Int.fdiv (Int.fdiv (Int.fdiv x (2 ^ 32)) (2 ^ 16)) (2 ^ 8))))))))),())else none) (if 0≤(IntKind.u8.wrap ((Int.fdiv (Int.fdiv x (2 ^ 32)) (2 ^ 16))))∧(IntKind.u8.wrap ((Int.fdiv (Int.fdiv x (2 ^ 32)) (2 ^ 16))))<((kz).size:Int)then some ((af ((af (32+16))+(af ((bt (kz) (IntKind.u8.wrap ((Int.fdiv (Int.fdiv x (2 ^ 32)) (2 ^ 16))))))))),())else none)) (cond (decide ((Int.fdiv x (2 ^ 32))≥256)) (if 0≤(IntKind.u8.wrap ((Int.fdiv (Int.fdiv x (2 ^ 32)) (2 ^ 8))))∧(IntKind.u8.wrap ((Int.fdiv (Int.fdiv x (2 ^ 32)) (2 ^ 8))))<((kz).size:Int)then some ((af ((af (32+8))+(af ((bt (kz) (IntKind.u8.wrap ((Int.fdiv (Int.fdiv x (2 ^ 32)) (2 ^ 8))))))))),())else none) (if 0≤(IntKind.u8.wrap ((Int.fdiv x (2 ^ 32))))∧(IntKind.u8.wrap ((Int.fdiv x (2 ^ 32))))<((kz).size:Int)then some ((af (32+(af ((bt (kz) (IntKind.u8.wrap ((Int.fdiv x (2 ^ 32))))))))),())else none))) (cond (decide (x≥65536)) (cond (decide ((Int.fdiv x (2 ^ 16))≥256)) (if 0≤(IntKind.u8.wrap ((Int.fdiv (Int.fdiv x (2 ^ 16)) (2 ^ 8))))∧(IntKind.u8.wrap ((Int.fdiv (Int.fdiv x (2 ^ 16)) (2 ^ 8))))<((kz).size:Int)then some ((af ((af ((af (0+16))+8))+(af ((bt (kz) (IntKind.u8.wrap ((Int.fdiv (Int.fdiv x (2 ^ 16)) (2 ^ 8))))))))),())else none) (if 0≤(IntKind.u8.wrap ((Int.fdiv x (2 ^ 16))))∧(IntKind.u8.wrap ((Int.fdiv x (2 ^ 16))))<((kz).size:Int)then some ((af ((af (0+16))+(af ((bt (kz) (IntKind.u8.wrap ((Int.fdiv x (2 ^ 16))))))))),())else none)) (cond (decide (x≥256)) (if 0≤(IntKind.u8.wrap ((Int.fdiv x (2 ^ 8))))∧(IntKind.u8.wrap ((Int.fdiv x (2 ^ 8))))<((kz).size:Int)then some ((af ((af (0+8))+(af ((bt (kz) (IntKind.u8.wrap ((Int.fdiv x (2 ^ 8))))))))),())else none) (if 0≤(IntKind.u8.wrap (x))∧(IntKind.u8.wrap (x))<((kz).size:Int)then some ((af (0+(af ((bt (kz) (IntKind.u8.wrap (x))))))),())else none)))
def Df:=fun x:Int×Unit=>ach.T x.1
abbrev aa9:aG:=⟨[.v false [CT.int .u64]],[(false,[CT.int .i64])],Df,[]⟩
theorem aay:aF Dr Tryz.prog 210 aa9:=aW mix .nil (by kernel_rfl) fun x=>by kernel_rfl
def Rh.T(x:Int):Option (Int×Unit):=(Df (x,())).bind fun y1=>some ((af (64 - y1.1)),())
def CB:=fun x:Int×Unit=>Rh.T x.1
abbrev Ij:aG:=⟨[.v false [CT.int .u64]],[(false,[CT.int .i64])],CB,[]⟩
theorem ZX:aF Dr Tryz.prog 199 Ij:=aW mix (.c aay .nil) (by kernel_rfl) fun x=>by kernel_rfl
abbrev Jo:Is:=[.v false [CT.int .u64],.v false [CT.int .u64],.v false [CT.int .u64]]
abbrev IJ:Os:=[(false,[CT.int .u64]),(false,[CT.int .u64])]
namespace lT
def ay:Nat→List Nat×List Nat:=fun k=>if k=17 then([2,8,9,10,11,13,14,15,16],[2,8,9,10,11,13,14,15])else if k=24 then([2,8,9,10,14,15,16,17,18],[2,8,14,15,17,18])else([],[])
def zrc{R:Type}(k0:Nat)(p:List Nat):Env→List Ob→ai R→Option R:=bD Tryz.prog (aP [(199,[],Ij)]) 135 0 ay k0 (bQ p (cZ Tryz.prog 193))
def R0{R:Type}(nx0:uH R)(ex0:zu R)(y2 s yn1 yn0 un32 un1 un0 q1 rhat:Int):Option R:=cond (decide (q1≥4294967296)) (cond (decide ((IntKind.u64.wrap (rhat+yn1))≥4294967296)) (ex0 y2 s yn1 yn0 un32 un1 un0 (IntKind.u64.wrap (q1 - 1))) (nx0 y2 s yn1 yn0 un32 un1 un0 (IntKind.u64.wrap (q1 - 1)) (IntKind.u64.wrap (rhat+yn1)))) (cond (decide ((IntKind.u64.wrap (q1*yn0))>(IntKind.u64.wrap ((IntKind.u64.wrap (4294967296*rhat))+un1)))) (cond (decide ((IntKind.u64.wrap (rhat+yn1))≥4294967296)) (ex0 y2 s yn1 yn0 un32 un1 un0 (IntKind.u64.wrap (q1 - 1))) (nx0 y2 s yn1 yn0 un32 un1 un0 (IntKind.u64.wrap (q1 - 1)) (IntKind.u64.wrap (rhat+yn1)))) (ex0 y2 s yn1 yn0 un32 un1 un0 q1))
def R1{R:Type}(nx1:uH R)(ex1:QY R)(y2 s yn1 yn0 un0 q1 rhat un21 q0:Int):Option R:=cond (decide (q0≥4294967296)) (cond (decide ((IntKind.u64.wrap (rhat+yn1))≥4294967296)) (ex1 y2 s un0 q1 un21 (IntKind.u64.wrap (q0 - 1))) (nx1 y2 s yn1 yn0 un0 q1 (IntKind.u64.wrap (rhat+yn1)) un21 (IntKind.u64.wrap (q0 - 1)))) (cond (decide ((IntKind.u64.wrap (q0*yn0))>(IntKind.u64.wrap ((IntKind.u64.wrap (4294967296*rhat))+un0)))) (cond (decide ((IntKind.u64.wrap (rhat+yn1))≥4294967296)) (ex1 y2 s un0 q1 un21 (IntKind.u64.wrap (q0 - 1))) (nx1 y2 s yn1 yn0 un0 q1 (IntKind.u64.wrap (rhat+yn1)) un21 (IntKind.u64.wrap (q0 - 1)))) (ex1 y2 s un0 q1 un21 q0))
def A0(lo1:uH (U9))(hi lo y:Int)(y2 s yn1 yn0 un32 un1 un0 q1:Int):Option (U9):=if yn1=0 then none else lo1 y2 s yn1 yn0 un0 q1 (IntKind.u64.wrap ((IntKind.u64.wrap ((IntKind.u64.wrap ((IntKind.u64.wrap (un32*4294967296))+un1)) - (IntKind.u64.wrap (q1*y2)))) - (IntKind.u64.wrap ((IntKind.u64.wrap (Int.tdiv (IntKind.u64.wrap ((IntKind.u64.wrap ((IntKind.u64.wrap (un32*4294967296))+un1)) - (IntKind.u64.wrap (q1*y2)))) yn1))*yn1)))) (IntKind.u64.wrap ((IntKind.u64.wrap ((IntKind.u64.wrap (un32*4294967296))+un1)) - (IntKind.u64.wrap (q1*y2)))) (IntKind.u64.wrap (Int.tdiv (IntKind.u64.wrap ((IntKind.u64.wrap ((IntKind.u64.wrap (un32*4294967296))+un1)) - (IntKind.u64.wrap (q1*y2)))) yn1))
def A1(hi lo y:Int)(y2 s un0 q1 un21 q0:Int):Option (U9):=if s<0 then none else some ((IntKind.u64.wrap ((IntKind.u64.wrap (q1*4294967296))+q0)),(Int.fdiv (IntKind.u64.wrap ((IntKind.u64.wrap ((IntKind.u64.wrap (un21*4294967296))+un0)) - (IntKind.u64.wrap (q0*y2)))) (2 ^ (min ((s:Int)).toNat 64))),())
def T(lo0:uH (U9))(hi lo y:Int):Option (U9):=cond (y==0) (none) (cond (decide (y≤hi)) (none) (cond (hi==0) (if y=0 then none else if y=0 then none else some ((IntKind.u64.wrap (Int.tdiv lo y)),(Int.tmod lo y),())) ((CB (y,())).bind fun y1=>if(IntKind.u64.wrap (y1.1))<0 then none else if(IntKind.u64.wrap (y1.1))<0 then none else if(IntKind.u64.wrap (64 - (IntKind.u64.wrap (y1.1))))<0 then none else if(IntKind.u64.wrap (y1.1))<0 then none else if(Int.fdiv (IntKind.u64.wrap (y*2 ^ (min (((IntKind.u64.wrap (y1.1)):Int)).toNat 64))) (2 ^ 32))=0 then none else lo0 (IntKind.u64.wrap (y*2 ^ (min (((IntKind.u64.wrap (y1.1)):Int)).toNat 64))) (IntKind.u64.wrap (y1.1)) (Int.fdiv (IntKind.u64.wrap (y*2 ^ (min (((IntKind.u64.wrap (y1.1)):Int)).toNat 64))) (2 ^ 32)) (IntKind.u64.wrap (((BitVec.ofInt 64 (IntKind.u64.wrap (y*2 ^ (min (((IntKind.u64.wrap (y1.1)):Int)).toNat 64)))) &&& (BitVec.ofInt 64 4294967295)).toNat)) (IntKind.u64.wrap (((BitVec.ofInt 64 (IntKind.u64.wrap (hi*2 ^ (min (((IntKind.u64.wrap (y1.1)):Int)).toNat 64)))) ||| (BitVec.ofInt 64 (Int.fdiv lo (2 ^ (min (((IntKind.u64.wrap (64 - (IntKind.u64.wrap (y1.1)))):Int)).toNat 64))))).toNat)) (Int.fdiv (IntKind.u64.wrap (lo*2 ^ (min (((IntKind.u64.wrap (y1.1)):Int)).toNat 64))) (2 ^ 32)) (IntKind.u64.wrap (((BitVec.ofInt 64 (IntKind.u64.wrap (lo*2 ^ (min (((IntKind.u64.wrap (y1.1)):Int)).toNat 64)))) &&& (BitVec.ofInt 64 4294967295)).toNat)) (IntKind.u64.wrap (Int.tdiv (IntKind.u64.wrap (((BitVec.ofInt 64 (IntKind.u64.wrap (hi*2 ^ (min (((IntKind.u64.wrap (y1.1)):Int)).toNat 64)))) ||| (BitVec.ofInt 64 (Int.fdiv lo (2 ^ (min (((IntKind.u64.wrap (64 - (IntKind.u64.wrap (y1.1)))):Int)).toNat 64))))).toNat)) (Int.fdiv (IntKind.u64.wrap (y*2 ^ (min (((IntKind.u64.wrap (y1.1)):Int)).toNat 64))) (2 ^ 32)))) (IntKind.u64.wrap ((IntKind.u64.wrap (((BitVec.ofInt 64 (IntKind.u64.wrap (hi*2 ^ (min (((IntKind.u64.wrap (y1.1)):Int)).toNat 64)))) ||| (BitVec.ofInt 64 (Int.fdiv lo (2 ^ (min (((IntKind.u64.wrap (64 - (IntKind.u64.wrap (y1.1)))):Int)).toNat 64))))).toNat)) - (IntKind.u64.wrap ((IntKind.u64.wrap (Int.tdiv (IntKind.u64.wrap (((BitVec.ofInt 64 (IntKind.u64.wrap (hi*2 ^ (min (((IntKind.u64.wrap (y1.1)):Int)).toNat 64)))) ||| (BitVec.ofInt 64 (Int.fdiv lo (2 ^ (min (((IntKind.u64.wrap (64 - (IntKind.u64.wrap (y1.1)))):Int)).toNat 64))))).toNat)) (Int.fdiv (IntKind.u64.wrap (y*2 ^ (min (((IntKind.u64.wrap (y1.1)):Int)).toNat 64))) (2 ^ 32))))*(Int.fdiv (IntKind.u64.wrap (y*2 ^ (min (((IntKind.u64.wrap (y1.1)):Int)).toNat 64))) (2 ^ 32)))))))))
def K0{R:Type}(k0:Nat)(K:ai R):ai R:=aY 0 (bg (fun env ob=>zrc k0 [1,1,1,1,1,1,1,1,1,1,1,1,1,1,1] env ob (K)) (K))
def K1{R:Type}(k0:Nat)(K:ai R):ai R:=aY 2 (bg (fun env ob=>zrc k0 [1,1,1,1,1,1,1,1,1,1,1,1,1,1,1,1,1,1,1] env ob (K)) (K))
def L0:uH R:=fun y2 s yn1 yn0 un32 un1 un0 q1 rhat=>iter 0 [2,8,9,10,11,13,14,15,16] [2,8,9,10,11,13,14,15] (zrc k0 [1,1,1,1,1,1,1,1,1,1,1,1,1,1,0,0,0]) k [(2,.int .u64 y2),(8,.int .u64 s),(9,.int .u64 yn1),(10,.int .u64 yn0),(11,.int .u64 un32),(13,.int .u64 un1),(14,.int .u64 un0),(15,.int .u64 q1),(16,.int .u64 rhat)] [] K
def L1:uH R:=fun y2 s yn1 yn0 un0 q1 rhat un21 q0=>iter 0 [2,8,9,10,14,15,16,17,18] [2,8,14,15,17,18] (zrc k0 [1,1,1,1,1,1,1,1,1,1,1,1,1,1,1,1,1,1,0,0,0]) k [(2,.int .u64 y2),(8,.int .u64 s),(9,.int .u64 yn1),(10,.int .u64 yn0),(14,.int .u64 un0),(15,.int .u64 q1),(16,.int .u64 rhat),(17,.int .u64 un21),(18,.int .u64 q0)] [] K
def H0:zu R:=fun y2 s yn1 yn0 un32 un1 un0 q1=>K (.exit 0) [(2,.int .u64 y2),(8,.int .u64 s),(9,.int .u64 yn1),(10,.int .u64 yn0),(11,.int .u64 un32),(13,.int .u64 un1),(14,.int .u64 un0),(15,.int .u64 q1)] []
def H1:QY R:=fun y2 s un0 q1 un21 q0=>K (.exit 2) [(2,.int .u64 y2),(8,.int .u64 s),(14,.int .u64 un0),(15,.int .u64 q1),(17,.int .u64 un21),(18,.int .u64 q0)] []
theorem zs0:L0 k0 (k+1) K=R0 (L0 k0 k K) (H0 K):=by kernel_rfl
theorem zs1:L1 k0 (k+1) K=R1 (L1 k0 k K) (H1 K):=by kernel_rfl
def G0{R:Type}(k0:Nat)(hx0:zu R):Nat→uH R
 |0=>fun _ _ _ _ _ _ _ _ _=>none
 |k+1=>R0 (G0 k0 hx0 k) hx0
theorem aK:∀ k,L0 k0 k K=G0 k0 (H0 K) k:=bG rfl fun k ih=>by rw[zs0,G0];(try simp only[ih]);try rfl
def G1{R:Type}(k0:Nat)(hx1:QY R):Nat→uH R
 |0=>fun _ _ _ _ _ _ _ _ _=>none
 |k+1=>R1 (G1 k0 hx1 k) hx1
theorem dO:∀ k,L1 k0 k K=G1 k0 (H1 K) k:=bG rfl fun k ih=>by rw[zs1,G1];(try simp only[ih,aK]);try rfl
variable (hi lo y:Int)
def aA:ai (U9):=bW Tryz.prog [.tmp 6,.tmp 7] Jo IJ (hi,lo,y,())
theorem aS:H0 (K0 k0 (aA hi lo y))=A0 (L1 k0 k0 (K1 k0 (aA hi lo y))) hi lo y:=by kernel_rfl
theorem bU:H1 (K1 k0 (aA hi lo y))=A1 hi lo y:=by kernel_rfl
def FF:Option (U9):=T (G0 k0 (A0 (G1 k0 (A1 hi lo y) k0) hi lo y) k0) hi lo y
theorem aQ:bZ Tryz.prog (aP [(199,[],Ij)]) ay k0 193 Jo IJ [] (hi,lo,y,())=FF k0 hi lo y:=Eq.trans (b:=T (L0 k0 k0 (K0 k0 (aA hi lo y))) hi lo y) (by kernel_rfl) (by rw[FF];(try simp only[aK,dO,aS,bU]);try rfl)
def _root_.Go.Rv.Dh:=fun x:U8=>FF (300) x.1 x.2.1 x.2.2.1
abbrev _root_.Go.Rv.abb:aG:=⟨Jo,IJ,Dh,[]⟩
theorem _root_.Go.Rv.aaz:aF Dr Tryz.prog 193 abb:=dh mix (.c ZX .nil) (by kernel_rfl) fun x=>⟨ay,_,aQ _ _ _ _⟩
end lT
def Uw.T(a0 a1 d:Int):Option (U8):=cond (d==0) (some (0,0,0,())) (if d=0 then none else if d=0 then none else(Dh ((Int.tmod a0 d),a1,d,())).bind fun y1=>some ((IntKind.u64.wrap (Int.tdiv a0 d)),y1.1,y1.2.1,()))
def D5:=fun x:U8=>Uw.T x.1 x.2.1 x.2.2.1
abbrev acW:aG:=⟨[.v true ct1,.v false [CT.int .u64]],[(true,Zk)],D5,[]⟩
theorem ace:aF Dr Tryz.prog 184 acW:=aW mix (.c aaz .nil) (by kernel_rfl) fun x=>by kernel_rfl
def Vt.T(amount weight all:Int):Option (Int×Unit):=(wW (amount,weight,())).bind fun y1=>(D5 (y1.1,y1.2.1,(IntKind.u64.wrap (all)),())).bind fun y2=>some ((af (y2.2.1)),())
def xh:=fun x:U8=>Vt.T x.1 x.2.1 x.2.2.1
abbrev UB:aG:=⟨[.v false [CT.int .i64],.v false [CT.int .i64],.v false [CT.int .i64]],[(false,[CT.int .i64])],xh,[]⟩
theorem ac6:aF Dr Tryz.prog 175 UB:=aW mix (.c ace (.c SG .nil)) (by kernel_rfl) fun x=>by kernel_rfl
abbrev Na:Is:=[.v false [CT.int .i64],.v false [CT.sl ct0]]
abbrev MB:Os:=[(true,ct7)]
namespace cu
def dD:Tb:=[(171,[],⟨SN,RU,uT,[]⟩),(172,[],Uf),(174,[],Sv),(175,[],UB)]
def ay:Nat→List Nat×List Nat:=fun k=>if k=3 then([3,4,5,26,27,28],[3,4,5])else if k=9 then([3,4,5,8,9],[3,4,5,8,9])else if k=18 then([3,4,5,9,11,12,108,109,110],[3,4,5,11,12])else if k=25 then([4,5,11,12,142,143],[4,5])else([],[])
def zrc{R:Type}(k0:Nat)(p:List Nat):Env→List Ob→ai R→Option R:=bD Tryz.prog (aP dD) 172 0 ay k0 (bQ p (cZ Tryz.prog 155))
def R0{R:Type}(nx0:G7 R)(ex0:QX R)(t26x:List U8)(t27x t28x:Int)(list2:List U8)(t4x t4x2 t4x3 out out2 out3:Int)(o3:List (Int×Unit))(o4:List (Bool×Unit)):Option R:=cond (decide (t28x<t27x)) (if 0≤t28x∧t28x<(t26x.length:Int)then nx0 t26x t27x (af (t28x+1)) list2 t4x t4x2 t4x3 out (af (out2+(rd (0,0,0,()) t26x t28x).2.2.1)) out3 o3 o4 else none) (ex0 list2 t4x t4x2 t4x3 out out2 out3 o3 o4)
def R1{R:Type}(nx2:wu R)(ex1:wo R)(list2:List U8)(t4x t4x2 t4x3 out out2 out3:Int)(order:List U8)(o4:List (Int×Unit))(o5:List (Bool×Unit)):Option R:=cond (decide ((order.length:Int)>0)) (if(0:Int)≤0∧0<(order.length:Int)then(zL ((order.getD ((0:Int).toNat) (0,0,0,())).1,(order.getD ((0:Int).toNat) (0,0,0,())).2.1,(order.getD ((0:Int).toNat) (0,0,0,())).2.2.1,out,out2,())).bind fun y1=>cond y1.1 (if(0:Int)≤0∧0<(order.length:Int)then(uU ((order.getD ((0:Int).toNat) (0,0,0,())).1,(order.getD ((0:Int).toNat) (0,0,0,())).2.1,(order.getD ((0:Int).toNat) (0,0,0,())).2.2.1,list2,())).bind fun y2=>if 0≤y2.1∧y2.1<(o4.length:Int)then if(0:Int)≤1∧1≤(order.length:Int)then nx2 ((1:Int).toNat) (order.length - (1:Int).toNat) list2 t4x t4x2 t4x3 (af (out - (order.getD ((0:Int).toNat) (0,0,0,())).2.1)) (af (out2 - (order.getD ((0:Int).toNat) (0,0,0,())).2.2.1)) (af (out3+1)) order (o4.set ((y2.1).toNat) ((order.getD ((0:Int).toNat) (0,0,0,())).2.1,())) o5 else none else none else none) (ex1 list2 t4x t4x2 t4x3 out out2 out3 order o4 o5)else none) (ex1 list2 t4x t4x2 t4x3 out out2 out3 order o4 o5)
def R2{R:Type}(nx2 ex2:wu R)(ordero orderl:Nat)(list2:List U8)(t4x t4x2 t4x3 out out2 out3:Int)(order:List U8)(o4:List (Int×Unit))(o5:List (Bool×Unit)):Option R:=cond (decide ((orderl:Int)>0)) (if ordero+orderl≤order.length then if(0:Int)≤0∧0<(orderl:Int)then(zL ((order.getD (ordero+(0:Int).toNat) (0,0,0,())).1,(order.getD (ordero+(0:Int).toNat) (0,0,0,())).2.1,(order.getD (ordero+(0:Int).toNat) (0,0,0,())).2.2.1,out,out2,())).bind fun y1=>cond y1.1 (if ordero+orderl≤order.length then if(0:Int)≤0∧0<(orderl:Int)then(uU ((order.getD (ordero+(0:Int).toNat) (0,0,0,())).1,(order.getD (ordero+(0:Int).toNat) (0,0,0,())).2.1,(order.getD (ordero+(0:Int).toNat) (0,0,0,())).2.2.1,list2,())).bind fun y2=>if 0≤y2.1∧y2.1<(o4.length:Int)then if ordero+orderl≤order.length then if(0:Int)≤1∧1≤(orderl:Int)then nx2 (ordero+(1:Int).toNat) (orderl - (1:Int).toNat) list2 t4x t4x2 t4x3 (af (out - (order.getD (ordero+(0:Int).toNat) (0,0,0,())).2.1)) (af (out2 - (order.getD (ordero+(0:Int).toNat) (0,0,0,())).2.2.1)) (af (out3+1)) order (o4.set ((y2.1).toNat) ((order.getD (ordero+(0:Int).toNat) (0,0,0,())).2.1,())) o5 else none else none else none else none else none) (ex2 ordero orderl list2 t4x t4x2 t4x3 out out2 out3 order o4 o5)else none else none) (ex2 ordero orderl list2 t4x t4x2 t4x3 out out2 out3 order o4 o5)
def R3{R:Type}(nx3:G6 R)(ex3:Cc R)(left t109x t110x:Int)(list2:List U8)(t4x t4x2 t4x3 out out2 out3:Int)(poor:List (Bool×Unit))(t108x:List U8)(o5:List (Int×Unit))(o6:List (Bool×Unit)):Option R:=cond (decide (t110x<t109x)) (if 0≤t110x∧t110x<(t108x.length:Int)then(uU ((t108x.getD t110x.toNat (0,0,0,())).1,(t108x.getD t110x.toNat (0,0,0,())).2.1,(t108x.getD t110x.toNat (0,0,0,())).2.2.1,list2,())).bind fun y1=>(xh (out,(t108x.getD t110x.toNat (0,0,0,())).2.2.1,out2,())).bind fun y2=>if 0≤y1.1∧y1.1<(o5.length:Int)then if 0≤y1.1∧y1.1<(poor.length:Int)then if 0≤y1.1∧y1.1<((o5.set ((y1.1).toNat) (y2.1,())).length:Int)then nx3 (af (left - ((o5.set ((y1.1).toNat) (y2.1,())).getD ((y1.1).toNat) (0,())).1)) t109x (af (t110x+1)) list2 t4x t4x2 t4x3 out out2 out3 (poor.set ((y1.1).toNat) (true,())) t108x (o5.set ((y1.1).toNat) (y2.1,())) o6 else none else none else none else none) (ex3 left list2 t4x t4x2 t4x3 out out2 out3 poor o5 o6)
def R4{R:Type}(nx4:GZ R)(ex3:Cc R)(left:Int)(t108o t108l:Nat)(t109x t110x:Int)(list2:List U8)(t4x t4x2 t4x3 out out2 out3:Int)(poor:List (Bool×Unit))(t108x:List U8)(o5:List (Int×Unit))(o6:List (Bool×Unit)):Option R:=cond (decide (t110x<t109x)) (if t108o+t108l≤t108x.length then if 0≤t110x∧t110x<(t108l:Int)then(uU ((t108x.getD (t108o+t110x.toNat) (0,0,0,())).1,(t108x.getD (t108o+t110x.toNat) (0,0,0,())).2.1,(t108x.getD (t108o+t110x.toNat) (0,0,0,())).2.2.1,list2,())).bind fun y1=>(xh (out,(t108x.getD (t108o+t110x.toNat) (0,0,0,())).2.2.1,out2,())).bind fun y2=>if 0≤y1.1∧y1.1<(o5.length:Int)then if 0≤y1.1∧y1.1<(poor.length:Int)then if 0≤y1.1∧y1.1<((o5.set ((y1.1).toNat) (y2.1,())).length:Int)then nx4 (af (left - ((o5.set ((y1.1).toNat) (y2.1,())).getD ((y1.1).toNat) (0,())).1)) t108o t108l t109x (af (t110x+1)) list2 t4x t4x2 t4x3 out out2 out3 (poor.set ((y1.1).toNat) (true,())) t108x (o5.set ((y1.1).toNat) (y2.1,())) o6 else none else none else none else none else none) (ex3 left list2 t4x t4x2 t4x3 out out2 out3 poor o5 o6)
def R5{R:Type}(nx5:GY R)(ru:QW R)(left t142x t143x t4x t4x2 t4x3 out out2 out3:Int)(poor:List (Bool×Unit))(o3:List (Int×Unit))(o4:List (Bool×Unit)):Option R:=cond (decide (t143x<t142x)) (if 0≤t143x∧t143x<(poor.length:Int)then cond ((poor.getD t143x.toNat (false,())).1) (cond (decide (left>0)) (if 0≤t143x∧t143x<(o3.length:Int)then if 0≤t143x∧t143x<(o3.length:Int)then if 0≤t143x∧t143x<(o4.length:Int)then nx5 (af (left - 1)) t142x (af (t143x+1)) t4x t4x2 t4x3 out out2 out3 poor (o3.set t143x.toNat ((af ((o3.getD t143x.toNat (0,())).1+1)),())) (o4.set t143x.toNat (true,()))else none else none else none) (nx5 left t142x (af (t143x+1)) t4x t4x2 t4x3 out out2 out3 poor o3 o4)) (nx5 left t142x (af (t143x+1)) t4x t4x2 t4x3 out out2 out3 poor o3 o4)else none) (ru t4x t4x2 t4x3 out out2 out3 o3 o4)
def A0(lo1:wo (U4))(amount:Int)(list:List U8)(list2:List U8)(t4x t4x2 t4x3 out out2 out3:Int)(o3:List (Int×Unit))(o4:List (Bool×Unit)):Option (U4):=(uT (list2,())).bind fun y1=>lo1 list2 t4x t4x2 t4x3 out out2 out3 y1.1 o3 o4
def A1(lo3:G6 (U4))(amount:Int)(list:List U8)(list2:List U8)(t4x t4x2 t4x3 out out2 out3:Int)(order:List U8)(o4:List (Int×Unit))(o5:List (Bool×Unit)):Option (U4):=cond ((order.length:Int)==0) (some (o4,0,0,out3,o5,())) (if 0≤(list2.length:Int)∧(1:Int)*(list2.length:Int)≤281474976710656∧(list2.length:Int)≤9223372036854775807 then lo3 out (order.length:Int) 0 list2 t4x t4x2 t4x3 out out2 out3 (List.replicate (((list2.length:Int):Int)).toNat (false,())) order o4 o5 else none)
def A2(lo4:GZ (U4))(amount:Int)(list:List U8)(ordero orderl:Nat)(list2:List U8)(t4x t4x2 t4x3 out out2 out3:Int)(order:List U8)(o4:List (Int×Unit))(o5:List (Bool×Unit)):Option (U4):=cond ((orderl:Int)==0) (some (o4,0,0,out3,o5,())) (if 0≤(list2.length:Int)∧(1:Int)*(list2.length:Int)≤281474976710656∧(list2.length:Int)≤9223372036854775807 then lo4 out ordero orderl (orderl:Int) 0 list2 t4x t4x2 t4x3 out out2 out3 (List.replicate (((list2.length:Int):Int)).toNat (false,())) order o4 o5 else none)
def A3(lo5:GY (U4))(amount:Int)(list:List U8)(left:Int)(list2:List U8)(t4x t4x2 t4x3 out out2 out3:Int)(poor:List (Bool×Unit))(o4:List (Int×Unit))(o5:List (Bool×Unit)):Option (U4):=lo5 left (list2.length:Int) 0 t4x t4x2 t4x3 out out2 out3 poor o4 o5
def A4(amount:Int)(list:List U8)(t4x t4x2 t4x3 out out2 out3:Int)(o2:List (Int×Unit))(o3:List (Bool×Unit)):Option (U4):=some (o2,out,out2,out3,o3,())
def T(lo0:G7 (U4))(amount:Int)(list:List U8):Option (U4):=if 0≤(list.length:Int)∧(8:Int)*(list.length:Int)≤281474976710656∧(list.length:Int)≤9223372036854775807 then if 0≤(list.length:Int)∧(1:Int)*(list.length:Int)≤281474976710656∧(list.length:Int)≤9223372036854775807 then lo0 list (list.length:Int) 0 list 0 0 0 amount 0 0 (List.replicate (((list.length:Int):Int)).toNat (0,())) (List.replicate (((list.length:Int):Int)).toNat (false,()))else none else none
def K0{R:Type}(k0:Nat)(K:ai R):ai R:=aY 0 (bg (fun env ob=>zrc k0 [1,1,1] env ob (K)) (K))
def K1{R:Type}(k0:Nat)(K:ai R):ai R:=aY 2 (bg (fun env ob=>zrc k0 [1,1,1,1,1,1] env ob (K)) (K))
def K2{R:Type}(k0:Nat)(K:ai R):ai R:=aY 4 (bg (fun env ob=>zrc k0 [1,1,1,1,1,1,1,1,1] env ob (K)) (K))
def K3{R:Type}(k0:Nat)(K:ai R):ai R:=aY 6 (bg (fun env ob=>zrc k0 [1,1,1,1,1,1,1,1,1,1] env ob (K)) (K))
def L0:G7 R:=fun t26x t27x t28x list2 t4x t4x2 t4x3 out out2 out3 o3 o4=>iter 0 [3,4,5,26,27,28] [3,4,5] (zrc k0 [1,1,0,1,0,0]) k [(3,.ptr 0 0 0 0),(4,.ptr 1 0 0 0),(5,.ptr 2 0 0 0),(26,.sl ct0 t26x),(27,.int .i64 t27x),(28,.int .i64 t28x)] [.box [.sl ct0 list2],.box [.nils,.int .i64 t4x,.int .i64 t4x2,.int .i64 t4x3,.nils],.box [.own 3,.int .i64 out,.int .i64 out2,.int .i64 out3,.own 4],.arr [CT.int .i64] o3,.arr [CT.bool] o4] K
def L1:wo R:=fun list2 t4x t4x2 t4x3 out out2 out3 order o4 o5=>iter 0 [3,4,5,8,9] [3,4,5,8,9] (zrc k0 [1,1,1,1,1,0,0,0]) k [(3,.ptr 0 0 0 0),(4,.ptr 1 0 0 0),(5,.ptr 2 0 0 0),(8,.own 3),(9,.fn 172 [.ptr 0 0 0 0])] [.box [.sl ct0 list2],.box [.nils,.int .i64 t4x,.int .i64 t4x2,.int .i64 t4x3,.nils],.box [.own 4,.int .i64 out,.int .i64 out2,.int .i64 out3,.own 5],.arr ct0 order,.arr [CT.int .i64] o4,.arr [CT.bool] o5] K
def L2:wu R:=fun ordero orderl list2 t4x t4x2 t4x3 out out2 out3 order o4 o5=>iter 0 [3,4,5,8,9] [3,4,5,8,9] (zrc k0 [1,1,1,1,1,0,0,0]) k [(3,.ptr 0 0 0 0),(4,.ptr 1 0 0 0),(5,.ptr 2 0 0 0),(8,.ref 3 3 ordero orderl),(9,.fn 172 [.ptr 0 0 0 0])] [.box [.sl ct0 list2],.box [.nils,.int .i64 t4x,.int .i64 t4x2,.int .i64 t4x3,.nils],.box [.own 4,.int .i64 out,.int .i64 out2,.int .i64 out3,.own 5],.arr ct0 order,.arr [CT.int .i64] o4,.arr [CT.bool] o5] K
def L3:G6 R:=fun left t109x t110x list2 t4x t4x2 t4x3 out out2 out3 poor t108x o5 o6=>iter 0 [3,4,5,9,11,12,108,109,110] [3,4,5,11,12] (zrc k0 [1,1,1,1,1,1,1,1,0,1,0,0]) k [(3,.ptr 0 0 0 0),(4,.ptr 1 0 0 0),(5,.ptr 2 0 0 0),(9,.fn 172 [.ptr 0 0 0 0]),(11,.int .i64 left),(12,.own 3),(108,.own 4),(109,.int .i64 t109x),(110,.int .i64 t110x)] [.box [.sl ct0 list2],.box [.nils,.int .i64 t4x,.int .i64 t4x2,.int .i64 t4x3,.nils],.box [.own 5,.int .i64 out,.int .i64 out2,.int .i64 out3,.own 6],.arr [CT.bool] poor,.arr ct0 t108x,.arr [CT.int .i64] o5,.arr [CT.bool] o6] K
def L4:GZ R:=fun left t108o t108l t109x t110x list2 t4x t4x2 t4x3 out out2 out3 poor t108x o5 o6=>iter 0 [3,4,5,9,11,12,108,109,110] [3,4,5,11,12] (zrc k0 [1,1,1,1,1,1,1,1,0,1,0,0]) k [(3,.ptr 0 0 0 0),(4,.ptr 1 0 0 0),(5,.ptr 2 0 0 0),(9,.fn 172 [.ptr 0 0 0 0]),(11,.int .i64 left),(12,.own 3),(108,.ref 4 3 t108o t108l),(109,.int .i64 t109x),(110,.int .i64 t110x)] [.box [.sl ct0 list2],.box [.nils,.int .i64 t4x,.int .i64 t4x2,.int .i64 t4x3,.nils],.box [.own 5,.int .i64 out,.int .i64 out2,.int .i64 out3,.own 6],.arr [CT.bool] poor,.arr ct0 t108x,.arr [CT.int .i64] o5,.arr [CT.bool] o6] K
def L5:GY R:=fun left t142x t143x t4x t4x2 t4x3 out out2 out3 poor o3 o4=>iter 0 [4,5,11,12,142,143] [4,5] (zrc k0 [1,1,1,1,1,1,1,1,1,0,1,0,0]) k [(4,.ptr 0 0 0 0),(5,.ptr 1 0 0 0),(11,.int .i64 left),(12,.own 2),(142,.int .i64 t142x),(143,.int .i64 t143x)] [.box [.nils,.int .i64 t4x,.int .i64 t4x2,.int .i64 t4x3,.nils],.box [.own 3,.int .i64 out,.int .i64 out2,.int .i64 out3,.own 4],.arr [CT.bool] poor,.arr [CT.int .i64] o3,.arr [CT.bool] o4] K
def H0:QX R:=fun list2 t4x t4x2 t4x3 out out2 out3 o3 o4=>K (.exit 0) [(3,.ptr 0 0 0 0),(4,.ptr 1 0 0 0),(5,.ptr 2 0 0 0)] [.box [.sl ct0 list2],.box [.nils,.int .i64 t4x,.int .i64 t4x2,.int .i64 t4x3,.nils],.box [.own 3,.int .i64 out,.int .i64 out2,.int .i64 out3,.own 4],.arr [CT.int .i64] o3,.arr [CT.bool] o4]
def H1:wo R:=fun list2 t4x t4x2 t4x3 out out2 out3 order o4 o5=>K (.exit 2) [(3,.ptr 0 0 0 0),(4,.ptr 1 0 0 0),(5,.ptr 2 0 0 0),(8,.own 3),(9,.fn 172 [.ptr 0 0 0 0])] [.box [.sl ct0 list2],.box [.nils,.int .i64 t4x,.int .i64 t4x2,.int .i64 t4x3,.nils],.box [.own 4,.int .i64 out,.int .i64 out2,.int .i64 out3,.own 5],.arr ct0 order,.arr [CT.int .i64] o4,.arr [CT.bool] o5]
def H2:wu R:=fun ordero orderl list2 t4x t4x2 t4x3 out out2 out3 order o4 o5=>K (.exit 2) [(3,.ptr 0 0 0 0),(4,.ptr 1 0 0 0),(5,.ptr 2 0 0 0),(8,.ref 3 3 ordero orderl),(9,.fn 172 [.ptr 0 0 0 0])] [.box [.sl ct0 list2],.box [.nils,.int .i64 t4x,.int .i64 t4x2,.int .i64 t4x3,.nils],.box [.own 4,.int .i64 out,.int .i64 out2,.int .i64 out3,.own 5],.arr ct0 order,.arr [CT.int .i64] o4,.arr [CT.bool] o5]
def H3:Cc R:=fun left list2 t4x t4x2 t4x3 out out2 out3 poor o4 o5=>K (.exit 4) [(3,.ptr 0 0 0 0),(4,.ptr 1 0 0 0),(5,.ptr 2 0 0 0),(11,.int .i64 left),(12,.own 3)] [.box [.sl ct0 list2],.box [.nils,.int .i64 t4x,.int .i64 t4x2,.int .i64 t4x3,.nils],.box [.own 4,.int .i64 out,.int .i64 out2,.int .i64 out3,.own 5],.arr [CT.bool] poor,.arr [CT.int .i64] o4,.arr [CT.bool] o5]
def H4:QW R:=fun t4x t4x2 t4x3 out out2 out3 o2 o3=>K (.exit 6) [(4,.ptr 0 0 0 0),(5,.ptr 1 0 0 0)] [.box [.nils,.int .i64 t4x,.int .i64 t4x2,.int .i64 t4x3,.nils],.box [.own 2,.int .i64 out,.int .i64 out2,.int .i64 out3,.own 3],.arr [CT.int .i64] o2,.arr [CT.bool] o3]
theorem zs0:L0 k0 (k+1) K=R0 (L0 k0 k K) (H0 K):=by kernel_rfl
theorem zs1:L1 k0 (k+1) K=R1 (L2 k0 k K) (H1 K):=by kernel_rfl
theorem zs2:L2 k0 (k+1) K=R2 (L2 k0 k K) (H2 K):=by kernel_rfl
theorem Qs:L3 k0 (k+1) K=R3 (L3 k0 k K) (H3 K):=by kernel_rfl
theorem Qr:L4 k0 (k+1) K=R4 (L4 k0 k K) (H3 K):=by kernel_rfl
theorem zs5:L5 k0 (k+1) K=R5 (L5 k0 k K) (H4 K):=by kernel_rfl
def G0{R:Type}(k0:Nat)(hx0:QX R):Nat→G7 R
 |0=>fun _ _ _ _ _ _ _ _ _ _ _ _=>none
 |k+1=>R0 (G0 k0 hx0 k) hx0
theorem aK:∀ k,L0 k0 k K=G0 k0 (H0 K) k:=bG rfl fun k ih=>by rw[zs0,G0];(try simp only[ih]);try rfl
def G2{R:Type}(k0:Nat)(hx1:wo R)(hx2:wu R):Nat→wu R
 |0=>fun _ _ _ _ _ _ _ _ _ _ _ _=>none
 |k+1=>R2 (G2 k0 hx1 hx2 k) hx2
theorem kV:∀ k,L2 k0 k K=G2 k0 (H1 K) (H2 K) k:=bG rfl fun k ih=>by rw[zs2,G2];(try simp only[ih,aK]);try rfl
def G1{R:Type}(k0:Nat)(hx1:wo R)(hx2:wu R):Nat→wo R
 |0=>fun _ _ _ _ _ _ _ _ _ _=>none
 |k+1=>R1 (G2 k0 hx1 hx2 k) hx1
theorem dO:∀ k,L1 k0 k K=G1 k0 (H1 K) (H2 K) k:=bG rfl fun k ih=>by rw[zs1,G1];(try simp only[ih,aK,kV]);try rfl
def G3{R:Type}(k0:Nat)(hx3:Cc R):Nat→G6 R
 |0=>fun _ _ _ _ _ _ _ _ _ _ _ _ _ _=>none
 |k+1=>R3 (G3 k0 hx3 k) hx3
theorem yR:∀ k,L3 k0 k K=G3 k0 (H3 K) k:=bG rfl fun k ih=>by rw[Qs,G3];(try simp only[ih,aK,kV,dO]);try rfl
def G5{R:Type}(k0:Nat)(hx4:QW R):Nat→GY R
 |0=>fun _ _ _ _ _ _ _ _ _ _ _ _=>none
 |k+1=>R5 (G5 k0 hx4 k) hx4
theorem Zi:∀ k,L5 k0 k K=G5 k0 (H4 K) k:=bG rfl fun k ih=>by rw[zs5,G5];(try simp only[ih,aK,kV,dO,yR]);try rfl
def G4{R:Type}(k0:Nat)(hx3:Cc R):Nat→GZ R
 |0=>fun _ _ _ _ _ _ _ _ _ _ _ _ _ _ _ _=>none
 |k+1=>R4 (G4 k0 hx3 k) hx3
theorem Qu:∀ k,L4 k0 k K=G4 k0 (H3 K) k:=bG rfl fun k ih=>by rw[Qr,G4];(try simp only[ih,aK,kV,dO,yR,Zi]);try rfl
variable (amount:Int) (list:List U8)
def aA:ai (U4):=bW Tryz.prog [.cell 4 196] Na MB (amount,list,())
theorem aS:H0 (K0 k0 (aA amount list))=A0 (L1 k0 k0 (K1 k0 (aA amount list))) amount list:=by kernel_rfl
theorem bU:H1 (K1 k0 (aA amount list))=A1 (L3 k0 k0 (K2 k0 (aA amount list))) amount list:=by kernel_rfl
theorem mr:H2 (K1 k0 (aA amount list))=A2 (L4 k0 k0 (K2 k0 (aA amount list))) amount list:=by kernel_rfl
theorem rq:H3 (K2 k0 (aA amount list))=A3 (L5 k0 k0 (K3 k0 (aA amount list))) amount list:=by kernel_rfl
theorem Qv:H4 (K3 k0 (aA amount list))=A4 amount list:=by kernel_rfl
def FF:Option (U4):=T (G0 k0 (A0 (G1 k0 (A1 (G3 k0 (A3 (G5 k0 (A4 amount list) k0) amount list) k0) amount list) (A2 (G4 k0 (A3 (G5 k0 (A4 amount list) k0) amount list) k0) amount list) k0) amount list) k0) amount list
theorem aQ:bZ Tryz.prog (aP dD) ay k0 155 Na MB [] (amount,list,())=FF k0 amount list:=Eq.trans (b:=T (L0 k0 k0 (K0 k0 (aA amount list))) amount list) (by kernel_rfl) (by rw[FF];(try simp only[aK,kV,dO,yR,Zi,Qu,aS,bU,mr,rq,Qv]);try rfl)
end cu
def Ai:=fun x:Int×(List U8)×Unit=>cu.FF (300+x.2.1.length) x.1 x.2.1
abbrev NG:aG:=⟨Na,MB,Ai,[]⟩
theorem ads:aF KN Tryz.prog 155 NG:=dh mix (.c Tt (.c acN (.c aa1 (.c ac6 .nil)))) (by kernel_rfl) fun x=>⟨cu.ay,_,cu.aQ _ _ _⟩
abbrev JI:Is:=[.v true eH,.v false [CT.int .i64],.v false [CT.int .i64],.w false [CT.sl eG],.w false [CT.sl eG]]
abbrev Ji:Os:=[]
namespace jd
def ay:Nat→List Nat×List Nat:=fun k=>if k=4 then([3,4,11,12,13,29,30,31],[4,11,12,13])else if k=9 then([4,11,13,45,46,47],[])else([],[])
def zrc{R:Type}(k0:Nat)(p:List Nat):Env→List Ob→ai R→Option R:=bD Tryz.prog (aP [(154,[],Lh),(155,[],NG)]) 64 2 ay k0 (bQ p (cZ Tryz.prog 135))
def R0{R:Type}(nx0:uG R)(ex0:QU R)(t30x t31x:Int)(groups2 members2:List U9)(own others amounts:List (Int×Unit)):Option R:=cond (decide (t31x<t30x)) (if 0≤t31x∧t31x<(own.length:Int)then if 0≤t31x∧t31x<(amounts.length:Int)then if 0≤(own.getD t31x.toNat (0,())).1∧(own.getD t31x.toNat (0,())).1<(groups2.length:Int)then nx0 t30x (af (t31x+1)) (groups2.set (((own.getD t31x.toNat (0,())).1).toNat) ((groups2.getD (((own.getD t31x.toNat (0,())).1).toNat) (0,0,())).1,(amounts.getD t31x.toNat (0,())).1,())) members2 own others amounts else none else none else none) (ex0 groups2 members2 own others amounts)
def R1{R:Type}(nx1:uG R)(ex1:zq R)(t46x t47x:Int)(o0 members2:List U9)(own amounts t45x:List (Int×Unit)):Option R:=cond (decide (t47x<t46x)) (if 0≤t47x∧t47x<(t45x.length:Int)then if 0≤(af ((own.length:Int)+t47x))∧(af ((own.length:Int)+t47x))<(amounts.length:Int)then if 0≤(t45x.getD t47x.toNat (0,())).1∧(t45x.getD t47x.toNat (0,())).1<(members2.length:Int)then nx1 t46x (af (t47x+1)) o0 (members2.set (((t45x.getD t47x.toNat (0,())).1).toNat) ((members2.getD (((t45x.getD t47x.toNat (0,())).1).toNat) (0,0,())).1,(amounts.getD (((af ((own.length:Int)+t47x))).toNat) (0,())).1,())) own amounts t45x else none else none else none) (ex1 o0 members2)
def A0(lo1:uG ((List U9)×(List U9)×Unit))(f0:Int)(f1 f2:List U7)(id amount:Int)(groups members:List U9)(o0 members2:List U9)(own others amounts:List (Int×Unit)):Option ((List U9)×(List U9)×Unit):=lo1 (others.length:Int) 0 o0 members2 own amounts others
def A1(f0:Int)(f1 f2:List U7)(id amount:Int)(groups members:List U9)(o0 o1:List U9):Option ((List U9)×(List U9)×Unit):=some (o0,o1,())
def T(lo0:uG ((List U9)×(List U9)×Unit))(f0:Int)(f1 f2:List U7)(id amount:Int)(groups members:List U9):Option ((List U9)×(List U9)×Unit):=(Dt (f0,f1,f2,id,())).bind fun y1=>(Ai (amount,y1.1,())).bind fun y2=>lo0 (y1.2.1.length:Int) 0 groups members y1.2.1 y1.2.2.1 y2.1
def K0{R:Type}(k0:Nat)(K:ai R):ai R:=aY 0 (bg (fun env ob=>zrc k0 [1,1,1,1] env ob (K)) (K))
def K1{R:Type}(k0:Nat)(K:ai R):ai R:=aY 2 (K)
def L0:uG R:=fun t30x t31x groups2 members2 own others amounts=>iter 2 [3,4,11,12,13,29,30,31] [4,11,12,13] (zrc k0 [1,1,1,0,1,0,0]) k [(3,.own 0),(4,.own 1),(11,.own 2),(12,.own 3),(13,.own 4),(29,.own 2),(30,.int .i64 t30x),(31,.int .i64 t31x)] [.arr eG groups2,.arr eG members2,.arr [CT.int .i64] own,.arr [CT.int .i64] others,.arr [CT.int .i64] amounts] K
def L1:uG R:=fun t46x t47x o0 members2 own amounts t45x=>iter 2 [4,11,13,45,46,47] [] (zrc k0 [1,1,1,1,1,0,0]) k [(4,.own 1),(11,.own 2),(13,.own 3),(45,.own 4),(46,.int .i64 t46x),(47,.int .i64 t47x)] [.arr eG o0,.arr eG members2,.arr [CT.int .i64] own,.arr [CT.int .i64] amounts,.arr [CT.int .i64] t45x] K
def H0:QU R:=fun o0 members2 own others amounts=>K (.exit 0) [(4,.own 1),(11,.own 2),(12,.own 3),(13,.own 4)] [.arr eG o0,.arr eG members2,.arr [CT.int .i64] own,.arr [CT.int .i64] others,.arr [CT.int .i64] amounts]
def H1:zq R:=fun o0 o1=>K (.exit 2) [] [.arr eG o0,.arr eG o1]
theorem zs0:L0 k0 (k+1) K=R0 (L0 k0 k K) (H0 K):=by kernel_rfl
theorem zs1:L1 k0 (k+1) K=R1 (L1 k0 k K) (H1 K):=by kernel_rfl
def G0{R:Type}(k0:Nat)(hx0:QU R):Nat→uG R
 |0=>fun _ _ _ _ _ _ _=>none
 |k+1=>R0 (G0 k0 hx0 k) hx0
theorem aK:∀ k,L0 k0 k K=G0 k0 (H0 K) k:=bG rfl fun k ih=>by rw[zs0,G0];(try simp only[ih]);try rfl
def G1{R:Type}(k0:Nat)(hx1:zq R):Nat→uG R
 |0=>fun _ _ _ _ _ _ _=>none
 |k+1=>R1 (G1 k0 hx1 k) hx1
theorem dO:∀ k,L1 k0 k K=G1 k0 (H1 K) k:=bG rfl fun k ih=>by rw[zs1,G1];(try simp only[ih,aK]);try rfl
variable (f0:Int) (f1 f2:List U7) (id amount:Int) (groups members:List U9)
def aA:ai ((List U9)×(List U9)×Unit):=bW Tryz.prog [] JI Ji (f0,f1,f2,id,amount,groups,members,())
theorem aS:H0 (K0 k0 (aA f0 f1 f2 id amount groups members))=A0 (L1 k0 k0 (K1 k0 (aA f0 f1 f2 id amount groups members))) f0 f1 f2 id amount groups members:=by kernel_rfl
theorem bU:H1 (K1 k0 (aA f0 f1 f2 id amount groups members))=A1 f0 f1 f2 id amount groups members:=by kernel_rfl
def FF:Option ((List U9)×(List U9)×Unit):=T (G0 k0 (A0 (G1 k0 (A1 f0 f1 f2 id amount groups members) k0) f0 f1 f2 id amount groups members) k0) f0 f1 f2 id amount groups members
theorem aQ:bZ Tryz.prog (aP [(154,[],Lh),(155,[],NG)]) ay k0 135 JI Ji [] (f0,f1,f2,id,amount,groups,members,())=FF k0 f0 f1 f2 id amount groups members:=Eq.trans (b:=T (L0 k0 k0 (K0 k0 (aA f0 f1 f2 id amount groups members))) f0 f1 f2 id amount groups members) (by kernel_rfl) (by rw[FF];(try simp only[aK,dO,aS,bU]);try rfl)
def _root_.Go.Rv.zM:=fun x:Int×(List U7)×(List U7)×Int×Int×(List U9)×(List U9)×Unit=>FF (300+x.2.1.length+x.2.2.1.length+x.2.2.2.2.2.1.length+x.2.2.2.2.2.2.1.length) x.1 x.2.1 x.2.2.1 x.2.2.2.1 x.2.2.2.2.1 x.2.2.2.2.2.1 x.2.2.2.2.2.2.1
abbrev _root_.Go.Rv.Le:aG:=⟨JI,Ji,zM,[]⟩
theorem _root_.Go.Rv.aa3:aF KN Tryz.prog 135 Le:=dh mix (.c aa4 (.c ads .nil)) (by kernel_rfl) fun x=>⟨ay,_,aQ _ _ _ _ _ _ _ _⟩
end jd
abbrev Ja:Is:=[.v true eH]
abbrev Iz:Os:=[(false,[CT.sl eG]),(false,[CT.sl eG])]
namespace fH
def ay:Nat→List Nat×List Nat:=fun k=>if k=3 then([1,4,5,15,16,17],[1,4,5])else if k=8 then([1,4,5,29,30,31],[1,4,5])else if k=14 then([1,4,5,49,50,51],[4,5])else([],[])
def zrc{R:Type}(k0:Nat)(p:List Nat):Env→List Ob→ai R→Option R:=bD Tryz.prog (aP [(135,[],Le)]) 70 0 ay k0 (bQ p (cZ Tryz.prog 113))
def R0{R:Type}(nx0:nZ R)(ex0:zo R)(t15x:List U7)(t16x t17x f:Int)(f3 f4:List U7)(groups members:List U9):Option R:=cond (decide (t17x<t16x)) (if 0≤t17x∧t17x<(t15x.length:Int)then if groups.length+[((rd (0,0,0,0,()) t15x t17x).1,0,())].length≤maxRow then nx0 t15x t16x (af (t17x+1)) f f3 f4 (groups++[((rd (0,0,0,0,()) t15x t17x).1,0,())]) members else none else none) (ex0 f f3 f4 groups members)
def R1{R:Type}(nx1:nZ R)(ex1:zo R)(t29x:List U7)(t30x t31x f:Int)(f3 f4:List U7)(groups members:List U9):Option R:=cond (decide (t31x<t30x)) (if 0≤t31x∧t31x<(t29x.length:Int)then if members.length+[((rd (0,0,0,0,()) t29x t31x).1,0,())].length≤maxRow then nx1 t29x t30x (af (t31x+1)) f f3 f4 groups (members++[((rd (0,0,0,0,()) t29x t31x).1,0,())])else none else none) (ex1 f f3 f4 groups members)
def R2{R:Type}(nx2:nZ R)(ex2:zq R)(t49x:List U7)(t50x t51x f:Int)(f3 f4:List U7)(groups members:List U9):Option R:=cond (decide (t51x<t50x)) (if 0≤t51x∧t51x<(t49x.length:Int)then if 0≤t51x∧t51x<(groups.length:Int)then(zM (f,f3,f4,(rd (0,0,0,0,()) t49x t51x).1,(groups.getD t51x.toNat (0,0,())).2.1,groups,members,())).bind fun y1=>nx2 t49x t50x (af (t51x+1)) f f3 f4 y1.1 y1.2.1 else none else none) (ex2 groups members)
def A0(lo1:nZ ((List U9)×(List U9)×Unit))(f0:Int)(f1 f2:List U7)(f:Int)(f3 f4:List U7)(groups members:List U9):Option ((List U9)×(List U9)×Unit):=lo1 f4 (f4.length:Int) 0 f f3 f4 groups members
def A1(lo2:nZ ((List U9)×(List U9)×Unit))(f0:Int)(f1 f2:List U7)(f:Int)(f3 f4:List U7)(groups members:List U9):Option ((List U9)×(List U9)×Unit):=(zM (f,f3,f4,0,f,groups,members,())).bind fun y1=>lo2 f3 (f3.length:Int) 0 f f3 f4 y1.1 y1.2.1
def A2(f0:Int)(f1 f2:List U7)(groups members:List U9):Option ((List U9)×(List U9)×Unit):=some (groups,members,())
def T(lo0:nZ ((List U9)×(List U9)×Unit))(f0:Int)(f1 f2:List U7):Option ((List U9)×(List U9)×Unit):=lo0 f1 (f1.length:Int) 0 f0 f1 f2 ([]:List U9) ([]:List U9)
def K0{R:Type}(k0:Nat)(K:ai R):ai R:=aY 0 (bg (fun env ob=>zrc k0 [1,1,1] env ob (K)) (K))
def K1{R:Type}(k0:Nat)(K:ai R):ai R:=aY 2 (bg (fun env ob=>zrc k0 [1,1,1,1] env ob (K)) (K))
def K2{R:Type}(k0:Nat)(K:ai R):ai R:=aY 4 (bg (fun env ob=>zrc k0 [1,1,1,1,1,1] env ob (K)) (K))
def L0:nZ R:=fun t15x t16x t17x f f3 f4 groups members=>iter 0 [1,4,5,15,16,17] [1,4,5] (zrc k0 [1,1,0,1,0,0]) k [(1,.ptr 0 0 0 0),(4,.own 1),(5,.own 2),(15,.sl aC t15x),(16,.int .i64 t16x),(17,.int .i64 t17x)] [.box [.int .i64 f,.sl aC f3,.sl aC f4],.arr eG groups,.arr eG members] K
def L1:nZ R:=fun t29x t30x t31x f f3 f4 groups members=>iter 0 [1,4,5,29,30,31] [1,4,5] (zrc k0 [1,1,1,0,1,0,0]) k [(1,.ptr 0 0 0 0),(4,.own 1),(5,.own 2),(29,.sl aC t29x),(30,.int .i64 t30x),(31,.int .i64 t31x)] [.box [.int .i64 f,.sl aC f3,.sl aC f4],.arr eG groups,.arr eG members] K
def L2:nZ R:=fun t49x t50x t51x f f3 f4 groups members=>iter 0 [1,4,5,49,50,51] [4,5] (zrc k0 [1,1,1,1,1,0,1,0,0]) k [(1,.ptr 0 0 0 0),(4,.own 1),(5,.own 2),(49,.sl aC t49x),(50,.int .i64 t50x),(51,.int .i64 t51x)] [.box [.int .i64 f,.sl aC f3,.sl aC f4],.arr eG groups,.arr eG members] K
def H0:zo R:=fun f f3 f4 groups members=>K (.exit 0) [(1,.ptr 0 0 0 0),(4,.own 1),(5,.own 2)] [.box [.int .i64 f,.sl aC f3,.sl aC f4],.arr eG groups,.arr eG members]
def H1:zo R:=fun f f3 f4 groups members=>K (.exit 2) [(1,.ptr 0 0 0 0),(4,.own 1),(5,.own 2)] [.box [.int .i64 f,.sl aC f3,.sl aC f4],.arr eG groups,.arr eG members]
def H2:zq R:=fun groups members=>K (.exit 4) [(4,.own 0),(5,.own 1)] [.arr eG groups,.arr eG members]
theorem zs0:L0 k0 (k+1) K=R0 (L0 k0 k K) (H0 K):=by kernel_rfl
theorem zs1:L1 k0 (k+1) K=R1 (L1 k0 k K) (H1 K):=by kernel_rfl
theorem zs2:L2 k0 (k+1) K=R2 (L2 k0 k K) (H2 K):=by kernel_rfl
def G0{R:Type}(k0:Nat)(hx0:zo R):Nat→nZ R
 |0=>fun _ _ _ _ _ _ _ _=>none
 |k+1=>R0 (G0 k0 hx0 k) hx0
theorem aK:∀ k,L0 k0 k K=G0 k0 (H0 K) k:=bG rfl fun k ih=>by rw[zs0,G0];(try simp only[ih]);try rfl
def G1{R:Type}(k0:Nat)(hx1:zo R):Nat→nZ R
 |0=>fun _ _ _ _ _ _ _ _=>none
 |k+1=>R1 (G1 k0 hx1 k) hx1
theorem dO:∀ k,L1 k0 k K=G1 k0 (H1 K) k:=bG rfl fun k ih=>by rw[zs1,G1];(try simp only[ih,aK]);try rfl
def G2{R:Type}(k0:Nat)(hx2:zq R):Nat→nZ R
 |0=>fun _ _ _ _ _ _ _ _=>none
 |k+1=>R2 (G2 k0 hx2 k) hx2
theorem kV:∀ k,L2 k0 k K=G2 k0 (H2 K) k:=bG rfl fun k ih=>by rw[zs2,G2];(try simp only[ih,aK,dO]);try rfl
variable (f0:Int) (f1 f2:List U7)
def aA:ai ((List U9)×(List U9)×Unit):=bW Tryz.prog [.tmp 2,.tmp 3] Ja Iz (f0,f1,f2,())
theorem aS:H0 (K0 k0 (aA f0 f1 f2))=A0 (L1 k0 k0 (K1 k0 (aA f0 f1 f2))) f0 f1 f2:=by kernel_rfl
theorem bU:H1 (K1 k0 (aA f0 f1 f2))=A1 (L2 k0 k0 (K2 k0 (aA f0 f1 f2))) f0 f1 f2:=by kernel_rfl
theorem mr:H2 (K2 k0 (aA f0 f1 f2))=A2 f0 f1 f2:=by kernel_rfl
def FF:Option ((List U9)×(List U9)×Unit):=T (G0 k0 (A0 (G1 k0 (A1 (G2 k0 (A2 f0 f1 f2) k0) f0 f1 f2) k0) f0 f1 f2) k0) f0 f1 f2
theorem aQ:bZ Tryz.prog (aP [(135,[],Le)]) ay k0 113 Ja Iz [] (f0,f1,f2,())=FF k0 f0 f1 f2:=Eq.trans (b:=T (L0 k0 k0 (K0 k0 (aA f0 f1 f2))) f0 f1 f2) (by kernel_rfl) (by rw[FF];(try simp only[aK,dO,kV,aS,bU,mr]);try rfl)
def _root_.Go.Rv.qp:=fun x:U3=>FF (300+x.2.1.length+x.2.2.1.length) x.1 x.2.1 x.2.2.1
abbrev _root_.Go.Rv.aaP:aG:=⟨Ja,Iz,qp,[]⟩
theorem _root_.Go.Rv.aao:aF KN Tryz.prog 113 aaP:=dh mix (.c aa3 .nil) (by kernel_rfl) fun x=>⟨ay,_,aQ _ _ _ _⟩
end fH
abbrev LM:Is:=[.v false [CT.sl ct0],.v false [CT.int .i64],.v false [CT.int .i64]]
abbrev KL:Os:=[(false,[CT.int .i64])]
namespace nC
def ay:Nat→List Nat×List Nat:=fun k=>if k=3 then([1,2,7,10,11,12],[7])else([],[])
def zrc{R:Type}(k0:Nat)(p:List Nat):Env→List Ob→ai R→Option R:=bD Tryz.prog (aP []) 32 0 ay k0 (bQ p (cZ Tryz.prog 114))
def R0{R:Type}(nx0:GX R)(ex0:Y2 R)(now2 id2 sum:Int)(t10x:List U8)(t11x t12x:Int):Option R:=cond (decide (t12x<t11x)) (if 0≤t12x∧t12x<(t10x.length:Int)then cond (decide ((rd (0,0,0,()) t10x t12x).2.2.1>now2)) (cond ((rd (0,0,0,()) t10x t12x).1 != id2) (nx0 now2 id2 (af (sum+(rd (0,0,0,()) t10x t12x).2.1)) t10x t11x (af (t12x+1))) (nx0 now2 id2 sum t10x t11x (af (t12x+1)))) (nx0 now2 id2 sum t10x t11x (af (t12x+1)))else none) (ex0 sum)
def A0(list:List U8)(now id:Int)(sum:Int):Option (Int×Unit):=some (sum,())
def T(lo0:GX (Int×Unit))(list:List U8)(now id:Int):Option (Int×Unit):=lo0 now id 0 list (list.length:Int) 0
def K0{R:Type}(k0:Nat)(K:ai R):ai R:=aY 0 (bg (fun env ob=>zrc k0 [1,1,1] env ob (K)) (K))
def L0:GX R:=fun now2 id2 sum t10x t11x t12x=>iter 0 [1,2,7,10,11,12] [7] (zrc k0 [1,1,0,1,0,0]) k [(1,.int .i64 now2),(2,.int .i64 id2),(7,.int .i64 sum),(10,.sl ct0 t10x),(11,.int .i64 t11x),(12,.int .i64 t12x)] [] K
def H0:Y2 R:=fun sum=>K (.exit 0) [(7,.int .i64 sum)] []
theorem zs0:L0 k0 (k+1) K=R0 (L0 k0 k K) (H0 K):=by kernel_rfl
def G0{R:Type}(k0:Nat)(hx0:Y2 R):Nat→GX R
 |0=>fun _ _ _ _ _ _=>none
 |k+1=>R0 (G0 k0 hx0 k) hx0
theorem aK:∀ k,L0 k0 k K=G0 k0 (H0 K) k:=bG rfl fun k ih=>by rw[zs0,G0];(try simp only[ih]);try rfl
variable (list:List U8) (now id:Int)
def aA:ai (Int×Unit):=bW Tryz.prog [.tmp 6] LM KL (list,now,id,())
theorem aS:H0 (K0 k0 (aA list now id))=A0 list now id:=by kernel_rfl
def FF:Option (Int×Unit):=T (G0 k0 (A0 list now id) k0) list now id
theorem aQ:bZ Tryz.prog (aP []) ay k0 114 LM KL [] (list,now,id,())=FF k0 list now id:=Eq.trans (b:=T (L0 k0 k0 (K0 k0 (aA list now id))) list now id) (by kernel_rfl) (by rw[FF];(try simp only[aK,aS]);try rfl)
def _root_.Go.Rv.wZ:=fun x:(List U8)×U9=>FF (300+x.1.length) x.1 x.2.1 x.2.2.1
abbrev _root_.Go.Rv.adg:aG:=⟨LM,KL,wZ,[]⟩
theorem _root_.Go.Rv.acK:aF Dr Tryz.prog 114 adg:=dh mix .nil (by kernel_rfl) fun x=>⟨ay,_,aQ _ _ _ _⟩
end nC
def Ih.T(s:List U8):Option ((List U8)×Unit):=if s.length=0 then(@ite _ (some ([],())=if([]:List U8).length+s.length≤maxRow then some ((([]:List U8)++s),())else none) (Classical.propDecidable _) (if([]:List U8).length+s.length≤maxRow then some ((([]:List U8)++s),())else none) none)else if([]:List U8).length+s.length≤maxRow then some ((([]:List U8)++s),())else none
def Cj:=fun x:(List U8)×Unit=>Ih.T x.1
abbrev ZT:aG:=⟨[.v false [CT.sl ct0]],[(false,[CT.sl ct0])],Cj,[]⟩
theorem Rf:aF Dr Tryz.prog 87 ZT:=aW mix .nil (by kernel_rfl) fun x=>by kernel_rfl
def MH.T(l0 l1 l2 id:Int):Option (Int×Unit):=(qo (l0,id,())).bind fun y1=>some (y1.1,())
def zJ:=fun x:U7=>MH.T x.1 x.2.1 x.2.2.1 x.2.2.2.1
abbrev Lc:aG:=⟨[.v true ct0,.v false [CT.int .i64]],[(false,[CT.int .i64])],zJ,[]⟩
theorem aaZ:aF Dr Tryz.prog 157 Lc:=aW mix (.c CO .nil) (by kernel_rfl) fun x=>by kernel_rfl
abbrev Hr:Is:=[.v false [CT.sl ct0],.v false [CT.int .i64],.cl 157 []]
abbrev Ho:Os:=[(false,[CT.int .i64]),(false,[CT.bool])]
namespace wE
def ay:Nat→List Nat×List Nat:=fun k=>if k=3 then([0,1,2,8,9,10],[0,1,2,8,9])else([],[])
def zrc{R:Type}(k0:Nat)(p:List Nat):Env→List Ob→ai R→Option R:=bD Tryz.prog (aP [(157,[],Lc)]) 49 0 ay k0 (bQ p (cZ Tryz.prog 156))
def R0{R:Type}(nx0:uF R)(ex0:QT R)(x2:List U8)(target2 n i j:Int):Option R:=cond (decide (i<j)) (if 0≤(af ((Int.fdiv (IntKind.u64.wrap ((af (i+j)))) (2 ^ 1))))∧(af ((Int.fdiv (IntKind.u64.wrap ((af (i+j)))) (2 ^ 1))))<(x2.length:Int)then(zJ ((rd (0,0,0,()) x2 (af ((Int.fdiv (IntKind.u64.wrap ((af (i+j)))) (2 ^ 1))))).1,(rd (0,0,0,()) x2 (af ((Int.fdiv (IntKind.u64.wrap ((af (i+j)))) (2 ^ 1))))).2.1,(rd (0,0,0,()) x2 (af ((Int.fdiv (IntKind.u64.wrap ((af (i+j)))) (2 ^ 1))))).2.2.1,target2,())).bind fun y1=>cond (decide (y1.1<0)) (nx0 x2 target2 n (af ((af ((Int.fdiv (IntKind.u64.wrap ((af (i+j)))) (2 ^ 1))))+1)) j) (nx0 x2 target2 n i (af ((Int.fdiv (IntKind.u64.wrap ((af (i+j)))) (2 ^ 1)))))else none) (ex0 x2 target2 n i)
def A0(x:List U8)(target:Int)(x2:List U8)(target2 n i:Int):Option (Int×Bool×Unit):=cond (decide (i<n)) (if 0≤i∧i<(x2.length:Int)then(zJ ((rd (0,0,0,()) x2 i).1,(rd (0,0,0,()) x2 i).2.1,(rd (0,0,0,()) x2 i).2.2.1,target2,())).bind fun y1=>some (i,(y1.1==0),())else none) (some (i,false,()))
def T(lo0:uF (Int×Bool×Unit))(x:List U8)(target:Int):Option (Int×Bool×Unit):=lo0 x target (x.length:Int) 0 (x.length:Int)
def K0{R:Type}(k0:Nat)(K:ai R):ai R:=aY 0 (bg (fun env ob=>zrc k0 [1,1,1,1] env ob (K)) (K))
def L0:uF R:=fun x2 target2 n i j=>iter 0 [0,1,2,8,9,10] [0,1,2,8,9] (zrc k0 [1,1,1,0,0,0]) k [(0,.sl ct0 x2),(1,.int .i64 target2),(2,.fn 157 []),(8,.int .i64 n),(9,.int .i64 i),(10,.int .i64 j)] [] K
def H0:QT R:=fun x2 target2 n i=>K (.exit 0) [(0,.sl ct0 x2),(1,.int .i64 target2),(2,.fn 157 []),(8,.int .i64 n),(9,.int .i64 i)] []
theorem zs0:L0 k0 (k+1) K=R0 (L0 k0 k K) (H0 K):=by kernel_rfl
def G0{R:Type}(k0:Nat)(hx0:QT R):Nat→uF R
 |0=>fun _ _ _ _ _=>none
 |k+1=>R0 (G0 k0 hx0 k) hx0
theorem aK:∀ k,L0 k0 k K=G0 k0 (H0 K) k:=bG rfl fun k ih=>by rw[zs0,G0];(try simp only[ih]);try rfl
variable (x:List U8) (target:Int)
def aA:ai (Int×Bool×Unit):=bW Tryz.prog [.tmp 6,.tmp 7] Hr Ho (x,target,())
theorem aS:H0 (K0 k0 (aA x target))=A0 x target:=by kernel_rfl
def FF:Option (Int×Bool×Unit):=T (G0 k0 (A0 x target) k0) x target
theorem aQ:bZ Tryz.prog (aP [(157,[],Lc)]) ay k0 156 Hr Ho [] (x,target,())=FF k0 x target:=Eq.trans (b:=T (L0 k0 k0 (K0 k0 (aA x target))) x target) (by kernel_rfl) (by rw[FF];(try simp only[aK,aS]);try rfl)
def _root_.Go.Rv.Ht:=fun x:(List U8)×Int×Unit=>FF (300+x.1.length) x.1 x.2.1
abbrev _root_.Go.Rv.Zq:aG:=⟨Hr,Ho,Ht,[]⟩
theorem _root_.Go.Rv.Zp:aF Dr Tryz.prog 156 Zq:=dh mix (.c aaZ .nil) (by kernel_rfl) fun x=>⟨ay,_,aQ _ _ _⟩
end wE
def Ut.T(list:List U8)(id:Int):Option (Int×Bool×Unit):=(Ht (list,id,())).bind fun y1=>some (y1.1,y1.2.1,())
def DZ:=fun x:(List U8)×Int×Unit=>Ut.T x.1 x.2.1
abbrev acU:aG:=⟨[.v false [CT.sl ct0],.v false [CT.int .i64]],[(false,[CT.int .i64]),(false,[CT.bool])],DZ,[]⟩
theorem ab9:aF Dr Tryz.prog 136 acU:=aW mix (.cf [157] Zp .nil) (by kernel_rfl) fun x=>by kernel_rfl
def Nb.T(list:List U8)(l0 l1 l2:Int):Option ((List U8)×Unit):=(Cj (list,())).bind fun y1=>(DZ (list,l0,())).bind fun y2=>cond y2.2.1 (if 0≤y2.1∧y2.1<(y1.1.length:Int)then some ((y1.1.set ((y2.1).toNat) (l0,l1,l2,())),())else none) ((Ci (y1.1,y2.1,[(l0,l1,l2,())],())).bind fun y3=>some (y3.1,()))
def qA:=fun x:(List U8)×U8=>Nb.T x.1 x.2.1 x.2.2.1 x.2.2.2.1
abbrev acz:aG:=⟨[.v false [CT.sl ct0],.v true ct0],[(false,[CT.sl ct0])],qA,[]⟩
theorem abK:aF Dr Tryz.prog 115 acz:=aW mix (.c Rf (.c ab9 (.c ZN .nil))) (by kernel_rfl) fun x=>by kernel_rfl
def Du.T(s0 s1 s2 s3:Int)(s4 s5:List U7)(s6:List U8)(o0 o1 o2 o3 o4:Int):Option (Int×Int×Int×U1):=(oQ (s3,s4,s5,o1,())).bind fun y1=>cond (decide (s2<(af (s1+s0)))) (some (0,0,7,s0,s1,s2,s3,s4,s5,s6,())) ((mF (s3,s4,s5,o2,())).bind fun y2=>cond (!y2.1) (some (0,0,4,s0,s1,s2,s3,s4,s5,s6,())) (cond (!y1.2.1) (cond ((s5.length:Int)==60) (some (0,0,6,s0,s1,s2,s3,s4,s5,s6,())) (cond (!y1.2.1) ((lQ (s5,y1.1,[(0,0,0,0,())],())).bind fun y3=>if 0≤y1.1∧y1.1<(y3.1.length:Int)then(qp (s3,s4,(y3.1.set ((y1.1).toNat) (o1,o2,o3,o4,())),())).bind fun y4=>(wZ (s6,s2,o1,())).bind fun y5=>if 0≤y1.1∧y1.1<(y4.2.1.length:Int)then(qA (s6,o1,(mn ((y4.2.1.getD ((y1.1).toNat) (0,0,())).2.1) (mx (af (s3 - y5.1)) 0)),(af (s2+s0)),())).bind fun y6=>some ((mn ((y4.2.1.getD ((y1.1).toNat) (0,0,())).2.1) (mx (af (s3 - y5.1)) 0)),(af (s2+s0)),0,s0,s1,s2,s3,s4,(y3.1.set ((y1.1).toNat) (o1,o2,o3,o4,())),y6.1,())else none else none) (if 0≤y1.1∧y1.1<(s5.length:Int)then(qp (s3,s4,(s5.set ((y1.1).toNat) (o1,o2,o3,o4,())),())).bind fun y7=>(wZ (s6,s2,o1,())).bind fun y8=>if 0≤y1.1∧y1.1<(y7.2.1.length:Int)then(qA (s6,o1,(mn ((y7.2.1.getD ((y1.1).toNat) (0,0,())).2.1) (mx (af (s3 - y8.1)) 0)),(af (s2+s0)),())).bind fun y9=>some ((mn ((y7.2.1.getD ((y1.1).toNat) (0,0,())).2.1) (mx (af (s3 - y8.1)) 0)),(af (s2+s0)),0,s0,s1,s2,s3,s4,(s5.set ((y1.1).toNat) (o1,o2,o3,o4,())),y9.1,())else none else none))) (cond (!y1.2.1) ((lQ (s5,y1.1,[(0,0,0,0,())],())).bind fun y10=>if 0≤y1.1∧y1.1<(y10.1.length:Int)then(qp (s3,s4,(y10.1.set ((y1.1).toNat) (o1,o2,o3,o4,())),())).bind fun y11=>(wZ (s6,s2,o1,())).bind fun y12=>if 0≤y1.1∧y1.1<(y11.2.1.length:Int)then(qA (s6,o1,(mn ((y11.2.1.getD ((y1.1).toNat) (0,0,())).2.1) (mx (af (s3 - y12.1)) 0)),(af (s2+s0)),())).bind fun y13=>some ((mn ((y11.2.1.getD ((y1.1).toNat) (0,0,())).2.1) (mx (af (s3 - y12.1)) 0)),(af (s2+s0)),0,s0,s1,s2,s3,s4,(y10.1.set ((y1.1).toNat) (o1,o2,o3,o4,())),y13.1,())else none else none) (if 0≤y1.1∧y1.1<(s5.length:Int)then(qp (s3,s4,(s5.set ((y1.1).toNat) (o1,o2,o3,o4,())),())).bind fun y14=>(wZ (s6,s2,o1,())).bind fun y15=>if 0≤y1.1∧y1.1<(y14.2.1.length:Int)then(qA (s6,o1,(mn ((y14.2.1.getD ((y1.1).toNat) (0,0,())).2.1) (mx (af (s3 - y15.1)) 0)),(af (s2+s0)),())).bind fun y16=>some ((mn ((y14.2.1.getD ((y1.1).toNat) (0,0,())).2.1) (mx (af (s3 - y15.1)) 0)),(af (s2+s0)),0,s0,s1,s2,s3,s4,(s5.set ((y1.1).toNat) (o1,o2,o3,o4,())),y16.1,())else none else none))))
def qw:=fun x:Int×Int×Int×Int×(List U7)×(List U7)×(List U8)×U5=>Du.T x.1 x.2.1 x.2.2.1 x.2.2.2.1 x.2.2.2.2.1 x.2.2.2.2.2.1 x.2.2.2.2.2.2.1 x.2.2.2.2.2.2.2.1 x.2.2.2.2.2.2.2.2.1 x.2.2.2.2.2.2.2.2.2.1 x.2.2.2.2.2.2.2.2.2.2.1 x.2.2.2.2.2.2.2.2.2.2.2.1
abbrev abk:aG:=⟨[.m gV,.v true dJ],[(true,ct0)],qw,[]⟩
theorem aaG:aF KN Tryz.prog 88 abk:=aW mix (.c CS (.c CJ (.c Q9 (.c aao (.c acK (.c abK .nil)))))) (by kernel_rfl) fun x=>by kernel_rfl
def SV.T(f0:Int)(f1 f2:List U7)(e0 e1 e2 e3 e4:Int):Option (Int×U3):=(oQ (f0,f1,f2,e1,())).bind fun y1=>cond (e0==6) ((qx (f0,f1,f2,e1,())).bind fun y2=>cond y2.2.1 (some (5,f0,f1,f2,())) ((mF (f0,f1,f2,e2,())).bind fun y3=>cond (!y3.1) (some (4,f0,f1,f2,())) (cond (e0==1) (cond ((f2.length:Int)==60) (some (6,f0,f1,f2,())) (cond (e0==6) (cond ((f1.length:Int)==30) (some (6,f0,f1,f2,())) (cond (e0==1) ((lQ (f2,y2.1,[(e1,e2,e3,e4,())],())).bind fun y4=>some (0,f0,f1,y4.1,())) ((mD (f1,y2.1,[(e1,e2,e3,e4,())],())).bind fun y5=>some (0,f0,y5.1,f2,())))) (cond (e0==1) ((lQ (f2,y2.1,[(e1,e2,e3,e4,())],())).bind fun y6=>some (0,f0,f1,y6.1,())) ((mD (f1,y2.1,[(e1,e2,e3,e4,())],())).bind fun y7=>some (0,f0,y7.1,f2,()))))) (cond (e0==6) (cond ((f1.length:Int)==30) (some (6,f0,f1,f2,())) (cond (e0==1) ((lQ (f2,y2.1,[(e1,e2,e3,e4,())],())).bind fun y8=>some (0,f0,f1,y8.1,())) ((mD (f1,y2.1,[(e1,e2,e3,e4,())],())).bind fun y9=>some (0,f0,y9.1,f2,())))) (cond (e0==1) ((lQ (f2,y2.1,[(e1,e2,e3,e4,())],())).bind fun y10=>some (0,f0,f1,y10.1,())) ((mD (f1,y2.1,[(e1,e2,e3,e4,())],())).bind fun y11=>some (0,f0,y11.1,f2,()))))))) (cond y1.2.1 (some (5,f0,f1,f2,())) ((mF (f0,f1,f2,e2,())).bind fun y12=>cond (!y12.1) (some (4,f0,f1,f2,())) (cond (e0==1) (cond ((f2.length:Int)==60) (some (6,f0,f1,f2,())) (cond (e0==6) (cond ((f1.length:Int)==30) (some (6,f0,f1,f2,())) (cond (e0==1) ((lQ (f2,y1.1,[(e1,e2,e3,e4,())],())).bind fun y13=>some (0,f0,f1,y13.1,())) ((mD (f1,y1.1,[(e1,e2,e3,e4,())],())).bind fun y14=>some (0,f0,y14.1,f2,())))) (cond (e0==1) ((lQ (f2,y1.1,[(e1,e2,e3,e4,())],())).bind fun y15=>some (0,f0,f1,y15.1,())) ((mD (f1,y1.1,[(e1,e2,e3,e4,())],())).bind fun y16=>some (0,f0,y16.1,f2,()))))) (cond (e0==6) (cond ((f1.length:Int)==30) (some (6,f0,f1,f2,())) (cond (e0==1) ((lQ (f2,y1.1,[(e1,e2,e3,e4,())],())).bind fun y17=>some (0,f0,f1,y17.1,())) ((mD (f1,y1.1,[(e1,e2,e3,e4,())],())).bind fun y18=>some (0,f0,y18.1,f2,())))) (cond (e0==1) ((lQ (f2,y1.1,[(e1,e2,e3,e4,())],())).bind fun y19=>some (0,f0,f1,y19.1,())) ((mD (f1,y1.1,[(e1,e2,e3,e4,())],())).bind fun y20=>some (0,f0,y20.1,f2,())))))))
def wK:=fun x:Int×(List U7)×(List U7)×U5=>SV.T x.1 x.2.1 x.2.2.1 x.2.2.2.1 x.2.2.2.2.1 x.2.2.2.2.2.1 x.2.2.2.2.2.2.1 x.2.2.2.2.2.2.2.1
abbrev abn:aG:=⟨[.m eH,.v true dJ],[(false,[CT.int .i64])],wK,[]⟩
theorem aaI:aF Dr Tryz.prog 123 abn:=aW mix (.c CS (.c CJ (.c Q9 (.c CV (.c ZO .nil))))) (by kernel_rfl) fun x=>by kernel_rfl
def Rt.T(g0 g1 g2 g3 a0:Int):Option (Bool×Unit):=some ((g1==(a0,()).1),())
def IE:=fun x:U5=>Rt.T x.1 x.2.1 x.2.2.1 x.2.2.2.1 x.2.2.2.2.1
abbrev IB:aG:=⟨[.v true aC,.r [CT.int .i64]],[(false,[CT.bool])],IE,[]⟩
theorem Z7:aF Dr Tryz.prog 145 IB:=aW mix .nil (by kernel_rfl) fun x=>by kernel_rfl
abbrev Hz:Is:=[.v false [CT.sl aC],.cl 145 [[CT.int .i64]]]
abbrev Hy:Os:=[(false,[CT.int .i64])]
namespace wG
def ay:Nat→List Nat×List Nat:=fun k=>if k=2 then([0,1,7,8],[4])else([],[])
def zrc{R:Type}(k0:Nat)(p:List Nat):Env→List Ob→ai R→Option R:=bD Tryz.prog (aP [(145,[],IB)]) 19 0 ay k0 (bQ p (cZ Tryz.prog 162))
def R0{R:Type}(nx0:uD R)(ex0:Y2 R)(ex1:dF R)(s2:List U7)(f:Int×Unit)(t7x t8x:Int):Option R:=cond (decide (t8x<t7x)) (if 0≤t8x∧t8x<(s2.length:Int)then(IE ((rd (0,0,0,0,()) s2 t8x).1,(rd (0,0,0,0,()) s2 t8x).2.1,(rd (0,0,0,0,()) s2 t8x).2.2.1,(rd (0,0,0,0,()) s2 t8x).2.2.2.1,f.1,())).bind fun y1=>cond y1.1 (ex0 t8x) (nx0 s2 f t7x (af (t8x+1)))else none) (ex1 ())
def A0(s:List U7)(f0:Int)(t4x:Int):Option (Int×Unit):=some (t4x,())
def A1(s:List U7)(f0:Int)(_u:Unit):Option (Int×Unit):=some ((-1),())
def T(lo0:uD (Int×Unit))(s:List U7)(f0:Int):Option (Int×Unit):=lo0 s (f0,()) (s.length:Int) 0
def K0{R:Type}(k0:Nat)(K:ai R):ai R:=aY 0 (bg (fun env ob=>zrc k0 [1,1] env ob (K)) (K))
def L0:uD R:=fun s2 f t7x t8x=>iter 0 [0,1,7,8] [4] (zrc k0 [1,0,1,0,0]) k [(0,.sl aC s2),(1,.fn 145 [.eptr [CT.int .i64] f 0]),(7,.int .i64 t7x),(8,.int .i64 t8x)] [] K
def H0:Y2 R:=fun t4x=>K .ret [(4,.int .i64 t4x)] []
def H1:dF R:=fun _=>K (.exit 0) [(4,.undef)] []
theorem zs0:L0 k0 (k+1) K=R0 (L0 k0 k K) (H0 K) (H1 K):=by kernel_rfl
def G0{R:Type}(k0:Nat)(hx0:Y2 R)(hx1:dF R):Nat→uD R
 |0=>fun _ _ _ _=>none
 |k+1=>R0 (G0 k0 hx0 hx1 k) hx0 hx1
theorem aK:∀ k,L0 k0 k K=G0 k0 (H0 K) (H1 K) k:=bG rfl fun k ih=>by rw[zs0,G0];(try simp only[ih]);try rfl
variable (s:List U7) (f0:Int)
def aA:ai (Int×Unit):=bW Tryz.prog [.tmp 4] Hz Hy (s,f0,())
theorem aS:H0 (K0 k0 (aA s f0))=A0 s f0:=by kernel_rfl
theorem bU:H1 (K0 k0 (aA s f0))=A1 s f0:=by kernel_rfl
def FF:Option (Int×Unit):=T (G0 k0 (A0 s f0) (A1 s f0) k0) s f0
theorem aQ:bZ Tryz.prog (aP [(145,[],IB)]) ay k0 162 Hz Hy [] (s,f0,())=FF k0 s f0:=Eq.trans (b:=T (L0 k0 k0 (K0 k0 (aA s f0))) s f0) (by kernel_rfl) (by rw[FF];(try simp only[aK,aS,bU]);try rfl)
def _root_.Go.Rv.H8:=fun x:(List U7)×Int×Unit=>FF (300+x.1.length) x.1 x.2.1
abbrev _root_.Go.Rv.Zz:aG:=⟨Hz,Hy,H8,[]⟩
theorem _root_.Go.Rv.Zy:aF Dr Tryz.prog 162 Zz:=dh mix (.c Z7 .nil) (by kernel_rfl) fun x=>⟨ay,_,aQ _ _ _⟩
end wG
def Q8.T(s:List U7)(f0:Int):Option (Bool×Unit):=(H8 (s,(f0,()).1,())).bind fun y1=>some ((decide (y1.1≥0)),())
def Cf:=fun x:(List U7)×Int×Unit=>Q8.T x.1 x.2.1
abbrev Zw:aG:=⟨[.v false [CT.sl aC],.cl 145 [[CT.int .i64]]],[(false,[CT.bool])],Cf,[]⟩
theorem Zu:aF Dr Tryz.prog 144 Zw:=aW mix (.cf [145] Zy .nil) (by kernel_rfl) fun x=>by kernel_rfl
def Rq.T(m0 m1 m2 m3 a0:Int):Option (Bool×Unit):=some ((m1==(a0,()).1),())
def IC:=fun x:U5=>Rq.T x.1 x.2.1 x.2.2.1 x.2.2.2.1 x.2.2.2.2.1
abbrev IA:aG:=⟨[.v true aC,.r [CT.int .i64]],[(false,[CT.bool])],IC,[]⟩
theorem Z5:aF Dr Tryz.prog 147 IA:=aW mix .nil (by kernel_rfl) fun x=>by kernel_rfl
abbrev Hw:Is:=[.v false [CT.sl aC],.cl 147 [[CT.int .i64]]]
abbrev Hu:Os:=[(false,[CT.int .i64])]
namespace wF
def ay:Nat→List Nat×List Nat:=fun k=>if k=2 then([0,1,7,8],[4])else([],[])
def zrc{R:Type}(k0:Nat)(p:List Nat):Env→List Ob→ai R→Option R:=bD Tryz.prog (aP [(147,[],IA)]) 19 0 ay k0 (bQ p (cZ Tryz.prog 140))
def R0{R:Type}(nx0:uD R)(ex0:Y2 R)(ex1:dF R)(s2:List U7)(f:Int×Unit)(t7x t8x:Int):Option R:=cond (decide (t8x<t7x)) (if 0≤t8x∧t8x<(s2.length:Int)then(IC ((rd (0,0,0,0,()) s2 t8x).1,(rd (0,0,0,0,()) s2 t8x).2.1,(rd (0,0,0,0,()) s2 t8x).2.2.1,(rd (0,0,0,0,()) s2 t8x).2.2.2.1,f.1,())).bind fun y1=>cond y1.1 (ex0 t8x) (nx0 s2 f t7x (af (t8x+1)))else none) (ex1 ())
def A0(s:List U7)(f0:Int)(t4x:Int):Option (Int×Unit):=some (t4x,())
def A1(s:List U7)(f0:Int)(_u:Unit):Option (Int×Unit):=some ((-1),())
def T(lo0:uD (Int×Unit))(s:List U7)(f0:Int):Option (Int×Unit):=lo0 s (f0,()) (s.length:Int) 0
def K0{R:Type}(k0:Nat)(K:ai R):ai R:=aY 0 (bg (fun env ob=>zrc k0 [1,1] env ob (K)) (K))
def L0:uD R:=fun s2 f t7x t8x=>iter 0 [0,1,7,8] [4] (zrc k0 [1,0,1,0,0]) k [(0,.sl aC s2),(1,.fn 147 [.eptr [CT.int .i64] f 0]),(7,.int .i64 t7x),(8,.int .i64 t8x)] [] K
def H0:Y2 R:=fun t4x=>K .ret [(4,.int .i64 t4x)] []
def H1:dF R:=fun _=>K (.exit 0) [(4,.undef)] []
theorem zs0:L0 k0 (k+1) K=R0 (L0 k0 k K) (H0 K) (H1 K):=by kernel_rfl
def G0{R:Type}(k0:Nat)(hx0:Y2 R)(hx1:dF R):Nat→uD R
 |0=>fun _ _ _ _=>none
 |k+1=>R0 (G0 k0 hx0 hx1 k) hx0 hx1
theorem aK:∀ k,L0 k0 k K=G0 k0 (H0 K) (H1 K) k:=bG rfl fun k ih=>by rw[zs0,G0];(try simp only[ih]);try rfl
variable (s:List U7) (f0:Int)
def aA:ai (Int×Unit):=bW Tryz.prog [.tmp 4] Hw Hu (s,f0,())
theorem aS:H0 (K0 k0 (aA s f0))=A0 s f0:=by kernel_rfl
theorem bU:H1 (K0 k0 (aA s f0))=A1 s f0:=by kernel_rfl
def FF:Option (Int×Unit):=T (G0 k0 (A0 s f0) (A1 s f0) k0) s f0
theorem aQ:bZ Tryz.prog (aP [(147,[],IA)]) ay k0 140 Hw Hu [] (s,f0,())=FF k0 s f0:=Eq.trans (b:=T (L0 k0 k0 (K0 k0 (aA s f0))) s f0) (by kernel_rfl) (by rw[FF];(try simp only[aK,aS,bU]);try rfl)
def _root_.Go.Rv.H7:=fun x:(List U7)×Int×Unit=>FF (300+x.1.length) x.1 x.2.1
abbrev _root_.Go.Rv.Zx:aG:=⟨Hw,Hu,H7,[]⟩
theorem _root_.Go.Rv.Zv:aF Dr Tryz.prog 140 Zx:=dh mix (.c Z5 .nil) (by kernel_rfl) fun x=>⟨ay,_,aQ _ _ _⟩
end wF
def Q7.T(s:List U7)(f0:Int):Option (Bool×Unit):=(H7 (s,(f0,()).1,())).bind fun y1=>some ((decide (y1.1≥0)),())
def Ce:=fun x:(List U7)×Int×Unit=>Q7.T x.1 x.2.1
abbrev Zt:aG:=⟨[.v false [CT.sl aC],.cl 147 [[CT.int .i64]]],[(false,[CT.bool])],Ce,[]⟩
theorem Zr:aF Dr Tryz.prog 146 Zt:=aW mix (.cf [147] Zv .nil) (by kernel_rfl) fun x=>by kernel_rfl
def RP.T(f0:Int)(f1 f2:List U7)(id:Int):Option (Bool×Unit):=(Cf (f1,id,())).bind fun y1=>cond (!y1.1) ((Ce (f2,id,())).bind fun y2=>some ((!y2.1),())) (some (false,()))
def CU:=fun x:Int×(List U7)×(List U7)×Int×Unit=>RP.T x.1 x.2.1 x.2.2.1 x.2.2.2.1
abbrev aas:aG:=⟨[.v true eH,.v false [CT.int .i64]],[(false,[CT.bool])],CU,[]⟩
theorem aae:aF Dr Tryz.prog 124 aas:=aW mix (.cf [145] Zu (.cf [147] Zr .nil)) (by kernel_rfl) fun x=>by kernel_rfl
def DL.T(f0:Int)(f1 f2:List U7)(e0 e1 e2 e3 e4:Int):Option (Int×U3):=(qx (f0,f1,f2,e1,())).bind fun y1=>(oQ (f0,f1,f2,e1,())).bind fun y2=>cond (e0==1) ((wK (f0,f1,f2,e0,e1,e2,e3,e4,())).bind fun y3=>some (y3.1,y3.2.1,y3.2.2.1,y3.2.2.2.1,())) (cond (e0==6) ((wK (f0,f1,f2,e0,e1,e2,e3,e4,())).bind fun y4=>some (y4.1,y4.2.1,y4.2.2.1,y4.2.2.2.1,())) (cond (e0==7) (cond (!y1.2.1) (some (4,f0,f1,f2,())) ((CU (f0,f1,f2,e1,())).bind fun y5=>cond (!y5.1) (some (9,f0,f1,f2,())) ((zx (f1,y1.1,(af (y1.1+1)),())).bind fun y6=>some (0,f0,y6.1,f2,())))) (cond (e0==8) (cond (e1==0) (some (0,e3,f1,f2,())) (cond (!y1.2.1) (some (4,f0,f1,f2,())) (if 0≤y1.1∧y1.1<(f1.length:Int)then some (0,f0,(f1.set ((y1.1).toNat) ((f1.getD ((y1.1).toNat) (0,0,0,0,())).1,(f1.getD ((y1.1).toNat) (0,0,0,0,())).2.1,e3,(f1.getD ((y1.1).toNat) (0,0,0,0,())).2.2.2.1,())),f2,())else none))) (cond (!y2.2.1) (some (4,f0,f1,f2,())) (cond (e0==2) ((H9 (f2,y2.1,(af (y2.1+1)),())).bind fun y7=>some (0,f0,f1,y7.1,())) (cond (e0==3) (if 0≤y2.1∧y2.1<(f2.length:Int)then some (0,f0,f1,(f2.set ((y2.1).toNat) ((f2.getD ((y2.1).toNat) (0,0,0,0,())).1,(f2.getD ((y2.1).toNat) (0,0,0,0,())).2.1,e3,(f2.getD ((y2.1).toNat) (0,0,0,0,())).2.2.2.1,())),())else none) (cond (e0==4) (if 0≤y2.1∧y2.1<(f2.length:Int)then some (0,f0,f1,(f2.set ((y2.1).toNat) ((f2.getD ((y2.1).toNat) (0,0,0,0,())).1,(f2.getD ((y2.1).toNat) (0,0,0,0,())).2.1,(f2.getD ((y2.1).toNat) (0,0,0,0,())).2.2.1,e3,())),())else none) ((mF (f0,f1,f2,e2,())).bind fun y8=>cond (!y8.1) (some (4,f0,f1,f2,())) (if 0≤y2.1∧y2.1<(f2.length:Int)then some (0,f0,f1,(f2.set ((y2.1).toNat) ((f2.getD ((y2.1).toNat) (0,0,0,0,())).1,e2,(f2.getD ((y2.1).toNat) (0,0,0,0,())).2.2.1,(f2.getD ((y2.1).toNat) (0,0,0,0,())).2.2.2.1,())),())else none)))))))))
def mM:=fun x:Int×(List U7)×(List U7)×U5=>DL.T x.1 x.2.1 x.2.2.1 x.2.2.2.1 x.2.2.2.2.1 x.2.2.2.2.2.1 x.2.2.2.2.2.2.1 x.2.2.2.2.2.2.2.1
abbrev Sz:aG:=⟨[.m eH,.v true dJ],[(false,[CT.int .i64])],mM,[]⟩
theorem aa5:aF Dr Tryz.prog 93 Sz:=aW mix (.c CS (.c CJ (.c CV (.c aaI (.c aae (.c ZP (.c ZI .nil))))))) (by kernel_rfl) fun x=>by kernel_rfl
def Nr.T(o0 o1 o2 o3 o4:Int):Option (U5):=cond (o0==3) (some (8,o1,o2,o3,o4,())) (cond (o0==6) (some (6,o1,o2,o3,o4,())) (cond (o0==7) (some (7,o1,o2,o3,o4,())) (some (0,o1,o2,o3,o4,()))))
def mY:=fun x:U5=>Nr.T x.1 x.2.1 x.2.2.1 x.2.2.2.1 x.2.2.2.2.1
abbrev TJ:aG:=⟨[.v true dJ],[(true,dJ)],mY,[]⟩
theorem SH:aF Dr Tryz.prog 85 TJ:=aW mix .nil (by kernel_rfl) fun x=>by kernel_rfl
end Go.Rv
end
