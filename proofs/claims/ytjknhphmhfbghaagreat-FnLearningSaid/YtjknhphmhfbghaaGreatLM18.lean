/- What functions come to on pure values (printed by a program of ours). -/
import Derived.Test.YtjknhphmhfbghaaGreatLM17
set_option linter.unusedVariables false
set_option linter.unusedSimpArgs false
set_option linter.unusedSectionVars false
set_option maxRecDepth 100000
noncomputable section
namespace Go.Rv
open Go.Proofs
variable {Dr:Kn} {R:Type} (k0 k:Nat) (K:au R)
abbrev IE:Is:=[.v false [CT.sh [CT.int .u8]]]
abbrev Ig:Os:=[(true,qV),(false,[])]
namespace nU
def aB:Nat→List Nat×List Nat:=fun k=>if k=3 then([0,3,4],[0,3])else([],[])
def zrc{R:Type}(k0:Nat)(p:List Nat):Env→List Ob→au R→Option R:=bJ Tryz.prog (aW []) 47 0 aB k0 (cO p (dI Tryz.prog 26))
def R0{R:Type}(nx0:FW R)(ex0:O5 R)(code2:List (Int×Unit))(i:Int)(s:List (Int×Unit))(s2 s3 s4:Int):Option R:=cond (decide (i<(code2.length:Int))) (cond (decide (i<64)) (if 0≤i∧i<(code2.length:Int)then nx0 code2 (af (i+1)) s s2 (IntKind.u64.wrap ((IntKind.u64.wrap (((BitVec.ofInt 64 s3) ^^^ (BitVec.ofInt 64 (IntKind.u64.wrap ((rd (0,()) code2 i).1)))).toNat))*1099511628211)) s4 else none) (ex0 code2 s s2 s3 s4)) (ex0 code2 s s2 s3 s4)
def A0(code:List (Int×Unit))(code2 s:List (Int×Unit))(s2 s3 s4:Int):Option (U5):=if 20=0 then none else cond (decide ((af (Int.tdiv (code2.length:Int) 20))>12)) (some (s,s2,s3,12,())) (some (s,s2,s3,(af (Int.tdiv (code2.length:Int) 20)),()))
def T(lo0:FW (U5))(code:List (Int×Unit)):Option (U5):=lo0 code 0 code 0 88172645463325252 0
def K0{R:Type}(k0:Nat)(K:au R):au R:=bF 0 (bI (fun env ob=>zrc k0 [1,1,1] env ob (K)) (K))
def L0:FW R:=fun code2 i s s2 s3 s4=>iter 0 [0,3,4] [0,3] (zrc k0 [1,1,0,1,0,0]) k [(0,.sh [CT.int .u8] code2),(3,.ptr 0 0 0 0),(4,.int .i64 i)] [.box [.sh [CT.int .u8] s,.int .i64 s2,.int .u64 s3,.int .i64 s4]] K
def H0:O5 R:=fun code2 s s2 s3 s4=>K (.exit 0) [(0,.sh [CT.int .u8] code2),(3,.ptr 0 0 0 0)] [.box [.sh [CT.int .u8] s,.int .i64 s2,.int .u64 s3,.int .i64 s4]]
theorem zs0:L0 k0 (k+1) K=R0 (L0 k0 k K) (H0 K):=by kernel_rfl
def G0{R:Type}(k0:Nat)(hx0:O5 R):Nat→FW R
 |0=>fun _ _ _ _ _ _=>none
 |k+1=>R0 (G0 k0 hx0 k) hx0
theorem aS:∀ k,L0 k0 k K=G0 k0 (H0 K) k:=bP rfl fun k ih=>by rw[zs0,G0];(try simp only[ih]);try rfl
variable (code:List (Int×Unit))
def aA:au (U5):=dw Tryz.prog [.tmp 2] IE Ig (code,())
theorem bf:H0 (K0 k0 (aA code))=A0 code:=by kernel_rfl
def FF:Option (U5):=T (G0 k0 (A0 code) k0) code
theorem aZ:dA Tryz.prog (aW []) aB k0 26 IE Ig [] (code,())=FF k0 code:=Eq.trans (b:=T (L0 k0 k0 (K0 k0 (aA code))) code) (by kernel_rfl) (by rw[FF];(try simp only[aS,bf]);try rfl)
def _root_.Go.Rv.CU:=fun x:(List (Int×Unit))×Unit=>FF (300+x.1.length) x.1
abbrev _root_.Go.Rv.ZM:aG:=⟨IE,Ig,CU,[]⟩
theorem _root_.Go.Rv.Zh:aF Dr Tryz.prog 26 ZM:=dJ mix .nil (by kernel_rfl) fun x=>⟨aB,_,aZ _ _⟩
end nU
def QN.T(n:Int):Option (Bool×Unit):=cond (decide (n≥1)) (some ((decide (n≤1000)),())) (some (false,()))
def zn:=fun x:Int×Unit=>QN.T x.1
abbrev Qn:aG:=⟨[.v false [CT.int .i64]],[(false,[CT.bool])],zn,[]⟩
theorem P5:aF Dr Tryz.prog 29 Qn:=bC mix .nil (by kernel_rfl) fun x=>by kernel_rfl
def RG.T(n:Int):Option (Bool×Unit):=cond (decide (n≥0)) (some ((decide (n≤1125899906842624)),())) (some (false,()))
def dX:=fun x:Int×Unit=>RG.T x.1
abbrev Q5:aG:=⟨[.v false [CT.int .i64]],[(false,[CT.bool])],dX,[]⟩
theorem ug:aF Dr Tryz.prog 63 Q5:=bC mix .nil (by kernel_rfl) fun x=>by kernel_rfl
def SY.T(n:Int):Option (Bool×Unit):=cond (decide (n≥1)) (some ((decide (n≤1000000)),())) (some (false,()))
def lG:=fun x:Int×Unit=>SY.T x.1
abbrev RY:aG:=⟨[.v false [CT.int .i64]],[(false,[CT.bool])],lG,[]⟩
theorem zO:aF Dr Tryz.prog 64 RY:=bC mix .nil (by kernel_rfl) fun x=>by kernel_rfl
abbrev Jg:Is:=[.v true gI,.v false [CT.int .i64]]
abbrev Iz:Os:=[(false,[CT.int .i64])]
namespace wQ
def aB:Nat→List Nat×List Nat:=fun k=>if k=2 then([1,2,5],[4])else([],[])
def zrc{R:Type}(k0:Nat)(p:List Nat):Env→List Ob→au R→Option R:=bJ Tryz.prog (aW []) 22 0 aB k0 (cO p (dI Tryz.prog 65))
def R0{R:Type}(nx0:tN R)(ex0:Y2 R)(ex1:eY R)(id2 i f:Int)(f3 f4:List U8):Option R:=cond (decide (i<(f3.length:Int))) (if 0≤i∧i<(f3.length:Int)then cond ((rd (0,0,0,0,()) f3 i).1==id2) (ex0 i) (nx0 id2 (af (i+1)) f f3 f4)else none) (ex1 ())
def A0(f0:Int)(f1 f2:List U8)(id:Int)(t4x:Int):Option (Int×Unit):=some (t4x,())
def A1(f0:Int)(f1 f2:List U8)(id:Int)(_u:Unit):Option (Int×Unit):=some ((-1),())
def T(lo0:tN (Int×Unit))(f0:Int)(f1 f2:List U8)(id:Int):Option (Int×Unit):=lo0 id 0 f0 f1 f2
def K0{R:Type}(k0:Nat)(K:au R):au R:=bF 0 (bI (fun env ob=>zrc k0 [1,1] env ob (K)) (K))
def L0:tN R:=fun id2 i f f3 f4=>iter 0 [1,2,5] [4] (zrc k0 [1,0,1,0,0]) k [(1,.int .i64 id2),(2,.ptr 0 0 0 0),(5,.int .i64 i)] [.box [.int .i64 f,.sl aC f3,.sl aC f4]] K
def H0:Y2 R:=fun t4x=>K .ret [(4,.int .i64 t4x)] []
def H1:eY R:=fun _=>K (.exit 0) [(4,.undef)] []
theorem zs0:L0 k0 (k+1) K=R0 (L0 k0 k K) (H0 K) (H1 K):=by kernel_rfl
def G0{R:Type}(k0:Nat)(hx0:Y2 R)(hx1:eY R):Nat→tN R
 |0=>fun _ _ _ _ _=>none
 |k+1=>R0 (G0 k0 hx0 hx1 k) hx0 hx1
theorem aS:∀ k,L0 k0 k K=G0 k0 (H0 K) (H1 K) k:=bP rfl fun k ih=>by rw[zs0,G0];(try simp only[ih]);try rfl
variable (f0:Int) (f1 f2:List U8) (id:Int)
def aA:au (Int×Unit):=dw Tryz.prog [.tmp 4] Jg Iz (f0,f1,f2,id,())
theorem bf:H0 (K0 k0 (aA f0 f1 f2 id))=A0 f0 f1 f2 id:=by kernel_rfl
theorem dB:H1 (K0 k0 (aA f0 f1 f2 id))=A1 f0 f1 f2 id:=by kernel_rfl
def FF:Option (Int×Unit):=T (G0 k0 (A0 f0 f1 f2 id) (A1 f0 f1 f2 id) k0) f0 f1 f2 id
theorem aZ:dA Tryz.prog (aW []) aB k0 65 Jg Iz [] (f0,f1,f2,id,())=FF k0 f0 f1 f2 id:=Eq.trans (b:=T (L0 k0 k0 (K0 k0 (aA f0 f1 f2 id))) f0 f1 f2 id) (by kernel_rfl) (by rw[FF];(try simp only[aS,bf,dB]);try rfl)
def _root_.Go.Rv.jP:=fun x:Int×(List U8)×(List U8)×Int×Unit=>FF (300+x.2.1.length+x.2.2.1.length) x.1 x.2.1 x.2.2.1 x.2.2.2.1
abbrev _root_.Go.Rv.wH:aG:=⟨Jg,Iz,jP,[]⟩
theorem _root_.Go.Rv.wE:aF Dr Tryz.prog 65 wH:=dJ mix .nil (by kernel_rfl) fun x=>⟨aB,_,aZ _ _ _ _ _⟩
end wQ
def QO.T(n:Int):Option (Bool×Unit):=cond (decide (n≥1)) (some ((decide (n≤1073741824)),())) (some (false,()))
def gu:=fun x:Int×Unit=>QO.T x.1
abbrev Qo:aG:=⟨[.v false [CT.int .i64]],[(false,[CT.bool])],gu,[]⟩
theorem CB:aF Dr Tryz.prog 66 Qo:=bC mix .nil (by kernel_rfl) fun x=>by kernel_rfl
abbrev IG:Is:=[.v true gI]
abbrev Ih:Os:=[(false,[CT.bool])]
namespace iO
def dG:Tb:=[(63,[],Q5),(64,[],RY),(65,[],wH),(66,[],Qo)]
def aB:Nat→List Nat×List Nat:=fun k=>if k=4 then([1,3],[1,2])else if k=10 then([1,5],[2])else([],[])
def zrc{R:Type}(k0:Nat)(p:List Nat):Env→List Ob→au R→Option R:=bJ Tryz.prog (aW dG) 142 0 aB k0 (cO p (dI Tryz.prog 30))
def R0{R:Type}(nx0:tK R)(ex0:yT R)(ex1:yS R)(i f:Int)(f3 f4:List U8):Option R:=cond (decide (i<(f3.length:Int))) (if 0≤i∧i<(f3.length:Int)then(lG ((rd (0,0,0,0,()) f3 i).1,())).bind fun y1=>cond (!y1.1) (ex0 false f f3 f4) (cond (decide (i>0)) (if 0≤(af (i - 1))∧(af (i - 1))<(f3.length:Int)then cond (decide ((rd (0,0,0,0,()) f3 i).1≤(rd (0,0,0,0,()) f3 (af (i - 1))).1)) (ex0 false f f3 f4) (cond ((rd (0,0,0,0,()) f3 i).2.1 != 0) ((jP (f,f3,f4,(rd (0,0,0,0,()) f3 i).2.1,())).bind fun y2=>cond (decide (y2.1<0)) (ex0 false f f3 f4) (cond (decide ((rd (0,0,0,0,()) f3 i).2.1≥(rd (0,0,0,0,()) f3 i).1)) (ex0 false f f3 f4) ((dX ((rd (0,0,0,0,()) f3 i).2.2.1,())).bind fun y3=>cond (!y3.1) (ex0 false f f3 f4) ((gu ((rd (0,0,0,0,()) f3 i).2.2.2.1,())).bind fun y4=>cond (!y4.1) (ex0 false f f3 f4) (nx0 (af (i+1)) f f3 f4))))) ((dX ((rd (0,0,0,0,()) f3 i).2.2.1,())).bind fun y5=>cond (!y5.1) (ex0 false f f3 f4) ((gu ((rd (0,0,0,0,()) f3 i).2.2.2.1,())).bind fun y6=>cond (!y6.1) (ex0 false f f3 f4) (nx0 (af (i+1)) f f3 f4))))else none) (cond ((rd (0,0,0,0,()) f3 i).2.1 != 0) ((jP (f,f3,f4,(rd (0,0,0,0,()) f3 i).2.1,())).bind fun y7=>cond (decide (y7.1<0)) (ex0 false f f3 f4) (cond (decide ((rd (0,0,0,0,()) f3 i).2.1≥(rd (0,0,0,0,()) f3 i).1)) (ex0 false f f3 f4) ((dX ((rd (0,0,0,0,()) f3 i).2.2.1,())).bind fun y8=>cond (!y8.1) (ex0 false f f3 f4) ((gu ((rd (0,0,0,0,()) f3 i).2.2.2.1,())).bind fun y9=>cond (!y9.1) (ex0 false f f3 f4) (nx0 (af (i+1)) f f3 f4))))) ((dX ((rd (0,0,0,0,()) f3 i).2.2.1,())).bind fun y10=>cond (!y10.1) (ex0 false f f3 f4) ((gu ((rd (0,0,0,0,()) f3 i).2.2.2.1,())).bind fun y11=>cond (!y11.1) (ex0 false f f3 f4) (nx0 (af (i+1)) f f3 f4)))))else none) (ex1 f f3 f4)
def R1{R:Type}(nx1:tK R)(ex2:jM R)(ex3:eY R)(i f:Int)(f3 f4:List U8):Option R:=cond (decide (i<(f4.length:Int))) (if 0≤i∧i<(f4.length:Int)then(lG ((rd (0,0,0,0,()) f4 i).1,())).bind fun y1=>cond (!y1.1) (ex2 false) (cond (decide (i>0)) (if 0≤(af (i - 1))∧(af (i - 1))<(f4.length:Int)then cond (decide ((rd (0,0,0,0,()) f4 i).1≤(rd (0,0,0,0,()) f4 (af (i - 1))).1)) (ex2 false) (cond ((rd (0,0,0,0,()) f4 i).2.1 != 0) ((jP (f,f3,f4,(rd (0,0,0,0,()) f4 i).2.1,())).bind fun y2=>cond (decide (y2.1<0)) (ex2 false) ((dX ((rd (0,0,0,0,()) f4 i).2.2.1,())).bind fun y3=>cond (!y3.1) (ex2 false) ((gu ((rd (0,0,0,0,()) f4 i).2.2.2.1,())).bind fun y4=>cond (!y4.1) (ex2 false) (nx1 (af (i+1)) f f3 f4)))) ((dX ((rd (0,0,0,0,()) f4 i).2.2.1,())).bind fun y5=>cond (!y5.1) (ex2 false) ((gu ((rd (0,0,0,0,()) f4 i).2.2.2.1,())).bind fun y6=>cond (!y6.1) (ex2 false) (nx1 (af (i+1)) f f3 f4))))else none) (cond ((rd (0,0,0,0,()) f4 i).2.1 != 0) ((jP (f,f3,f4,(rd (0,0,0,0,()) f4 i).2.1,())).bind fun y7=>cond (decide (y7.1<0)) (ex2 false) ((dX ((rd (0,0,0,0,()) f4 i).2.2.1,())).bind fun y8=>cond (!y8.1) (ex2 false) ((gu ((rd (0,0,0,0,()) f4 i).2.2.2.1,())).bind fun y9=>cond (!y9.1) (ex2 false) (nx1 (af (i+1)) f f3 f4)))) ((dX ((rd (0,0,0,0,()) f4 i).2.2.1,())).bind fun y10=>cond (!y10.1) (ex2 false) ((gu ((rd (0,0,0,0,()) f4 i).2.2.2.1,())).bind fun y11=>cond (!y11.1) (ex2 false) (nx1 (af (i+1)) f f3 f4)))))else none) (ex3 ())
def A0(f0:Int)(f1 f2:List U8)(t2x:Bool)(f:Int)(f3 f4:List U8):Option (Bool×Unit):=some (t2x,())
def A1(lo1:tK (Bool×Unit))(f0:Int)(f1 f2:List U8)(f:Int)(f3 f4:List U8):Option (Bool×Unit):=lo1 0 f f3 f4
def A2(f0:Int)(f1 f2:List U8)(t2x:Bool):Option (Bool×Unit):=some (t2x,())
def A3(f0:Int)(f1 f2:List U8)(_u:Unit):Option (Bool×Unit):=some (true,())
def T(lo0:tK (Bool×Unit))(f0:Int)(f1 f2:List U8):Option (Bool×Unit):=(dX (f0,())).bind fun y1=>cond (!y1.1) (some (false,())) (cond (decide ((f1.length:Int)>30)) (some (false,())) (cond (decide ((f2.length:Int)>60)) (some (false,())) (lo0 0 f0 f1 f2)))
def K0{R:Type}(k0:Nat)(K:au R):au R:=bF 0 (bI (fun env ob=>zrc k0 [1,1,1] env ob (K)) (K))
def K1{R:Type}(k0:Nat)(K:au R):au R:=bF 2 (bI (fun env ob=>zrc k0 [1,1,1,1] env ob (K)) (K))
def L0:tK R:=fun i f f3 f4=>iter 0 [1,3] [1,2] (zrc k0 [1,1,0,1,0,0]) k [(1,.ptr 0 0 0 0),(3,.int .i64 i)] [.box [.int .i64 f,.sl aC f3,.sl aC f4]] K
def L1:tK R:=fun i f f3 f4=>iter 0 [1,5] [2] (zrc k0 [1,1,1,0,1,0,0]) k [(1,.ptr 0 0 0 0),(5,.int .i64 i)] [.box [.int .i64 f,.sl aC f3,.sl aC f4]] K
def H0:yT R:=fun t2x f f3 f4=>K .ret [(1,.ptr 0 0 0 0),(2,.bool t2x)] [.box [.int .i64 f,.sl aC f3,.sl aC f4]]
def H1:yS R:=fun f f3 f4=>K (.exit 0) [(1,.ptr 0 0 0 0),(2,.undef)] [.box [.int .i64 f,.sl aC f3,.sl aC f4]]
def H2:jM R:=fun t2x=>K .ret [(2,.bool t2x)] []
def H3:eY R:=fun _=>K (.exit 2) [(2,.undef)] []
theorem zs0:L0 k0 (k+1) K=R0 (L0 k0 k K) (H0 K) (H1 K):=by kernel_rfl
theorem zs1:L1 k0 (k+1) K=R1 (L1 k0 k K) (H2 K) (H3 K):=by kernel_rfl
def G0{R:Type}(k0:Nat)(hx0:yT R)(hx1:yS R):Nat→tK R
 |0=>fun _ _ _ _=>none
 |k+1=>R0 (G0 k0 hx0 hx1 k) hx0 hx1
theorem aS:∀ k,L0 k0 k K=G0 k0 (H0 K) (H1 K) k:=bP rfl fun k ih=>by rw[zs0,G0];(try simp only[ih]);try rfl
def G1{R:Type}(k0:Nat)(hx2:jM R)(hx3:eY R):Nat→tK R
 |0=>fun _ _ _ _=>none
 |k+1=>R1 (G1 k0 hx2 hx3 k) hx2 hx3
theorem dP:∀ k,L1 k0 k K=G1 k0 (H2 K) (H3 K) k:=bP rfl fun k ih=>by rw[zs1,G1];(try simp only[ih,aS]);try rfl
variable (f0:Int) (f1 f2:List U8)
def aA:au (Bool×Unit):=dw Tryz.prog [.tmp 2] IG Ih (f0,f1,f2,())
theorem bf:H0 (K0 k0 (aA f0 f1 f2))=A0 f0 f1 f2:=by kernel_rfl
theorem dB:H1 (K0 k0 (aA f0 f1 f2))=A1 (L1 k0 k0 (K1 k0 (aA f0 f1 f2))) f0 f1 f2:=by kernel_rfl
theorem mG:H2 (K1 k0 (aA f0 f1 f2))=A2 f0 f1 f2:=by kernel_rfl
theorem qR:H3 (K1 k0 (aA f0 f1 f2))=A3 f0 f1 f2:=by kernel_rfl
def FF:Option (Bool×Unit):=T (G0 k0 (A0 f0 f1 f2) (A1 (G1 k0 (A2 f0 f1 f2) (A3 f0 f1 f2) k0) f0 f1 f2) k0) f0 f1 f2
theorem aZ:dA Tryz.prog (aW dG) aB k0 30 IG Ih [] (f0,f1,f2,())=FF k0 f0 f1 f2:=Eq.trans (b:=T (L0 k0 k0 (K0 k0 (aA f0 f1 f2))) f0 f1 f2) (by kernel_rfl) (by rw[FF];(try simp only[aS,dP,bf,dB,mG,qR]);try rfl)
def _root_.Go.Rv.zu:=fun x:U3=>FF (300+x.2.1.length+x.2.2.1.length) x.1 x.2.1 x.2.2.1
abbrev _root_.Go.Rv.CS:aG:=⟨IG,Ih,zu,[]⟩
theorem _root_.Go.Rv.Jd:aF Dr Tryz.prog 30 CS:=dJ mix (.c ug (.c zO (.c wE (.c CB .nil)))) (by kernel_rfl) fun x=>⟨aB,_,aZ _ _ _ _⟩
end iO
def Rz.T(n:Int):Option (Bool×Unit):=cond (decide (n≥0)) (some ((decide (n≤1000000)),())) (some (false,()))
def Dj:=fun x:Int×Unit=>Rz.T x.1
abbrev aar:aG:=⟨[.v false [CT.int .i64]],[(false,[CT.bool])],Dj,[]⟩
theorem ZQ:aF Dr Tryz.prog 97 aar:=bC mix .nil (by kernel_rfl) fun x=>by kernel_rfl
def Ri.T(l0 l1 l2:Int):Option (Bool×Unit):=(lG (l0,())).bind fun y1=>cond y1.1 ((dX (l1,())).bind fun y2=>cond y2.1 ((Dj (l2,())).bind fun y3=>some (y3.1,())) (some (false,()))) (some (false,()))
def zG:=fun x:U9=>Ri.T x.1 x.2.1 x.2.2.1
abbrev zF:aG:=⟨[.v true ct0],[(false,[CT.bool])],zG,[]⟩
theorem Qi:aF Dr Tryz.prog 67 zF:=bC mix (.c ug (.c zO (.c ZQ .nil))) (by kernel_rfl) fun x=>by kernel_rfl
abbrev Hw:Is:=[.v false [CT.sl ct0]]
abbrev G6:Os:=[(false,[CT.bool])]
namespace kM
def aB:Nat→List Nat×List Nat:=fun k=>if k=4 then([0,3],[2])else([],[])
def zrc{R:Type}(k0:Nat)(p:List Nat):Env→List Ob→au R→Option R:=bJ Tryz.prog (aW [(67,[],zF)]) 37 0 aB k0 (cO p (dI Tryz.prog 31))
def R0{R:Type}(nx0:FV R)(ex0:jM R)(ex1:eY R)(list2:List U9)(i:Int):Option R:=cond (decide (i<(list2.length:Int))) (if 0≤i∧i<(list2.length:Int)then(zG ((rd (0,0,0,()) list2 i).1,(rd (0,0,0,()) list2 i).2.1,(rd (0,0,0,()) list2 i).2.2.1,())).bind fun y1=>cond (!y1.1) (ex0 false) (cond (decide (i>0)) (if 0≤i∧i<(list2.length:Int)then if 0≤(af (i - 1))∧(af (i - 1))<(list2.length:Int)then cond (decide ((rd (0,0,0,()) list2 i).1≤(rd (0,0,0,()) list2 (af (i - 1))).1)) (ex0 false) (nx0 list2 (af (i+1)))else none else none) (nx0 list2 (af (i+1))))else none) (ex1 ())
def A0(list:List U9)(t2x:Bool):Option (Bool×Unit):=some (t2x,())
def A1(list:List U9)(_u:Unit):Option (Bool×Unit):=some (true,())
def T(lo0:FV (Bool×Unit))(list:List U9):Option (Bool×Unit):=cond (decide ((list.length:Int)>60)) (some (false,())) (lo0 list 0)
def K0{R:Type}(k0:Nat)(K:au R):au R:=bF 0 (bI (fun env ob=>zrc k0 [1,1,1] env ob (K)) (K))
def L0:FV R:=fun list2 i=>iter 0 [0,3] [2] (zrc k0 [1,1,0,1,0,0]) k [(0,.sl ct0 list2),(3,.int .i64 i)] [] K
def H0:jM R:=fun t2x=>K .ret [(2,.bool t2x)] []
def H1:eY R:=fun _=>K (.exit 0) [(2,.undef)] []
theorem zs0:L0 k0 (k+1) K=R0 (L0 k0 k K) (H0 K) (H1 K):=by kernel_rfl
def G0{R:Type}(k0:Nat)(hx0:jM R)(hx1:eY R):Nat→FV R
 |0=>fun _ _=>none
 |k+1=>R0 (G0 k0 hx0 hx1 k) hx0 hx1
theorem aS:∀ k,L0 k0 k K=G0 k0 (H0 K) (H1 K) k:=bP rfl fun k ih=>by rw[zs0,G0];(try simp only[ih]);try rfl
variable (list:List U9)
def aA:au (Bool×Unit):=dw Tryz.prog [.tmp 2] Hw G6 (list,())
theorem bf:H0 (K0 k0 (aA list))=A0 list:=by kernel_rfl
theorem dB:H1 (K0 k0 (aA list))=A1 list:=by kernel_rfl
def FF:Option (Bool×Unit):=T (G0 k0 (A0 list) (A1 list) k0) list
theorem aZ:dA Tryz.prog (aW [(67,[],zF)]) aB k0 31 Hw G6 [] (list,())=FF k0 list:=Eq.trans (b:=T (L0 k0 k0 (K0 k0 (aA list))) list) (by kernel_rfl) (by rw[FF];(try simp only[aS,bf,dB]);try rfl)
def _root_.Go.Rv.wu:=fun x:(List U9)×Unit=>FF (300+x.1.length) x.1
abbrev _root_.Go.Rv.wo:aG:=⟨Hw,G6,wu,[]⟩
theorem _root_.Go.Rv.Cb:aF Dr Tryz.prog 31 wo:=dJ mix (.c Qi .nil) (by kernel_rfl) fun x=>⟨aB,_,aZ _ _⟩
end kM
abbrev Hu:Is:=[.v true jg]
abbrev GZ:Os:=[(false,[CT.bool])]
namespace kL
def dG:Tb:=[(29,[],Qn),(30,[],CS),(31,[],wo)]
def aB:Nat→List Nat×List Nat:=fun k=>if k=4 then([1,3],[2])else([],[])
def zrc{R:Type}(k0:Nat)(p:List Nat):Env→List Ob→au R→Option R:=bJ Tryz.prog (aW dG) 93 0 aB k0 (cO p (dI Tryz.prog 8))
def R0{R:Type}(nx0:FU R)(ex0:jM R)(ex1:eY R)(i s s7 s8 s9:Int)(s10 s11:List U8)(s12:List U9):Option R:=cond (decide (i<(s12.length:Int))) (if 0≤i∧i<(s12.length:Int)then if 0≤i∧i<(s11.length:Int)then cond ((rd (0,0,0,()) s12 i).1 != (rd (0,0,0,0,()) s11 i).1) (ex0 false) (if 0≤i∧i<(s12.length:Int)then cond (decide ((rd (0,0,0,()) s12 i).2.2.1≤s8)) (ex0 false) (if 0≤i∧i<(s12.length:Int)then cond (decide ((rd (0,0,0,()) s12 i).2.2.1>(af (s8+s)))) (ex0 false) (nx0 (af (i+1)) s s7 s8 s9 s10 s11 s12)else none)else none)else none else none) (ex1 ())
def A0(s0 s1 s2 s3:Int)(s4 s5:List U8)(s6:List U9)(t2x:Bool):Option (Bool×Unit):=some (t2x,())
def A1(s0 s1 s2 s3:Int)(s4 s5:List U8)(s6:List U9)(_u:Unit):Option (Bool×Unit):=some (true,())
def T(lo0:FU (Bool×Unit))(s0 s1 s2 s3:Int)(s4 s5:List U8)(s6:List U9):Option (Bool×Unit):=(zn (s0,())).bind fun y1=>cond (!y1.1) (some (false,())) (cond (decide (s1<0)) (some (false,())) (cond (decide (s1>s2)) (some (false,())) (cond (decide (s2>999000)) (some (false,())) ((zu (s3,s4,s5,())).bind fun y2=>cond (!y2.1) (some (false,())) ((wu (s6,())).bind fun y3=>cond (!y3.1) (some (false,())) (cond ((s6.length:Int) != (s5.length:Int)) (some (false,())) (lo0 0 s0 s1 s2 s3 s4 s5 s6)))))))
def K0{R:Type}(k0:Nat)(K:au R):au R:=bF 0 (bI (fun env ob=>zrc k0 [1,1,1] env ob (K)) (K))
def L0:FU R:=fun i s s7 s8 s9 s10 s11 s12=>iter 0 [1,3] [2] (zrc k0 [1,1,0,1,0,0]) k [(1,.ptr 0 0 0 0),(3,.int .i64 i)] [.box [.int .i64 s,.int .i64 s7,.int .i64 s8,.int .i64 s9,.sl aC s10,.sl aC s11,.sl ct0 s12]] K
def H0:jM R:=fun t2x=>K .ret [(2,.bool t2x)] []
def H1:eY R:=fun _=>K (.exit 0) [(2,.undef)] []
theorem zs0:L0 k0 (k+1) K=R0 (L0 k0 k K) (H0 K) (H1 K):=by kernel_rfl
def G0{R:Type}(k0:Nat)(hx0:jM R)(hx1:eY R):Nat→FU R
 |0=>fun _ _ _ _ _ _ _ _=>none
 |k+1=>R0 (G0 k0 hx0 hx1 k) hx0 hx1
theorem aS:∀ k,L0 k0 k K=G0 k0 (H0 K) (H1 K) k:=bP rfl fun k ih=>by rw[zs0,G0];(try simp only[ih]);try rfl
variable (s0 s1 s2 s3:Int) (s4 s5:List U8) (s6:List U9)
def aA:au (Bool×Unit):=dw Tryz.prog [.tmp 2] Hu GZ (s0,s1,s2,s3,s4,s5,s6,())
theorem bf:H0 (K0 k0 (aA s0 s1 s2 s3 s4 s5 s6))=A0 s0 s1 s2 s3 s4 s5 s6:=by kernel_rfl
theorem dB:H1 (K0 k0 (aA s0 s1 s2 s3 s4 s5 s6))=A1 s0 s1 s2 s3 s4 s5 s6:=by kernel_rfl
def FF:Option (Bool×Unit):=T (G0 k0 (A0 s0 s1 s2 s3 s4 s5 s6) (A1 s0 s1 s2 s3 s4 s5 s6) k0) s0 s1 s2 s3 s4 s5 s6
theorem aZ:dA Tryz.prog (aW dG) aB k0 8 Hu GZ [] (s0,s1,s2,s3,s4,s5,s6,())=FF k0 s0 s1 s2 s3 s4 s5 s6:=Eq.trans (b:=T (L0 k0 k0 (K0 k0 (aA s0 s1 s2 s3 s4 s5 s6))) s0 s1 s2 s3 s4 s5 s6) (by kernel_rfl) (by rw[FF];(try simp only[aS,bf,dB]);try rfl)
def _root_.Go.Rv.zk:=fun x:U1=>FF (300+x.2.2.2.2.1.length+x.2.2.2.2.2.1.length+x.2.2.2.2.2.2.1.length) x.1 x.2.1 x.2.2.1 x.2.2.2.1 x.2.2.2.2.1 x.2.2.2.2.2.1 x.2.2.2.2.2.2.1
abbrev _root_.Go.Rv.PU:aG:=⟨Hu,GZ,zk,[]⟩
theorem _root_.Go.Rv.Il:aF Dr Tryz.prog 8 PU:=dJ mix (.c P5 (.c Jd (.c Cb .nil))) (by kernel_rfl) fun x=>⟨aB,_,aZ _ _ _ _ _ _ _ _⟩
end kL
def aaO.T(o0 o1 o2 o3 o4:Int):Option (U6):=cond (o0==3) (some (8,o1,o2,o3,o4,())) (cond (o0==6) (some (6,o1,o2,o3,o4,())) (cond (o0==7) (some (7,o1,o2,o3,o4,())) (some (0,o1,o2,o3,o4,()))))
def oV:=fun x:U6=>aaO.T x.1 x.2.1 x.2.2.1 x.2.2.2.1 x.2.2.2.2.1
abbrev QZ:aG:=⟨[.v true fZ],[(true,fZ)],oV,[]⟩
theorem Qy:aF Dr Tryz.prog 41 QZ:=bC mix .nil (by kernel_rfl) fun x=>by kernel_rfl
def zJ.T(e0 e1 e2 e3 e4:Int):Option (Bool×Unit):=(lG (e1,())).bind fun y1=>cond (!y1.1) (cond (e0==8) (cond (!(e1==0)) (some (false,())) (cond (e2 != 0) ((lG (e2,())).bind fun y2=>cond (!y2.1) (some (false,())) (cond (e0==1) ((dX (e3,())).bind fun y3=>cond y3.1 ((gu (e4,())).bind fun y4=>some (y4.1,())) (some (false,()))) (cond (e0==6) ((dX (e3,())).bind fun y5=>cond y5.1 ((gu (e4,())).bind fun y6=>some (y6.1,())) (some (false,()))) (cond (e0==2) (cond (e2==0) (cond (e3==0) (some ((e4==0),())) (some (false,()))) (some (false,()))) (cond (e0==7) (cond (e2==0) (cond (e3==0) (some ((e4==0),())) (some (false,()))) (some (false,()))) (cond (e0==3) (cond (e2==0) ((dX (e3,())).bind fun y7=>cond y7.1 (some ((e4==0),())) (some (false,()))) (some (false,()))) (cond (e0==8) (cond (e2==0) ((dX (e3,())).bind fun y8=>cond y8.1 (some ((e4==0),())) (some (false,()))) (some (false,()))) (cond (e0==4) (cond (e2==0) ((gu (e3,())).bind fun y9=>cond y9.1 (some ((e4==0),())) (some (false,()))) (some (false,()))) (cond (e0==5) (cond (e3==0) (some ((e4==0),())) (some (false,()))) (some (false,()))))))))))) (cond (e0==1) ((dX (e3,())).bind fun y10=>cond y10.1 ((gu (e4,())).bind fun y11=>some (y11.1,())) (some (false,()))) (cond (e0==6) ((dX (e3,())).bind fun y12=>cond y12.1 ((gu (e4,())).bind fun y13=>some (y13.1,())) (some (false,()))) (cond (e0==2) (cond (e2==0) (cond (e3==0) (some ((e4==0),())) (some (false,()))) (some (false,()))) (cond (e0==7) (cond (e2==0) (cond (e3==0) (some ((e4==0),())) (some (false,()))) (some (false,()))) (cond (e0==3) (cond (e2==0) ((dX (e3,())).bind fun y14=>cond y14.1 (some ((e4==0),())) (some (false,()))) (some (false,()))) (cond (e0==8) (cond (e2==0) ((dX (e3,())).bind fun y15=>cond y15.1 (some ((e4==0),())) (some (false,()))) (some (false,()))) (cond (e0==4) (cond (e2==0) ((gu (e3,())).bind fun y16=>cond y16.1 (some ((e4==0),())) (some (false,()))) (some (false,()))) (cond (e0==5) (cond (e3==0) (some ((e4==0),())) (some (false,()))) (some (false,())))))))))))) (some (false,()))) (cond (e2 != 0) ((lG (e2,())).bind fun y17=>cond (!y17.1) (some (false,())) (cond (e0==1) ((dX (e3,())).bind fun y18=>cond y18.1 ((gu (e4,())).bind fun y19=>some (y19.1,())) (some (false,()))) (cond (e0==6) ((dX (e3,())).bind fun y20=>cond y20.1 ((gu (e4,())).bind fun y21=>some (y21.1,())) (some (false,()))) (cond (e0==2) (cond (e2==0) (cond (e3==0) (some ((e4==0),())) (some (false,()))) (some (false,()))) (cond (e0==7) (cond (e2==0) (cond (e3==0) (some ((e4==0),())) (some (false,()))) (some (false,()))) (cond (e0==3) (cond (e2==0) ((dX (e3,())).bind fun y22=>cond y22.1 (some ((e4==0),())) (some (false,()))) (some (false,()))) (cond (e0==8) (cond (e2==0) ((dX (e3,())).bind fun y23=>cond y23.1 (some ((e4==0),())) (some (false,()))) (some (false,()))) (cond (e0==4) (cond (e2==0) ((gu (e3,())).bind fun y24=>cond y24.1 (some ((e4==0),())) (some (false,()))) (some (false,()))) (cond (e0==5) (cond (e3==0) (some ((e4==0),())) (some (false,()))) (some (false,()))))))))))) (cond (e0==1) ((dX (e3,())).bind fun y25=>cond y25.1 ((gu (e4,())).bind fun y26=>some (y26.1,())) (some (false,()))) (cond (e0==6) ((dX (e3,())).bind fun y27=>cond y27.1 ((gu (e4,())).bind fun y28=>some (y28.1,())) (some (false,()))) (cond (e0==2) (cond (e2==0) (cond (e3==0) (some ((e4==0),())) (some (false,()))) (some (false,()))) (cond (e0==7) (cond (e2==0) (cond (e3==0) (some ((e4==0),())) (some (false,()))) (some (false,()))) (cond (e0==3) (cond (e2==0) ((dX (e3,())).bind fun y29=>cond y29.1 (some ((e4==0),())) (some (false,()))) (some (false,()))) (cond (e0==8) (cond (e2==0) ((dX (e3,())).bind fun y30=>cond y30.1 (some ((e4==0),())) (some (false,()))) (some (false,()))) (cond (e0==4) (cond (e2==0) ((gu (e3,())).bind fun y31=>cond y31.1 (some ((e4==0),())) (some (false,()))) (some (false,()))) (cond (e0==5) (cond (e3==0) (some ((e4==0),())) (some (false,()))) (some (false,())))))))))))
def jO:=fun x:U6=>zJ.T x.1 x.2.1 x.2.2.1 x.2.2.2.1 x.2.2.2.2.1
abbrev ZO:aG:=⟨[.v true fZ],[(false,[CT.bool])],jO,[]⟩
theorem P6:aF Dr Tryz.prog 81 ZO:=bC mix (.c ug (.c zO (.c CB .nil))) (by kernel_rfl) fun x=>by kernel_rfl
def SX.T(o0 o1 o2 o3 o4:Int):Option (Bool×Unit):=cond (o0==1) ((lG (o1,())).bind fun y1=>cond y1.1 (cond (o2==0) ((dX (o3,())).bind fun y2=>cond y2.1 ((gu (o4,())).bind fun y3=>some (y3.1,())) (some (false,()))) ((lG (o2,())).bind fun y4=>cond y4.1 ((dX (o3,())).bind fun y5=>cond y5.1 ((gu (o4,())).bind fun y6=>some (y6.1,())) (some (false,()))) (some (false,())))) (some (false,()))) (cond (o0==2) ((lG (o1,())).bind fun y7=>cond y7.1 (cond (o2==0) (cond (o3==0) (some ((o4==0),())) (some (false,()))) (some (false,()))) (some (false,()))) (cond (o0==4) (cond (o1==0) (cond (o2==0) (cond (o3==0) (some ((o4==0),())) (some (false,()))) (some (false,()))) (some (false,()))) (cond (o0==5) (cond (o1==0) (cond (o2==0) (cond (o3==0) (some ((o4==0),())) (some (false,()))) (some (false,()))) (some (false,()))) (cond (o0==6) ((oV (o0,o1,o2,o3,o4,())).bind fun y8=>(jO (y8.1,y8.2.1,y8.2.2.1,y8.2.2.2.1,y8.2.2.2.2.1,())).bind fun y9=>cond y9.1 (some ((decide (o2<o1)),())) (some (false,()))) (cond (o0==3) ((oV (o0,o1,o2,o3,o4,())).bind fun y10=>(jO (y10.1,y10.2.1,y10.2.2.1,y10.2.2.2.1,y10.2.2.2.2.1,())).bind fun y11=>some (y11.1,())) (cond (o0==7) ((oV (o0,o1,o2,o3,o4,())).bind fun y12=>(jO (y12.1,y12.2.1,y12.2.2.1,y12.2.2.2.1,y12.2.2.2.2.1,())).bind fun y13=>some (y13.1,())) (some (false,()))))))))
def DJ:=fun x:U6=>SX.T x.1 x.2.1 x.2.2.1 x.2.2.2.1 x.2.2.2.2.1
abbrev RX:aG:=⟨[.v true fZ],[(false,[CT.bool])],DJ,[]⟩
theorem aaF:aF Dr Tryz.prog 35 RX:=bC mix (.c Qy (.c ug (.c zO (.c CB (.c P6 .nil))))) (by kernel_rfl) fun x=>by kernel_rfl
def aaC.T(code:Int):Option (U0):=some (0,0,0,0,[],[],[],0,0,code,())
def lX:=fun x:Int×Unit=>aaC.T x.1
abbrev JY:aG:=⟨[.v false [CT.int .i64]],[(true,Fa)],lX,[]⟩
theorem Qh:aF Dr Tryz.prog 36 JY:=bC mix .nil (by kernel_rfl) fun x=>by kernel_rfl
abbrev IC:Is:=[.v true gI,.v false [CT.int .i64]]
abbrev Ie:Os:=[(false,[CT.int .i64])]
namespace wK
def aB:Nat→List Nat×List Nat:=fun k=>if k=2 then([1,2,5],[4])else([],[])
def zrc{R:Type}(k0:Nat)(p:List Nat):Env→List Ob→au R→Option R:=bJ Tryz.prog (aW []) 22 0 aB k0 (cO p (dI Tryz.prog 38))
def R0{R:Type}(nx0:tN R)(ex0:Y2 R)(ex1:eY R)(id2 i f:Int)(f3 f4:List U8):Option R:=cond (decide (i<(f4.length:Int))) (if 0≤i∧i<(f4.length:Int)then cond ((rd (0,0,0,0,()) f4 i).1==id2) (ex0 i) (nx0 id2 (af (i+1)) f f3 f4)else none) (ex1 ())
def A0(f0:Int)(f1 f2:List U8)(id:Int)(t4x:Int):Option (Int×Unit):=some (t4x,())
def A1(f0:Int)(f1 f2:List U8)(id:Int)(_u:Unit):Option (Int×Unit):=some ((-1),())
def T(lo0:tN (Int×Unit))(f0:Int)(f1 f2:List U8)(id:Int):Option (Int×Unit):=lo0 id 0 f0 f1 f2
def K0{R:Type}(k0:Nat)(K:au R):au R:=bF 0 (bI (fun env ob=>zrc k0 [1,1] env ob (K)) (K))
def L0:tN R:=fun id2 i f f3 f4=>iter 0 [1,2,5] [4] (zrc k0 [1,0,1,0,0]) k [(1,.int .i64 id2),(2,.ptr 0 0 0 0),(5,.int .i64 i)] [.box [.int .i64 f,.sl aC f3,.sl aC f4]] K
def H0:Y2 R:=fun t4x=>K .ret [(4,.int .i64 t4x)] []
def H1:eY R:=fun _=>K (.exit 0) [(4,.undef)] []
theorem zs0:L0 k0 (k+1) K=R0 (L0 k0 k K) (H0 K) (H1 K):=by kernel_rfl
def G0{R:Type}(k0:Nat)(hx0:Y2 R)(hx1:eY R):Nat→tN R
 |0=>fun _ _ _ _ _=>none
 |k+1=>R0 (G0 k0 hx0 hx1 k) hx0 hx1
theorem aS:∀ k,L0 k0 k K=G0 k0 (H0 K) (H1 K) k:=bP rfl fun k ih=>by rw[zs0,G0];(try simp only[ih]);try rfl
variable (f0:Int) (f1 f2:List U8) (id:Int)
def aA:au (Int×Unit):=dw Tryz.prog [.tmp 4] IC Ie (f0,f1,f2,id,())
theorem bf:H0 (K0 k0 (aA f0 f1 f2 id))=A0 f0 f1 f2 id:=by kernel_rfl
theorem dB:H1 (K0 k0 (aA f0 f1 f2 id))=A1 f0 f1 f2 id:=by kernel_rfl
def FF:Option (Int×Unit):=T (G0 k0 (A0 f0 f1 f2 id) (A1 f0 f1 f2 id) k0) f0 f1 f2 id
theorem aZ:dA Tryz.prog (aW []) aB k0 38 IC Ie [] (f0,f1,f2,id,())=FF k0 f0 f1 f2 id:=Eq.trans (b:=T (L0 k0 k0 (K0 k0 (aA f0 f1 f2 id))) f0 f1 f2 id) (by kernel_rfl) (by rw[FF];(try simp only[aS,bf,dB]);try rfl)
def _root_.Go.Rv.qj:=fun x:Int×(List U8)×(List U8)×Int×Unit=>FF (300+x.2.1.length+x.2.2.1.length) x.1 x.2.1 x.2.2.1 x.2.2.2.1
abbrev _root_.Go.Rv.CQ:aG:=⟨IC,Ie,qj,[]⟩
theorem _root_.Go.Rv.Cm:aF Dr Tryz.prog 38 CQ:=dJ mix .nil (by kernel_rfl) fun x=>⟨aB,_,aZ _ _ _ _ _⟩
end wK
def aaD.T(code:Int):Option (U2):=some (0,[],[],0,code,())
def jq:=fun x:Int×Unit=>aaD.T x.1
abbrev CZ:aG:=⟨[.v false [CT.int .i64]],[(true,Bz)],jq,[]⟩
theorem CP:aF Dr Tryz.prog 87 CZ:=bC mix .nil (by kernel_rfl) fun x=>by kernel_rfl
def RD.T(f0:Int)(f1 f2:List U8):Option (U3):=if([]:List U8).length+f1.length≤maxRow then if([]:List U8).length+f2.length≤maxRow then some (f0,(([]:List U8)++f1),(([]:List U8)++f2),())else none else none
def oW:=fun x:U3=>RD.T x.1 x.2.1 x.2.2.1
abbrev Di:aG:=⟨[.v true gI],[(true,gI)],oW,[]⟩
theorem zD:aF Dr Tryz.prog 88 Di:=bC mix .nil (by kernel_rfl) fun x=>by kernel_rfl
abbrev Jv:Is:=[.v true gI,.v true fZ]
abbrev IY:Os:=[(true,Bz)]
namespace kP
def dG:Tb:=[(38,[],CQ),(65,[],wH),(87,[],CZ),(88,[],Di)]
def aB:Nat→List Nat×List Nat:=fun k=>if k=11 then([2,3,4,5,6,7],[3,4,5,6])else([],[])
def zrc{R:Type}(k0:Nat)(p:List Nat):Env→List Ob→au R→Option R:=bJ Tryz.prog (aW dG) 96 0 aB k0 (cO p (dI Tryz.prog 89))
def R0{R:Type}(nx0:tJ R)(ex0:yR R)(done:Bool)(i f:Int)(f3 f4:List U8)(e e5 e6 e7 e8 t4x t4x2 t4x3 out:Int)(o4 o5:List U8):Option R:=cond (decide (i<(f4.length:Int))) (cond (!done) (if 0≤i∧i<(f4.length:Int)then cond (decide ((rd (0,0,0,0,()) f4 i).1>e5)) (if o5.length+[(e5,e6,e7,e8,())].length≤maxRow then if 0≤i∧i<(f4.length:Int)then if(o5++[(e5,e6,e7,e8,())]).length+[((rd (0,0,0,0,()) f4 i).1,(rd (0,0,0,0,()) f4 i).2.1,(rd (0,0,0,0,()) f4 i).2.2.1,(rd (0,0,0,0,()) f4 i).2.2.2.1,())].length≤maxRow then nx0 true (af (i+1)) f f3 f4 e e5 e6 e7 e8 t4x t4x2 t4x3 out o4 ((o5++[(e5,e6,e7,e8,())])++[((rd (0,0,0,0,()) f4 i).1,(rd (0,0,0,0,()) f4 i).2.1,(rd (0,0,0,0,()) f4 i).2.2.1,(rd (0,0,0,0,()) f4 i).2.2.2.1,())])else none else none else none) (if 0≤i∧i<(f4.length:Int)then if o5.length+[((rd (0,0,0,0,()) f4 i).1,(rd (0,0,0,0,()) f4 i).2.1,(rd (0,0,0,0,()) f4 i).2.2.1,(rd (0,0,0,0,()) f4 i).2.2.2.1,())].length≤maxRow then nx0 done (af (i+1)) f f3 f4 e e5 e6 e7 e8 t4x t4x2 t4x3 out o4 (o5++[((rd (0,0,0,0,()) f4 i).1,(rd (0,0,0,0,()) f4 i).2.1,(rd (0,0,0,0,()) f4 i).2.2.1,(rd (0,0,0,0,()) f4 i).2.2.2.1,())])else none else none)else none) (if 0≤i∧i<(f4.length:Int)then if o5.length+[((rd (0,0,0,0,()) f4 i).1,(rd (0,0,0,0,()) f4 i).2.1,(rd (0,0,0,0,()) f4 i).2.2.1,(rd (0,0,0,0,()) f4 i).2.2.2.1,())].length≤maxRow then nx0 done (af (i+1)) f f3 f4 e e5 e6 e7 e8 t4x t4x2 t4x3 out o4 (o5++[((rd (0,0,0,0,()) f4 i).1,(rd (0,0,0,0,()) f4 i).2.1,(rd (0,0,0,0,()) f4 i).2.2.1,(rd (0,0,0,0,()) f4 i).2.2.2.1,())])else none else none)) (ex0 done e e5 e6 e7 e8 t4x t4x2 t4x3 out o4 o5)
def A0(f0:Int)(f1 f2:List U8)(e0 e1 e2 e3 e4:Int)(done:Bool)(e e5 e6 e7 e8 t4x t4x2 t4x3 out:Int)(o3 o4:List U8):Option (U2):=cond (!done) (if o4.length+[(e5,e6,e7,e8,())].length≤maxRow then some (out,o3,(o4++[(e5,e6,e7,e8,())]),0,0,())else none) (some (out,o3,o4,0,0,()))
def T(lo0:tJ (U2))(f0:Int)(f1 f2:List U8)(e0 e1 e2 e3 e4:Int):Option (U2):=(qj (f0,f1,f2,e1,())).bind fun y1=>cond (decide (y1.1≥0)) ((jq (5,())).bind fun y2=>some (y2.1,y2.2.1,y2.2.2.1,y2.2.2.2.1,y2.2.2.2.2.1,())) (cond (e2 != 0) ((jP (f0,f1,f2,e2,())).bind fun y3=>cond (decide (y3.1<0)) ((jq (4,())).bind fun y4=>some (y4.1,y4.2.1,y4.2.2.1,y4.2.2.2.1,y4.2.2.2.2.1,())) (cond (decide ((f2.length:Int)≥60)) ((jq (6,())).bind fun y5=>some (y5.1,y5.2.1,y5.2.2.1,y5.2.2.2.1,y5.2.2.2.2.1,())) ((oW (f0,f1,f2,())).bind fun y6=>lo0 false 0 f0 f1 f2 e0 e1 e2 e3 e4 0 0 0 y6.1 y6.2.1 ([]:List U8)))) (cond (decide ((f2.length:Int)≥60)) ((jq (6,())).bind fun y7=>some (y7.1,y7.2.1,y7.2.2.1,y7.2.2.2.1,y7.2.2.2.2.1,())) ((oW (f0,f1,f2,())).bind fun y8=>lo0 false 0 f0 f1 f2 e0 e1 e2 e3 e4 0 0 0 y8.1 y8.2.1 ([]:List U8))))
def K0{R:Type}(k0:Nat)(K:au R):au R:=bF 0 (bI (fun env ob=>zrc k0 [1,1,1,1,1,1,1,1] env ob (K)) (K))
def L0:tJ R:=fun done i f f3 f4 e e5 e6 e7 e8 t4x t4x2 t4x3 out o4 o5=>iter 0 [2,3,4,5,6,7] [3,4,5,6] (zrc k0 [1,1,1,1,1,1,1,0,1,0,0]) k [(2,.ptr 0 0 0 0),(3,.ptr 1 0 0 0),(4,.ptr 2 0 0 0),(5,.ptr 3 0 0 0),(6,.bool done),(7,.int .i64 i)] [.box [.int .i64 f,.sl aC f3,.sl aC f4],.box [.int .i64 e,.int .i64 e5,.int .i64 e6,.int .i64 e7,.int .i64 e8],.box [.int .i64 t4x,.nils,.nils,.int .i64 t4x2,.int .i64 t4x3],.box [.int .i64 out,.own 4,.own 5],.arr aC o4,.arr aC o5] K
def H0:yR R:=fun done e e5 e6 e7 e8 t4x t4x2 t4x3 out o3 o4=>K (.exit 0) [(3,.ptr 0 0 0 0),(4,.ptr 1 0 0 0),(5,.ptr 2 0 0 0),(6,.bool done)] [.box [.int .i64 e,.int .i64 e5,.int .i64 e6,.int .i64 e7,.int .i64 e8],.box [.int .i64 t4x,.nils,.nils,.int .i64 t4x2,.int .i64 t4x3],.box [.int .i64 out,.own 3,.own 4],.arr aC o3,.arr aC o4]
theorem zs0:L0 k0 (k+1) K=R0 (L0 k0 k K) (H0 K):=by kernel_rfl
def G0{R:Type}(k0:Nat)(hx0:yR R):Nat→tJ R
 |0=>fun _ _ _ _ _ _ _ _ _ _ _ _ _ _ _ _=>none
 |k+1=>R0 (G0 k0 hx0 k) hx0
theorem aS:∀ k,L0 k0 k K=G0 k0 (H0 K) k:=bP rfl fun k ih=>by rw[zs0,G0];(try simp only[ih]);try rfl
variable (f0:Int) (f1 f2:List U8) (e0 e1 e2 e3 e4:Int)
def aA:au (U2):=dw Tryz.prog [.cell 4 81] Jv IY (f0,f1,f2,e0,e1,e2,e3,e4,())
theorem bf:H0 (K0 k0 (aA f0 f1 f2 e0 e1 e2 e3 e4))=A0 f0 f1 f2 e0 e1 e2 e3 e4:=by kernel_rfl
def FF:Option (U2):=T (G0 k0 (A0 f0 f1 f2 e0 e1 e2 e3 e4) k0) f0 f1 f2 e0 e1 e2 e3 e4
theorem aZ:dA Tryz.prog (aW dG) aB k0 89 Jv IY [] (f0,f1,f2,e0,e1,e2,e3,e4,())=FF k0 f0 f1 f2 e0 e1 e2 e3 e4:=Eq.trans (b:=T (L0 k0 k0 (K0 k0 (aA f0 f1 f2 e0 e1 e2 e3 e4))) f0 f1 f2 e0 e1 e2 e3 e4) (by kernel_rfl) (by rw[FF];(try simp only[aS,bf]);try rfl)
def _root_.Go.Rv.Dk:=fun x:Int×(List U8)×(List U8)×U6=>FF (300+x.2.1.length+x.2.2.1.length) x.1 x.2.1 x.2.2.1 x.2.2.2.1 x.2.2.2.2.1 x.2.2.2.2.2.1 x.2.2.2.2.2.2.1 x.2.2.2.2.2.2.2.1
abbrev _root_.Go.Rv.aas:aG:=⟨Jv,IY,Dk,[]⟩
theorem _root_.Go.Rv.ZR:aF Dr Tryz.prog 89 aas:=dJ mix (.c Cm (.c wE (.c CP (.c zD .nil)))) (by kernel_rfl) fun x=>⟨aB,_,aZ _ _ _ _ _ _ _ _ _⟩
end kP
abbrev Je:Is:=[.v true gI,.v true fZ]
abbrev Iw:Os:=[(true,Bz)]
namespace iV
def dG:Tb:=[(65,[],wH),(87,[],CZ),(88,[],Di)]
def aB:Nat→List Nat×List Nat:=fun k=>if k=13 then([2,3,4,5,6,7],[3,4,5,6])else([],[])
def zrc{R:Type}(k0:Nat)(p:List Nat):Env→List Ob→au R→Option R:=bJ Tryz.prog (aW dG) 102 0 aB k0 (cO p (dI Tryz.prog 90))
def R0{R:Type}(nx0:tJ R)(ex0:yR R)(done:Bool)(i f:Int)(f3 f4:List U8)(e e5 e6 e7 e8 t4x t4x2 t4x3 out:Int)(o4 o5:List U8):Option R:=cond (decide (i<(f3.length:Int))) (cond (!done) (if 0≤i∧i<(f3.length:Int)then cond (decide ((rd (0,0,0,0,()) f3 i).1>e5)) (if o4.length+[(e5,e6,e7,e8,())].length≤maxRow then if 0≤i∧i<(f3.length:Int)then if(o4++[(e5,e6,e7,e8,())]).length+[((rd (0,0,0,0,()) f3 i).1,(rd (0,0,0,0,()) f3 i).2.1,(rd (0,0,0,0,()) f3 i).2.2.1,(rd (0,0,0,0,()) f3 i).2.2.2.1,())].length≤maxRow then nx0 true (af (i+1)) f f3 f4 e e5 e6 e7 e8 t4x t4x2 t4x3 out ((o4++[(e5,e6,e7,e8,())])++[((rd (0,0,0,0,()) f3 i).1,(rd (0,0,0,0,()) f3 i).2.1,(rd (0,0,0,0,()) f3 i).2.2.1,(rd (0,0,0,0,()) f3 i).2.2.2.1,())]) o5 else none else none else none) (if 0≤i∧i<(f3.length:Int)then if o4.length+[((rd (0,0,0,0,()) f3 i).1,(rd (0,0,0,0,()) f3 i).2.1,(rd (0,0,0,0,()) f3 i).2.2.1,(rd (0,0,0,0,()) f3 i).2.2.2.1,())].length≤maxRow then nx0 done (af (i+1)) f f3 f4 e e5 e6 e7 e8 t4x t4x2 t4x3 out (o4++[((rd (0,0,0,0,()) f3 i).1,(rd (0,0,0,0,()) f3 i).2.1,(rd (0,0,0,0,()) f3 i).2.2.1,(rd (0,0,0,0,()) f3 i).2.2.2.1,())]) o5 else none else none)else none) (if 0≤i∧i<(f3.length:Int)then if o4.length+[((rd (0,0,0,0,()) f3 i).1,(rd (0,0,0,0,()) f3 i).2.1,(rd (0,0,0,0,()) f3 i).2.2.1,(rd (0,0,0,0,()) f3 i).2.2.2.1,())].length≤maxRow then nx0 done (af (i+1)) f f3 f4 e e5 e6 e7 e8 t4x t4x2 t4x3 out (o4++[((rd (0,0,0,0,()) f3 i).1,(rd (0,0,0,0,()) f3 i).2.1,(rd (0,0,0,0,()) f3 i).2.2.1,(rd (0,0,0,0,()) f3 i).2.2.2.1,())]) o5 else none else none)) (ex0 done e e5 e6 e7 e8 t4x t4x2 t4x3 out o4 o5)
def A0(f0:Int)(f1 f2:List U8)(e0 e1 e2 e3 e4:Int)(done:Bool)(e e5 e6 e7 e8 t4x t4x2 t4x3 out:Int)(o3 o4:List U8):Option (U2):=cond (!done) (if o3.length+[(e5,e6,e7,e8,())].length≤maxRow then some (out,(o3++[(e5,e6,e7,e8,())]),o4,0,0,())else none) (some (out,o3,o4,0,0,()))
def T(lo0:tJ (U2))(f0:Int)(f1 f2:List U8)(e0 e1 e2 e3 e4:Int):Option (U2):=cond (decide (e2≥e1)) ((jq (1,())).bind fun y1=>some (y1.1,y1.2.1,y1.2.2.1,y1.2.2.2.1,y1.2.2.2.2.1,())) ((jP (f0,f1,f2,e1,())).bind fun y2=>cond (decide (y2.1≥0)) ((jq (5,())).bind fun y3=>some (y3.1,y3.2.1,y3.2.2.1,y3.2.2.2.1,y3.2.2.2.2.1,())) (cond (e2 != 0) ((jP (f0,f1,f2,e2,())).bind fun y4=>cond (decide (y4.1<0)) ((jq (4,())).bind fun y5=>some (y5.1,y5.2.1,y5.2.2.1,y5.2.2.2.1,y5.2.2.2.2.1,())) (cond (decide ((f1.length:Int)≥30)) ((jq (6,())).bind fun y6=>some (y6.1,y6.2.1,y6.2.2.1,y6.2.2.2.1,y6.2.2.2.2.1,())) ((oW (f0,f1,f2,())).bind fun y7=>lo0 false 0 f0 f1 f2 e0 e1 e2 e3 e4 0 0 0 y7.1 ([]:List U8) y7.2.2.1))) (cond (decide ((f1.length:Int)≥30)) ((jq (6,())).bind fun y8=>some (y8.1,y8.2.1,y8.2.2.1,y8.2.2.2.1,y8.2.2.2.2.1,())) ((oW (f0,f1,f2,())).bind fun y9=>lo0 false 0 f0 f1 f2 e0 e1 e2 e3 e4 0 0 0 y9.1 ([]:List U8) y9.2.2.1))))
def K0{R:Type}(k0:Nat)(K:au R):au R:=bF 0 (bI (fun env ob=>zrc k0 [1,1,1,1,1,1,1,1,1] env ob (K)) (K))
def L0:tJ R:=fun done i f f3 f4 e e5 e6 e7 e8 t4x t4x2 t4x3 out o4 o5=>iter 0 [2,3,4,5,6,7] [3,4,5,6] (zrc k0 [1,1,1,1,1,1,1,1,0,1,0,0]) k [(2,.ptr 0 0 0 0),(3,.ptr 1 0 0 0),(4,.ptr 2 0 0 0),(5,.ptr 3 0 0 0),(6,.bool done),(7,.int .i64 i)] [.box [.int .i64 f,.sl aC f3,.sl aC f4],.box [.int .i64 e,.int .i64 e5,.int .i64 e6,.int .i64 e7,.int .i64 e8],.box [.int .i64 t4x,.nils,.nils,.int .i64 t4x2,.int .i64 t4x3],.box [.int .i64 out,.own 4,.own 5],.arr aC o4,.arr aC o5] K
def H0:yR R:=fun done e e5 e6 e7 e8 t4x t4x2 t4x3 out o3 o4=>K (.exit 0) [(3,.ptr 0 0 0 0),(4,.ptr 1 0 0 0),(5,.ptr 2 0 0 0),(6,.bool done)] [.box [.int .i64 e,.int .i64 e5,.int .i64 e6,.int .i64 e7,.int .i64 e8],.box [.int .i64 t4x,.nils,.nils,.int .i64 t4x2,.int .i64 t4x3],.box [.int .i64 out,.own 3,.own 4],.arr aC o3,.arr aC o4]
theorem zs0:L0 k0 (k+1) K=R0 (L0 k0 k K) (H0 K):=by kernel_rfl
def G0{R:Type}(k0:Nat)(hx0:yR R):Nat→tJ R
 |0=>fun _ _ _ _ _ _ _ _ _ _ _ _ _ _ _ _=>none
 |k+1=>R0 (G0 k0 hx0 k) hx0
theorem aS:∀ k,L0 k0 k K=G0 k0 (H0 K) k:=bP rfl fun k ih=>by rw[zs0,G0];(try simp only[ih]);try rfl
variable (f0:Int) (f1 f2:List U8) (e0 e1 e2 e3 e4:Int)
def aA:au (U2):=dw Tryz.prog [.cell 4 81] Je Iw (f0,f1,f2,e0,e1,e2,e3,e4,())
theorem bf:H0 (K0 k0 (aA f0 f1 f2 e0 e1 e2 e3 e4))=A0 f0 f1 f2 e0 e1 e2 e3 e4:=by kernel_rfl
def FF:Option (U2):=T (G0 k0 (A0 f0 f1 f2 e0 e1 e2 e3 e4) k0) f0 f1 f2 e0 e1 e2 e3 e4
theorem aZ:dA Tryz.prog (aW dG) aB k0 90 Je Iw [] (f0,f1,f2,e0,e1,e2,e3,e4,())=FF k0 f0 f1 f2 e0 e1 e2 e3 e4:=Eq.trans (b:=T (L0 k0 k0 (K0 k0 (aA f0 f1 f2 e0 e1 e2 e3 e4))) f0 f1 f2 e0 e1 e2 e3 e4) (by kernel_rfl) (by rw[FF];(try simp only[aS,bf]);try rfl)
def _root_.Go.Rv.uj:=fun x:Int×(List U8)×(List U8)×U6=>FF (300+x.2.1.length+x.2.2.1.length) x.1 x.2.1 x.2.2.1 x.2.2.2.1 x.2.2.2.2.1 x.2.2.2.2.2.1 x.2.2.2.2.2.2.1 x.2.2.2.2.2.2.2.1
abbrev _root_.Go.Rv.aae:aG:=⟨Je,Iw,uj,[]⟩
theorem _root_.Go.Rv.ZF:aF Dr Tryz.prog 90 aae:=dJ mix (.c wE (.c CP (.c zD .nil))) (by kernel_rfl) fun x=>⟨aB,_,aZ _ _ _ _ _ _ _ _ _⟩
end iV
abbrev Jw:Is:=[.v true gI,.v true fZ]
abbrev IZ:Os:=[(true,Bz)]
namespace iW
def dG:Tb:=[(65,[],wH),(87,[],CZ),(88,[],Di)]
def aB:Nat→List Nat×List Nat:=fun k=>if k=5 then([2,3,4,5,6],[2,3,4,5])else if k=10 then([2,3,4,5,7],[2,4,5])else([],[])
def zrc{R:Type}(k0:Nat)(p:List Nat):Env→List Ob→au R→Option R:=bJ Tryz.prog (aW dG) 67 0 aB k0 (cO p (dI Tryz.prog 91))
def R0{R:Type}(nx0:tH R)(ex0:O4 R)(ex1:O3 R)(atx i f:Int)(f3 f4:List U8)(e e5 e6 e7 e8 t4x t4x2 t4x3:Int):Option R:=cond (decide (i<(f3.length:Int))) (if 0≤i∧i<(f3.length:Int)then cond ((rd (0,0,0,0,()) f3 i).2.1==e5) ((jq (9,())).bind fun y1=>ex0 atx f f3 f4 e e5 e6 e7 e8 y1.1 y1.2.2.2.1 y1.2.2.2.2.1 y1.2.1 y1.2.2.1) (nx0 atx (af (i+1)) f f3 f4 e e5 e6 e7 e8 t4x t4x2 t4x3)else none) (ex1 atx f f3 f4 e e5 e6 e7 e8 t4x t4x2 t4x3)
def R1{R:Type}(nx1:tH R)(ex2:O1 R)(ex3:O0 R)(atx i f:Int)(f3 f4:List U8)(e e5 e6 e7 e8 t4x t4x2 t4x3:Int):Option R:=cond (decide (i<(f4.length:Int))) (if 0≤i∧i<(f4.length:Int)then cond ((rd (0,0,0,0,()) f4 i).2.1==e5) ((jq (9,())).bind fun y1=>ex2 atx f f3 f4 y1.1 y1.2.2.2.1 y1.2.2.2.2.1 y1.2.1 y1.2.2.1) (nx1 atx (af (i+1)) f f3 f4 e e5 e6 e7 e8 t4x t4x2 t4x3)else none) (ex3 atx f f3 f4 t4x t4x2 t4x3)
def A0(f0:Int)(f1 f2:List U8)(e0 e1 e2 e3 e4:Int)(atx f:Int)(f3 f4:List U8)(e e5 e6 e7 e8 t4x t4x2 t4x3:Int)(o3 o4:List U8):Option (U2):=some (t4x,o3,o4,t4x2,t4x3,())
def A1(lo1:tH (U2))(f0:Int)(f1 f2:List U8)(e0 e1 e2 e3 e4:Int)(atx f:Int)(f3 f4:List U8)(e e5 e6 e7 e8 t4x t4x2 t4x3:Int):Option (U2):=lo1 atx 0 f f3 f4 e e5 e6 e7 e8 t4x t4x2 t4x3
def A2(f0:Int)(f1 f2:List U8)(e0 e1 e2 e3 e4:Int)(atx f:Int)(f3 f4:List U8)(t4x t4x2 t4x3:Int)(o2 o3:List U8):Option (U2):=some (t4x,o2,o3,t4x2,t4x3,())
def A3(f0:Int)(f1 f2:List U8)(e0 e1 e2 e3 e4:Int)(atx f:Int)(f3 f4:List U8)(t4x t4x2 t4x3:Int):Option (U2):=(oW (f,f3,f4,())).bind fun y1=>if 0≤atx∧atx≤(f3.length:Int)then if([]:List U8).length+(f3.take (atx.toNat)).length≤maxRow then if 0≤(af (atx+1))∧(af (atx+1))≤(f3.length:Int)then if(([]:List U8)++(f3.take (atx.toNat))).length+(f3.drop ((af (atx+1)).toNat)).length≤maxRow then some (y1.1,((([]:List U8)++(f3.take (atx.toNat)))++(f3.drop ((af (atx+1)).toNat))),y1.2.2.1,0,0,())else none else none else none else none
def T(lo0:tH (U2))(f0:Int)(f1 f2:List U8)(e0 e1 e2 e3 e4:Int):Option (U2):=(jP (f0,f1,f2,e1,())).bind fun y1=>cond (decide (y1.1<0)) ((jq (4,())).bind fun y2=>some (y2.1,y2.2.1,y2.2.2.1,y2.2.2.2.1,y2.2.2.2.2.1,())) (lo0 y1.1 0 f0 f1 f2 e0 e1 e2 e3 e4 0 0 0)
def K0{R:Type}(k0:Nat)(K:au R):au R:=bF 0 (bI (fun env ob=>zrc k0 [1,1,1,1] env ob (K)) (K))
def K1{R:Type}(k0:Nat)(K:au R):au R:=bF 2 (bI (fun env ob=>zrc k0 [1,1,1,1,1] env ob (K)) (K))
def L0:tH R:=fun atx i f f3 f4 e e5 e6 e7 e8 t4x t4x2 t4x3=>iter 0 [2,3,4,5,6] [2,3,4,5] (zrc k0 [1,1,1,0,1,0,0]) k [(2,.ptr 0 0 0 0),(3,.ptr 1 0 0 0),(4,.ptr 2 0 0 0),(5,.int .i64 atx),(6,.int .i64 i)] [.box [.int .i64 f,.sl aC f3,.sl aC f4],.box [.int .i64 e,.int .i64 e5,.int .i64 e6,.int .i64 e7,.int .i64 e8],.box [.int .i64 t4x,.nils,.nils,.int .i64 t4x2,.int .i64 t4x3]] K
def L1:tH R:=fun atx i f f3 f4 e e5 e6 e7 e8 t4x t4x2 t4x3=>iter 0 [2,3,4,5,7] [2,4,5] (zrc k0 [1,1,1,1,0,1,0,0]) k [(2,.ptr 0 0 0 0),(3,.ptr 1 0 0 0),(4,.ptr 2 0 0 0),(5,.int .i64 atx),(7,.int .i64 i)] [.box [.int .i64 f,.sl aC f3,.sl aC f4],.box [.int .i64 e,.int .i64 e5,.int .i64 e6,.int .i64 e7,.int .i64 e8],.box [.int .i64 t4x,.nils,.nils,.int .i64 t4x2,.int .i64 t4x3]] K
def H0:O4 R:=fun atx f f3 f4 e e5 e6 e7 e8 t4x t4x2 t4x3 o3 o4=>K .ret [(2,.ptr 0 0 0 0),(3,.ptr 1 0 0 0),(4,.ptr 2 0 0 0),(5,.int .i64 atx)] [.box [.int .i64 f,.sl aC f3,.sl aC f4],.box [.int .i64 e,.int .i64 e5,.int .i64 e6,.int .i64 e7,.int .i64 e8],.box [.int .i64 t4x,.own 3,.own 4,.int .i64 t4x2,.int .i64 t4x3],.arr aC o3,.arr aC o4]
def H1:O3 R:=fun atx f f3 f4 e e5 e6 e7 e8 t4x t4x2 t4x3=>K (.exit 0) [(2,.ptr 0 0 0 0),(3,.ptr 1 0 0 0),(4,.ptr 2 0 0 0),(5,.int .i64 atx)] [.box [.int .i64 f,.sl aC f3,.sl aC f4],.box [.int .i64 e,.int .i64 e5,.int .i64 e6,.int .i64 e7,.int .i64 e8],.box [.int .i64 t4x,.nils,.nils,.int .i64 t4x2,.int .i64 t4x3]]
def H2:O1 R:=fun atx f f3 f4 t4x t4x2 t4x3 o2 o3=>K .ret [(2,.ptr 0 0 0 0),(4,.ptr 1 0 0 0),(5,.int .i64 atx)] [.box [.int .i64 f,.sl aC f3,.sl aC f4],.box [.int .i64 t4x,.own 2,.own 3,.int .i64 t4x2,.int .i64 t4x3],.arr aC o2,.arr aC o3]
def H3:O0 R:=fun atx f f3 f4 t4x t4x2 t4x3=>K (.exit 2) [(2,.ptr 0 0 0 0),(4,.ptr 1 0 0 0),(5,.int .i64 atx)] [.box [.int .i64 f,.sl aC f3,.sl aC f4],.box [.int .i64 t4x,.nils,.nils,.int .i64 t4x2,.int .i64 t4x3]]
theorem zs0:L0 k0 (k+1) K=R0 (L0 k0 k K) (H0 K) (H1 K):=by kernel_rfl
theorem zs1:L1 k0 (k+1) K=R1 (L1 k0 k K) (H2 K) (H3 K):=by kernel_rfl
def G0{R:Type}(k0:Nat)(hx0:O4 R)(hx1:O3 R):Nat→tH R
 |0=>fun _ _ _ _ _ _ _ _ _ _ _ _ _=>none
 |k+1=>R0 (G0 k0 hx0 hx1 k) hx0 hx1
theorem aS:∀ k,L0 k0 k K=G0 k0 (H0 K) (H1 K) k:=bP rfl fun k ih=>by rw[zs0,G0];(try simp only[ih]);try rfl
def G1{R:Type}(k0:Nat)(hx2:O1 R)(hx3:O0 R):Nat→tH R
 |0=>fun _ _ _ _ _ _ _ _ _ _ _ _ _=>none
 |k+1=>R1 (G1 k0 hx2 hx3 k) hx2 hx3
theorem dP:∀ k,L1 k0 k K=G1 k0 (H2 K) (H3 K) k:=bP rfl fun k ih=>by rw[zs1,G1];(try simp only[ih,aS]);try rfl
variable (f0:Int) (f1 f2:List U8) (e0 e1 e2 e3 e4:Int)
def aA:au (U2):=dw Tryz.prog [.cell 4 81] Jw IZ (f0,f1,f2,e0,e1,e2,e3,e4,())
theorem bf:H0 (K0 k0 (aA f0 f1 f2 e0 e1 e2 e3 e4))=A0 f0 f1 f2 e0 e1 e2 e3 e4:=by kernel_rfl
theorem dB:H1 (K0 k0 (aA f0 f1 f2 e0 e1 e2 e3 e4))=A1 (L1 k0 k0 (K1 k0 (aA f0 f1 f2 e0 e1 e2 e3 e4))) f0 f1 f2 e0 e1 e2 e3 e4:=by kernel_rfl
theorem mG:H2 (K1 k0 (aA f0 f1 f2 e0 e1 e2 e3 e4))=A2 f0 f1 f2 e0 e1 e2 e3 e4:=by kernel_rfl
theorem qR:H3 (K1 k0 (aA f0 f1 f2 e0 e1 e2 e3 e4))=A3 f0 f1 f2 e0 e1 e2 e3 e4:=by kernel_rfl
def FF:Option (U2):=T (G0 k0 (A0 f0 f1 f2 e0 e1 e2 e3 e4) (A1 (G1 k0 (A2 f0 f1 f2 e0 e1 e2 e3 e4) (A3 f0 f1 f2 e0 e1 e2 e3 e4) k0) f0 f1 f2 e0 e1 e2 e3 e4) k0) f0 f1 f2 e0 e1 e2 e3 e4
theorem aZ:dA Tryz.prog (aW dG) aB k0 91 Jw IZ [] (f0,f1,f2,e0,e1,e2,e3,e4,())=FF k0 f0 f1 f2 e0 e1 e2 e3 e4:=Eq.trans (b:=T (L0 k0 k0 (K0 k0 (aA f0 f1 f2 e0 e1 e2 e3 e4))) f0 f1 f2 e0 e1 e2 e3 e4) (by kernel_rfl) (by rw[FF];(try simp only[aS,dP,bf,dB,mG,qR]);try rfl)
def _root_.Go.Rv.wM:=fun x:Int×(List U8)×(List U8)×U6=>FF (300+x.2.1.length+x.2.2.1.length) x.1 x.2.1 x.2.2.1 x.2.2.2.1 x.2.2.2.2.1 x.2.2.2.2.2.1 x.2.2.2.2.2.2.1 x.2.2.2.2.2.2.2.1
abbrev _root_.Go.Rv.aau:aG:=⟨Jw,IZ,wM,[]⟩
theorem _root_.Go.Rv.ZT:aF Dr Tryz.prog 91 aau:=dJ mix (.c wE (.c CP (.c zD .nil))) (by kernel_rfl) fun x=>⟨aB,_,aZ _ _ _ _ _ _ _ _ _⟩
end iW
def wR.T(f0:Int)(f1 f2:List U8)(e0 e1 e2 e3 e4:Int):Option (U2):=(zu (f0,f1,f2,())).bind fun y1=>cond (!y1.1) ((jq (1,())).bind fun y2=>some (y2.1,y2.2.1,y2.2.2.1,y2.2.2.2.1,y2.2.2.2.2.1,())) ((jO (e0,e1,e2,e3,e4,())).bind fun y3=>cond (!y3.1) ((jq (1,())).bind fun y4=>some (y4.1,y4.2.1,y4.2.2.1,y4.2.2.2.1,y4.2.2.2.2.1,())) ((oW (f0,f1,f2,())).bind fun y5=>cond (e0==1) ((Dk (f0,f1,f2,e0,e1,e2,e3,e4,())).bind fun y6=>some (y6.1,y6.2.1,y6.2.2.1,y6.2.2.2.1,y6.2.2.2.2.1,())) (cond (e0==6) ((uj (f0,f1,f2,e0,e1,e2,e3,e4,())).bind fun y7=>some (y7.1,y7.2.1,y7.2.2.1,y7.2.2.2.1,y7.2.2.2.2.1,())) (cond (e0==7) ((wM (f0,f1,f2,e0,e1,e2,e3,e4,())).bind fun y8=>some (y8.1,y8.2.1,y8.2.2.1,y8.2.2.2.1,y8.2.2.2.2.1,())) (cond (e0==8) (cond (e1==0) (some (e3,y5.2.1,y5.2.2.1,0,0,())) ((jP (f0,f1,f2,e1,())).bind fun y9=>cond (decide (y9.1<0)) ((jq (4,())).bind fun y10=>some (y10.1,y10.2.1,y10.2.2.1,y10.2.2.2.1,y10.2.2.2.2.1,())) (if 0≤y9.1∧y9.1<(y5.2.1.length:Int)then some (y5.1,(y5.2.1.set ((y9.1).toNat) ((y5.2.1.getD ((y9.1).toNat) (0,0,0,0,())).1,(y5.2.1.getD ((y9.1).toNat) (0,0,0,0,())).2.1,e3,(y5.2.1.getD ((y9.1).toNat) (0,0,0,0,())).2.2.2.1,())),y5.2.2.1,0,0,())else none))) ((qj (f0,f1,f2,e1,())).bind fun y11=>cond (decide (y11.1<0)) ((jq (4,())).bind fun y12=>some (y12.1,y12.2.1,y12.2.2.1,y12.2.2.2.1,y12.2.2.2.2.1,())) (cond (e2 != 0) ((jP (f0,f1,f2,e2,())).bind fun y13=>cond (decide (y13.1<0)) ((jq (4,())).bind fun y14=>some (y14.1,y14.2.1,y14.2.2.1,y14.2.2.2.1,y14.2.2.2.2.1,())) (cond (e0==2) (if 0≤y11.1∧y11.1≤(f2.length:Int)then if([]:List U8).length+(f2.take (y11.1.toNat)).length≤maxRow then if 0≤(af (y11.1+1))∧(af (y11.1+1))≤(f2.length:Int)then if(([]:List U8)++(f2.take (y11.1.toNat))).length+(f2.drop ((af (y11.1+1)).toNat)).length≤maxRow then some (y5.1,y5.2.1,((([]:List U8)++(f2.take (y11.1.toNat)))++(f2.drop ((af (y11.1+1)).toNat))),0,0,())else none else none else none else none) (cond (e0==3) (if 0≤y11.1∧y11.1<(y5.2.2.1.length:Int)then some (y5.1,y5.2.1,(y5.2.2.1.set ((y11.1).toNat) ((y5.2.2.1.getD ((y11.1).toNat) (0,0,0,0,())).1,(y5.2.2.1.getD ((y11.1).toNat) (0,0,0,0,())).2.1,e3,(y5.2.2.1.getD ((y11.1).toNat) (0,0,0,0,())).2.2.2.1,())),0,0,())else none) (cond (e0==4) (if 0≤y11.1∧y11.1<(y5.2.2.1.length:Int)then some (y5.1,y5.2.1,(y5.2.2.1.set ((y11.1).toNat) ((y5.2.2.1.getD ((y11.1).toNat) (0,0,0,0,())).1,(y5.2.2.1.getD ((y11.1).toNat) (0,0,0,0,())).2.1,(y5.2.2.1.getD ((y11.1).toNat) (0,0,0,0,())).2.2.1,e3,())),0,0,())else none) (if 0≤y11.1∧y11.1<(y5.2.2.1.length:Int)then some (y5.1,y5.2.1,(y5.2.2.1.set ((y11.1).toNat) ((y5.2.2.1.getD ((y11.1).toNat) (0,0,0,0,())).1,e2,(y5.2.2.1.getD ((y11.1).toNat) (0,0,0,0,())).2.2.1,(y5.2.2.1.getD ((y11.1).toNat) (0,0,0,0,())).2.2.2.1,())),0,0,())else none))))) (cond (e0==2) (if 0≤y11.1∧y11.1≤(f2.length:Int)then if([]:List U8).length+(f2.take (y11.1.toNat)).length≤maxRow then if 0≤(af (y11.1+1))∧(af (y11.1+1))≤(f2.length:Int)then if(([]:List U8)++(f2.take (y11.1.toNat))).length+(f2.drop ((af (y11.1+1)).toNat)).length≤maxRow then some (y5.1,y5.2.1,((([]:List U8)++(f2.take (y11.1.toNat)))++(f2.drop ((af (y11.1+1)).toNat))),0,0,())else none else none else none else none) (cond (e0==3) (if 0≤y11.1∧y11.1<(y5.2.2.1.length:Int)then some (y5.1,y5.2.1,(y5.2.2.1.set ((y11.1).toNat) ((y5.2.2.1.getD ((y11.1).toNat) (0,0,0,0,())).1,(y5.2.2.1.getD ((y11.1).toNat) (0,0,0,0,())).2.1,e3,(y5.2.2.1.getD ((y11.1).toNat) (0,0,0,0,())).2.2.2.1,())),0,0,())else none) (cond (e0==4) (if 0≤y11.1∧y11.1<(y5.2.2.1.length:Int)then some (y5.1,y5.2.1,(y5.2.2.1.set ((y11.1).toNat) ((y5.2.2.1.getD ((y11.1).toNat) (0,0,0,0,())).1,(y5.2.2.1.getD ((y11.1).toNat) (0,0,0,0,())).2.1,(y5.2.2.1.getD ((y11.1).toNat) (0,0,0,0,())).2.2.1,e3,())),0,0,())else none) (if 0≤y11.1∧y11.1<(y5.2.2.1.length:Int)then some (y5.1,y5.2.1,(y5.2.2.1.set ((y11.1).toNat) ((y5.2.2.1.getD ((y11.1).toNat) (0,0,0,0,())).1,e2,(y5.2.2.1.getD ((y11.1).toNat) (0,0,0,0,())).2.2.1,(y5.2.2.1.getD ((y11.1).toNat) (0,0,0,0,())).2.2.2.1,())),0,0,())else none)))))))))))
def ku:=fun x:Int×(List U8)×(List U8)×U6=>wR.T x.1 x.2.1 x.2.2.1 x.2.2.2.1 x.2.2.2.2.1 x.2.2.2.2.2.1 x.2.2.2.2.2.2.1 x.2.2.2.2.2.2.2.1
abbrev J3:aG:=⟨[.v true gI,.v true fZ],[(true,Bz)],ku,[]⟩
theorem Qk:aF Dr Tryz.prog 40 J3:=bC mix (.c Jd (.c Cm (.c wE (.c P6 (.c CP (.c zD (.c ZR (.c ZF (.c ZT .nil))))))))) (by kernel_rfl) fun x=>by kernel_rfl
def Ry.T(s0 s1 s2 s3:Int)(s4 s5:List U8)(s6:List U9):Option (U1):=(oW (s3,s4,s5,())).bind fun y1=>if([]:List U9).length+s6.length≤maxRow then some (s0,s1,s2,y1.1,y1.2.1,y1.2.2.1,(([]:List U9)++s6),())else none
def nV:=fun x:U1=>Ry.T x.1 x.2.1 x.2.2.1 x.2.2.2.1 x.2.2.2.2.1 x.2.2.2.2.2.1 x.2.2.2.2.2.2.1
abbrev um:aG:=⟨[.v true jg],[(true,jg)],nV,[]⟩
theorem zC:aF Dr Tryz.prog 42 um:=bC mix (.c zD .nil) (by kernel_rfl) fun x=>by kernel_rfl
def KG.T(a b:Int):Option (Int×Unit):=cond (decide (a<b)) (some (a,())) (some (b,()))
def uD:=fun x:aN=>KG.T x.1 x.2.1
abbrev Dw:aG:=⟨[.v false [CT.int .i64],.v false [CT.int .i64]],[(false,[CT.int .i64])],uD,[]⟩
theorem QU:aF Dr Tryz.prog 83 Dw:=bC mix .nil (by kernel_rfl) fun x=>by kernel_rfl
abbrev Jf:Is:=[.v true gI]
abbrev Iy:Os:=[(false,[CT.sl [CT.int .i64]])]
namespace gJ
def aB:Nat→List Nat×List Nat:=fun k=>if k=3 then([1,3,4],[3])else if k=7 then([1,3,4,5,6],[1,3,4,5])else if k=12 then([1,3,4,5,7],[1,3,4,5])else([],[])
def zrc{R:Type}(k0:Nat)(p:List Nat):Env→List Ob→au R→Option R:=bJ Tryz.prog (aW [(83,[],Dw)]) 88 0 aB k0 (cO p (dI Tryz.prog 148))
def R0{R:Type}(ex0:yQ R)(lo1:tC R)(i f:Int)(f3 f4:List U8)(out:List (Int×Unit)):Option R:=cond (decide (i≥0)) (lo1 i 0 (af (i+1)) f f3 f4 out) (ex0 out)
def R1{R:Type}(nx1:tC R)(ex1:yP R)(i sum kx f:Int)(f3 f4:List U8)(out:List (Int×Unit)):Option R:=cond (decide (kx<(f3.length:Int))) (if 0≤kx∧kx<(f3.length:Int)then if 0≤i∧i<(f3.length:Int)then cond ((rd (0,0,0,0,()) f3 kx).2.1==(rd (0,0,0,0,()) f3 i).1) (if 0≤kx∧kx<(out.length:Int)then nx1 i (af (sum+(out.getD kx.toNat (0,())).1)) (af (kx+1)) f f3 f4 out else none) (nx1 i sum (af (kx+1)) f f3 f4 out)else none else none) (ex1 i sum f f3 f4 out)
def R2{R:Type}(nx2:tC R)(ex2:yP R)(i sum kx f:Int)(f3 f4:List U8)(out:List (Int×Unit)):Option R:=cond (decide (kx<(f4.length:Int))) (if 0≤kx∧kx<(f4.length:Int)then if 0≤i∧i<(f3.length:Int)then cond ((rd (0,0,0,0,()) f4 kx).2.1==(rd (0,0,0,0,()) f3 i).1) (if 0≤kx∧kx<(f4.length:Int)then nx2 i (af (sum+(rd (0,0,0,0,()) f4 kx).2.2.1)) (af (kx+1)) f f3 f4 out else none) (nx2 i sum (af (kx+1)) f f3 f4 out)else none else none) (ex2 i sum f f3 f4 out)
def A0(f0:Int)(f1 f2:List U8)(out:List (Int×Unit)):Option ((List (Int×Unit))×Unit):=some (out,())
def A1{R:Type}(lo2:tC R)(i sum f:Int)(f3 f4:List U8)(out:List (Int×Unit)):Option R:=lo2 i sum 0 f f3 f4 out
def A2{R:Type}(nx0:FT R)(i sum f:Int)(f3 f4:List U8)(out:List (Int×Unit)):Option R:=if 0≤i∧i<(f3.length:Int)then(uD (sum,(rd (0,0,0,0,()) f3 i).2.2.1,())).bind fun y1=>if 0≤i∧i<(out.length:Int)then nx0 (af (i - 1)) f f3 f4 (out.set i.toNat (y1.1,()))else none else none
def T(lo0:FT ((List (Int×Unit))×Unit))(f0:Int)(f1 f2:List U8):Option ((List (Int×Unit))×Unit):=if 0≤(f1.length:Int)∧(8:Int)*(f1.length:Int)≤281474976710656∧(f1.length:Int)≤9223372036854775807 then lo0 (af ((f1.length:Int) - 1)) f0 f1 f2 (List.replicate (((f1.length:Int):Int)).toNat (0,()))else none
def K0{R:Type}(k0:Nat)(K:au R):au R:=bF 0 (bI (fun env ob=>zrc k0 [1,1,1] env ob (K)) (K))
def K1{R:Type}(k0:Nat)(K:au R):au R:=bF 2 (bI (fun env ob=>zrc k0 [1,1,0,1,0,0,1,0,0,1,1] env ob (bF 1 (bI (fun env ob=>zrc k0 [1,1,0,1,0,0,1,1] env ob (K)) (K)))) (bF 1 (bI (fun env ob=>zrc k0 [1,1,0,1,0,0,1,1] env ob (K)) (K))))
def K2{R:Type}(k0:Nat)(K:au R):au R:=bF 4 (bI (fun env ob=>zrc k0 [1,1,0,1,0,0,1,0,0,1,1,1] env ob (bF 1 (bI (fun env ob=>zrc k0 [1,1,0,1,0,0,1,1] env ob (K)) (K)))) (bF 1 (bI (fun env ob=>zrc k0 [1,1,0,1,0,0,1,1] env ob (K)) (K))))
def P0:au R:=vC 0 [1,3,4] [3] (fun env ob=>iter 0 [1,3,4] [3] (zrc k0 [1,1,0,1,0,0]) k env ob K) K
def L0:FT R:=fun i f f3 f4 out=>iter 0 [1,3,4] [3] (zrc k0 [1,1,0,1,0,0]) k [(1,.ptr 0 0 0 0),(3,.own 1),(4,.int .i64 i)] [.box [.int .i64 f,.sl aC f3,.sl aC f4],.arr [CT.int .i64] out] K
def L1:tC R:=fun i sum kx f f3 f4 out=>iter 0 [1,3,4,5,6] [1,3,4,5] (zrc k0 [1,1,0,1,0,0,1,0,0,1,0,1,0,0]) k [(1,.ptr 0 0 0 0),(3,.own 1),(4,.int .i64 i),(5,.int .i64 sum),(6,.int .i64 kx)] [.box [.int .i64 f,.sl aC f3,.sl aC f4],.arr [CT.int .i64] out] K
def L2:tC R:=fun i sum kx f f3 f4 out=>iter 0 [1,3,4,5,7] [1,3,4,5] (zrc k0 [1,1,0,1,0,0,1,0,0,1,1,0,1,0,0]) k [(1,.ptr 0 0 0 0),(3,.own 1),(4,.int .i64 i),(5,.int .i64 sum),(7,.int .i64 kx)] [.box [.int .i64 f,.sl aC f3,.sl aC f4],.arr [CT.int .i64] out] K
def H0:yQ R:=fun out=>K (.exit 0) [(3,.own 0)] [.arr [CT.int .i64] out]
def H1:yP R:=fun i sum f f3 f4 out=>K (.exit 2) [(1,.ptr 0 0 0 0),(3,.own 1),(4,.int .i64 i),(5,.int .i64 sum)] [.box [.int .i64 f,.sl aC f3,.sl aC f4],.arr [CT.int .i64] out]
def H2:yP R:=fun i sum f f3 f4 out=>K (.exit 4) [(1,.ptr 0 0 0 0),(3,.own 1),(4,.int .i64 i),(5,.int .i64 sum)] [.box [.int .i64 f,.sl aC f3,.sl aC f4],.arr [CT.int .i64] out]
theorem zs0:L0 k0 (k+1) K=R0 (H0 K) (L1 k0 k0 (K1 k0 (P0 k0 k K))):=by kernel_rfl
theorem zs1:L1 k0 (k+1) K=R1 (L1 k0 k K) (H1 K):=by kernel_rfl
theorem zs2:L2 k0 (k+1) K=R2 (L2 k0 k K) (H2 K):=by kernel_rfl
theorem dB:H1 (K1 k0 (P0 k0 k K))=A1 (L2 k0 k0 (K2 k0 (P0 k0 k K))):=by kernel_rfl
theorem mG:H2 (K2 k0 (P0 k0 k K))=A2 (L0 k0 k K):=by kernel_rfl
def G1{R:Type}(k0:Nat)(hx1:yP R):Nat→tC R
 |0=>fun _ _ _ _ _ _ _=>none
 |k+1=>R1 (G1 k0 hx1 k) hx1
theorem dP:∀ k,L1 k0 k K=G1 k0 (H1 K) k:=bP rfl fun k ih=>by rw[zs1,G1];(try simp only[ih]);try rfl
def G2{R:Type}(k0:Nat)(hx2:yP R):Nat→tC R
 |0=>fun _ _ _ _ _ _ _=>none
 |k+1=>R2 (G2 k0 hx2 k) hx2
theorem lC:∀ k,L2 k0 k K=G2 k0 (H2 K) k:=bP rfl fun k ih=>by rw[zs2,G2];(try simp only[ih,dP]);try rfl
def G0{R:Type}(k0:Nat)(hx0:yQ R):Nat→FT R
 |0=>fun _ _ _ _ _=>none
 |k+1=>R0 hx0 (G1 k0 (A1 (G2 k0 (A2 (G0 k0 hx0 k)) k0)) k0)
theorem aS:∀ k,L0 k0 k K=G0 k0 (H0 K) k:=bP rfl fun k ih=>by rw[zs0,G0];(try simp only[ih,dP,lC,dB,mG]);try rfl
variable (f0:Int) (f1 f2:List U8)
def aA:au ((List (Int×Unit))×Unit):=dw Tryz.prog [.tmp 2] Jf Iy (f0,f1,f2,())
theorem bf:H0 (K0 k0 (aA f0 f1 f2))=A0 f0 f1 f2:=by kernel_rfl
def FF:Option ((List (Int×Unit))×Unit):=T (G0 k0 (A0 f0 f1 f2) k0) f0 f1 f2
theorem aZ:dA Tryz.prog (aW [(83,[],Dw)]) aB k0 148 Jf Iy [] (f0,f1,f2,())=FF k0 f0 f1 f2:=Eq.trans (b:=T (L0 k0 k0 (K0 k0 (aA f0 f1 f2))) f0 f1 f2) (by kernel_rfl) (by rw[FF];(try simp only[dP,lC,aS,bf]);try rfl)
def _root_.Go.Rv.C9:=fun x:U3=>FF (300+x.2.1.length+x.2.2.1.length) x.1 x.2.1 x.2.2.1
abbrev _root_.Go.Rv.JZ:aG:=⟨Jf,Iy,C9,[]⟩
theorem _root_.Go.Rv.ZG:aF Dr Tryz.prog 148 JZ:=dJ mix (.c QU .nil) (by kernel_rfl) fun x=>⟨aB,_,aZ _ _ _ _⟩
end gJ
abbrev Jy:Is:=[.v true gI,.v false [CT.int .i64]]
abbrev I7:Os:=[(false,[CT.sl eH]),(false,[CT.sl ct0])]
namespace iY
def aB:Nat→List Nat×List Nat:=fun k=>if k=5 then([1,2,6,7,8,9],[1,2,7,8])else if k=11 then([1,2,7,8,10],[7,8])else([],[])
def zrc{R:Type}(k0:Nat)(p:List Nat):Env→List Ob→au R→Option R:=bJ Tryz.prog (aW [(148,[],JZ)]) 91 0 aB k0 (cO p (dI Tryz.prog 132))
def R0{R:Type}(nx0:FQ R)(ex0:OZ R)(group2 i f:Int)(f3 f4:List U8)(wants:List (Int×Unit))(kids:List aN)(items:List U9):Option R:=cond (decide (i<(f3.length:Int))) (if 0≤i∧i<(f3.length:Int)then cond ((rd (0,0,0,0,()) f3 i).2.1==group2) (if kids.length+[(i,(-1),())].length≤maxRow then if 0≤i∧i<(wants.length:Int)then if 0≤i∧i<(f3.length:Int)then if items.length+([(((kids++[(i,(-1),())]).length:Int),(wants.getD i.toNat (0,())).1,(rd (0,0,0,0,()) f3 i).2.2.2.1,())]).length≤maxRow then nx0 group2 (af (i+1)) f f3 f4 wants (kids++[(i,(-1),())]) (items++[(((kids++[(i,(-1),())]).length:Int),(wants.getD i.toNat (0,())).1,(rd (0,0,0,0,()) f3 i).2.2.2.1,())])else none else none else none else none) (nx0 group2 (af (i+1)) f f3 f4 wants kids items)else none) (ex0 group2 f f3 f4 kids items)
def R1{R:Type}(nx1:FP R)(ex1:OY R)(group2 i f:Int)(f3 f4:List U8)(kids:List aN)(items:List U9):Option R:=cond (decide (i<(f4.length:Int))) (if 0≤i∧i<(f4.length:Int)then cond ((rd (0,0,0,0,()) f4 i).2.1==group2) (if kids.length+[((-1),i,())].length≤maxRow then if 0≤i∧i<(f4.length:Int)then if 0≤i∧i<(f4.length:Int)then if items.length+([(((kids++[((-1),i,())]).length:Int),(rd (0,0,0,0,()) f4 i).2.2.1,(rd (0,0,0,0,()) f4 i).2.2.2.1,())]).length≤maxRow then nx1 group2 (af (i+1)) f f3 f4 (kids++[((-1),i,())]) (items++[(((kids++[((-1),i,())]).length:Int),(rd (0,0,0,0,()) f4 i).2.2.1,(rd (0,0,0,0,()) f4 i).2.2.2.1,())])else none else none else none else none) (nx1 group2 (af (i+1)) f f3 f4 kids items)else none) (ex1 kids items)
def A0(lo1:FP ((List aN)×(List U9)×Unit))(f0:Int)(f1 f2:List U8)(group:Int)(group2 f:Int)(f3 f4:List U8)(kids:List aN)(items:List U9):Option ((List aN)×(List U9)×Unit):=lo1 group2 0 f f3 f4 kids items
def A1(f0:Int)(f1 f2:List U8)(group:Int)(kids:List aN)(items:List U9):Option ((List aN)×(List U9)×Unit):=some (kids,items,())
def T(lo0:FQ ((List aN)×(List U9)×Unit))(f0:Int)(f1 f2:List U8)(group:Int):Option ((List aN)×(List U9)×Unit):=(C9 (f0,f1,f2,())).bind fun y1=>lo0 group 0 f0 f1 f2 y1.1 ([]:List aN) ([]:List U9)
def K0{R:Type}(k0:Nat)(K:au R):au R:=bF 0 (bI (fun env ob=>zrc k0 [1,1,1,1,1] env ob (K)) (K))
def K1{R:Type}(k0:Nat)(K:au R):au R:=bF 2 (bI (fun env ob=>zrc k0 [1,1,1,1,1,1] env ob (K)) (K))
def L0:FQ R:=fun group2 i f f3 f4 wants kids items=>iter 0 [1,2,6,7,8,9] [1,2,7,8] (zrc k0 [1,1,1,1,0,1,0,0]) k [(1,.int .i64 group2),(2,.ptr 0 0 0 0),(6,.own 1),(7,.own 2),(8,.own 3),(9,.int .i64 i)] [.box [.int .i64 f,.sl aC f3,.sl aC f4],.arr [CT.int .i64] wants,.arr eH kids,.arr ct0 items] K
def L1:FP R:=fun group2 i f f3 f4 kids items=>iter 0 [1,2,7,8,10] [7,8] (zrc k0 [1,1,1,1,1,0,1,0,0]) k [(1,.int .i64 group2),(2,.ptr 0 0 0 0),(7,.own 1),(8,.own 2),(10,.int .i64 i)] [.box [.int .i64 f,.sl aC f3,.sl aC f4],.arr eH kids,.arr ct0 items] K
def H0:OZ R:=fun group2 f f3 f4 kids items=>K (.exit 0) [(1,.int .i64 group2),(2,.ptr 0 0 0 0),(7,.own 1),(8,.own 2)] [.box [.int .i64 f,.sl aC f3,.sl aC f4],.arr eH kids,.arr ct0 items]
def H1:OY R:=fun kids items=>K (.exit 2) [(7,.own 0),(8,.own 1)] [.arr eH kids,.arr ct0 items]
theorem zs0:L0 k0 (k+1) K=R0 (L0 k0 k K) (H0 K):=by kernel_rfl
theorem zs1:L1 k0 (k+1) K=R1 (L1 k0 k K) (H1 K):=by kernel_rfl
def G0{R:Type}(k0:Nat)(hx0:OZ R):Nat→FQ R
 |0=>fun _ _ _ _ _ _ _ _=>none
 |k+1=>R0 (G0 k0 hx0 k) hx0
theorem aS:∀ k,L0 k0 k K=G0 k0 (H0 K) k:=bP rfl fun k ih=>by rw[zs0,G0];(try simp only[ih]);try rfl
def G1{R:Type}(k0:Nat)(hx1:OY R):Nat→FP R
 |0=>fun _ _ _ _ _ _ _=>none
 |k+1=>R1 (G1 k0 hx1 k) hx1
theorem dP:∀ k,L1 k0 k K=G1 k0 (H1 K) k:=bP rfl fun k ih=>by rw[zs1,G1];(try simp only[ih,aS]);try rfl
variable (f0:Int) (f1 f2:List U8) (group:Int)
def aA:au ((List aN)×(List U9)×Unit):=dw Tryz.prog [.tmp 4,.tmp 5] Jy I7 (f0,f1,f2,group,())
theorem bf:H0 (K0 k0 (aA f0 f1 f2 group))=A0 (L1 k0 k0 (K1 k0 (aA f0 f1 f2 group))) f0 f1 f2 group:=by kernel_rfl
theorem dB:H1 (K1 k0 (aA f0 f1 f2 group))=A1 f0 f1 f2 group:=by kernel_rfl
def FF:Option ((List aN)×(List U9)×Unit):=T (G0 k0 (A0 (G1 k0 (A1 f0 f1 f2 group) k0) f0 f1 f2 group) k0) f0 f1 f2 group
theorem aZ:dA Tryz.prog (aW [(148,[],JZ)]) aB k0 132 Jy I7 [] (f0,f1,f2,group,())=FF k0 f0 f1 f2 group:=Eq.trans (b:=T (L0 k0 k0 (K0 k0 (aA f0 f1 f2 group))) f0 f1 f2 group) (by kernel_rfl) (by rw[FF];(try simp only[aS,dP,bf,dB]);try rfl)
def _root_.Go.Rv.zM:=fun x:Int×(List U8)×(List U8)×Int×Unit=>FF (300+x.2.1.length+x.2.2.1.length) x.1 x.2.1 x.2.2.1 x.2.2.2.1
abbrev _root_.Go.Rv.J8:aG:=⟨Jy,I7,zM,[]⟩
theorem _root_.Go.Rv.ZU:aF Dr Tryz.prog 132 J8:=dJ mix (.c ZG .nil) (by kernel_rfl) fun x=>⟨aB,_,aZ _ _ _ _ _⟩
end iY
def RJ.T(a0 a1 b0 b1:Int):Option (U7):=cond (decide ((IntKind.u64.wrap (a1+b1))<a1)) (cond (decide ((IntKind.u64.wrap (a0+b0))<a0)) (some ((IntKind.u64.wrap ((IntKind.u64.wrap (a0+b0))+1)),(IntKind.u64.wrap (a1+b1)),true,0,())) (some ((IntKind.u64.wrap ((IntKind.u64.wrap (a0+b0))+1)),(IntKind.u64.wrap (a1+b1)),(decide ((IntKind.u64.wrap ((IntKind.u64.wrap (a0+b0))+1))<(IntKind.u64.wrap (a0+b0)))),0,()))) (cond (decide ((IntKind.u64.wrap (a0+b0))<a0)) (some ((IntKind.u64.wrap ((IntKind.u64.wrap (a0+b0))+0)),(IntKind.u64.wrap (a1+b1)),true,0,())) (some ((IntKind.u64.wrap ((IntKind.u64.wrap (a0+b0))+0)),(IntKind.u64.wrap (a1+b1)),(decide ((IntKind.u64.wrap ((IntKind.u64.wrap (a0+b0))+0))<(IntKind.u64.wrap (a0+b0)))),0,())))
def uw:=fun x:U8=>RJ.T x.1 x.2.1 x.2.2.1 x.2.2.2.1
abbrev wL:aG:=⟨[.v true ct1,.v true ct1],[(true,Xy)],uw,[]⟩
theorem JO:aF Dr Tryz.prog 165 wL:=bC mix .nil (by kernel_rfl) fun x=>by kernel_rfl
abbrev JB:Is:=[.v true ct1,.v false [CT.int .i64]]
abbrev Ja:Os:=[(true,ct1)]
namespace rf
def aB:Nat→List Nat×List Nat:=fun k=>if k=3 then([1,2,4],[2,4])else([],[])
def zrc{R:Type}(k0:Nat)(p:List Nat):Env→List Ob→au R→Option R:=bJ Tryz.prog (aW [(165,[],wL)]) 21 0 aB k0 (cO p (dI Tryz.prog 168))
def R0{R:Type}(nx0:tu R)(ex0:qW R)(n2 a a2 t4x t4x2:Int):Option R:=cond (decide (n2>0)) ((uw (a,a2,a,a2,())).bind fun y1=>nx0 (af (n2 - 1)) y1.1 y1.2.1 t4x t4x2) (ex0 a a2 t4x t4x2)
def A0(a0 a1 n:Int)(a a2 t4x t4x2:Int):Option (aN):=some (a,a2,())
def T(lo0:tu (aN))(a0 a1 n:Int):Option (aN):=cond (decide (n<0)) (some (0,0,())) (cond (decide (n>127)) (some (0,0,())) (lo0 n a0 a1 0 0))
def K0{R:Type}(k0:Nat)(K:au R):au R:=bF 0 (bI (fun env ob=>zrc k0 [1,1,1] env ob (K)) (K))
def L0:tu R:=fun n2 a a2 t4x t4x2=>iter 0 [1,2,4] [2,4] (zrc k0 [1,1,0,0,0]) k [(1,.int .i64 n2),(2,.ptr 0 0 0 0),(4,.ptr 1 0 0 0)] [.box [.int .u64 a,.int .u64 a2],.box [.int .u64 t4x,.int .u64 t4x2]] K
def H0:qW R:=fun a a2 t4x t4x2=>K (.exit 0) [(2,.ptr 0 0 0 0),(4,.ptr 1 0 0 0)] [.box [.int .u64 a,.int .u64 a2],.box [.int .u64 t4x,.int .u64 t4x2]]
theorem zs0:L0 k0 (k+1) K=R0 (L0 k0 k K) (H0 K):=by kernel_rfl
def G0{R:Type}(k0:Nat)(hx0:qW R):Nat→tu R
 |0=>fun _ _ _ _ _=>none
 |k+1=>R0 (G0 k0 hx0 k) hx0
theorem aS:∀ k,L0 k0 k K=G0 k0 (H0 K) k:=bP rfl fun k ih=>by rw[zs0,G0];(try simp only[ih]);try rfl
variable (a0 a1 n:Int)
def aA:au (aN):=dw Tryz.prog [.cell 4 181] JB Ja (a0,a1,n,())
theorem bf:H0 (K0 k0 (aA a0 a1 n))=A0 a0 a1 n:=by kernel_rfl
def FF:Option (aN):=T (G0 k0 (A0 a0 a1 n) k0) a0 a1 n
theorem aZ:dA Tryz.prog (aW [(165,[],wL)]) aB k0 168 JB Ja [] (a0,a1,n,())=FF k0 a0 a1 n:=Eq.trans (b:=T (L0 k0 k0 (K0 k0 (aA a0 a1 n))) a0 a1 n) (by kernel_rfl) (by rw[FF];(try simp only[aS,bf]);try rfl)
def _root_.Go.Rv.Dp:=fun x:U9=>FF (300) x.1 x.2.1 x.2.2.1
abbrev _root_.Go.Rv.Ko:aG:=⟨JB,Ja,Dp,[]⟩
theorem _root_.Go.Rv.ZY:aF Dr Tryz.prog 168 Ko:=dJ mix (.c JO .nil) (by kernel_rfl) fun x=>⟨aB,_,aZ _ _ _ _⟩
end rf
abbrev JC:Is:=[.v false [CT.int .u64],.v false [CT.int .u64]]
abbrev Jb:Os:=[(true,ct1)]
namespace qo
def aB:Nat→List Nat×List Nat:=fun k=>if k=3 then([0,1,4,5,6],[4,5])else([],[])
def zrc{R:Type}(k0:Nat)(p:List Nat):Env→List Ob→au R→Option R:=bJ Tryz.prog (aW [(165,[],wL),(168,[],Ko)]) 26 0 aB k0 (cO p (dI Tryz.prog 152))
def R0{R:Type}(nx0:FO R)(ex0:qW R)(a2 b2 kx t4x t4x2 sum sum2:Int):Option R:=cond (decide (kx<64)) (if(IntKind.u64.wrap (kx))<0 then none else cond ((IntKind.u64.wrap (((BitVec.ofInt 64 (Int.fdiv b2 (2 ^ (min (((IntKind.u64.wrap (kx)):Int)).toNat 64)))) &&& (BitVec.ofInt 64 1)).toNat))==1) ((Dp (0,a2,kx,())).bind fun y1=>(uw (sum,sum2,y1.1,y1.2.1,())).bind fun y2=>nx0 a2 b2 (af (kx+1)) t4x t4x2 y2.1 y2.2.1) (nx0 a2 b2 (af (kx+1)) t4x t4x2 sum sum2)) (ex0 t4x t4x2 sum sum2)
def A0(a b:Int)(t4x t4x2 sum sum2:Int):Option (aN):=some (sum,sum2,())
def T(lo0:FO (aN))(a b:Int):Option (aN):=lo0 a b 0 0 0 0 0
def K0{R:Type}(k0:Nat)(K:au R):au R:=bF 0 (bI (fun env ob=>zrc k0 [1,1,1] env ob (K)) (K))
def L0:FO R:=fun a2 b2 kx t4x t4x2 sum sum2=>iter 0 [0,1,4,5,6] [4,5] (zrc k0 [1,1,0,1,0,0]) k [(0,.int .u64 a2),(1,.int .u64 b2),(4,.ptr 0 0 0 0),(5,.ptr 1 0 0 0),(6,.int .i64 kx)] [.box [.int .u64 t4x,.int .u64 t4x2],.box [.int .u64 sum,.int .u64 sum2]] K
def H0:qW R:=fun t4x t4x2 sum sum2=>K (.exit 0) [(4,.ptr 0 0 0 0),(5,.ptr 1 0 0 0)] [.box [.int .u64 t4x,.int .u64 t4x2],.box [.int .u64 sum,.int .u64 sum2]]
theorem zs0:L0 k0 (k+1) K=R0 (L0 k0 k K) (H0 K):=by kernel_rfl
def G0{R:Type}(k0:Nat)(hx0:qW R):Nat→FO R
 |0=>fun _ _ _ _ _ _ _=>none
 |k+1=>R0 (G0 k0 hx0 k) hx0
theorem aS:∀ k,L0 k0 k K=G0 k0 (H0 K) k:=bP rfl fun k ih=>by rw[zs0,G0];(try simp only[ih]);try rfl
variable (a b:Int)
def aA:au (aN):=dw Tryz.prog [.cell 4 181] JC Jb (a,b,())
theorem bf:H0 (K0 k0 (aA a b))=A0 a b:=by kernel_rfl
def FF:Option (aN):=T (G0 k0 (A0 a b) k0) a b
theorem aZ:dA Tryz.prog (aW [(165,[],wL),(168,[],Ko)]) aB k0 152 JC Jb [] (a,b,())=FF k0 a b:=Eq.trans (b:=T (L0 k0 k0 (K0 k0 (aA a b))) a b) (by kernel_rfl) (by rw[FF];(try simp only[aS,bf]);try rfl)
def _root_.Go.Rv.uo:=fun x:aN=>FF (300) x.1 x.2.1
abbrev _root_.Go.Rv.Q8:aG:=⟨JC,Jb,uo,[]⟩
theorem _root_.Go.Rv.Qz:aF Dr Tryz.prog 152 Q8:=dJ mix (.c JO (.c ZY .nil)) (by kernel_rfl) fun x=>⟨aB,_,aZ _ _ _⟩
end qo
def RI.T(a0 a1 b0 b1:Int):Option (Int×Unit):=cond (a0 != b0) (cond (decide (a0<b0)) (some ((-1),())) (some (1,()))) (cond (decide (a1<b1)) (some ((-1),())) (cond (decide (a1>b1)) (some (1,())) (some (0,()))))
def uq:=fun x:U8=>RI.T x.1 x.2.1 x.2.2.1 x.2.2.2.1
abbrev Rf:aG:=⟨[.v true ct1,.v true ct1],[(false,[CT.int .i64])],uq,[]⟩
theorem JM:aF Dr Tryz.prog 164 Rf:=bC mix .nil (by kernel_rfl) fun x=>by kernel_rfl
def Rj.T(a b c d:Int):Option (Int×Unit):=(uo ((IntKind.u64.wrap (a)),(IntKind.u64.wrap (b)),())).bind fun y1=>(uo ((IntKind.u64.wrap (c)),(IntKind.u64.wrap (d)),())).bind fun y2=>(uq (y1.1,y1.2.1,y2.1,y2.2.1,())).bind fun y3=>some (y3.1,())
def wJ:=fun x:U8=>Rj.T x.1 x.2.1 x.2.2.1 x.2.2.2.1
abbrev QG:aG:=⟨[.v false [CT.int .i64],.v false [CT.int .i64],.v false [CT.int .i64],.v false [CT.int .i64]],[(false,[CT.int .i64])],wJ,[]⟩
theorem Qj:aF Dr Tryz.prog 150 QG:=bC mix (.c Qz (.c JM .nil)) (by kernel_rfl) fun x=>by kernel_rfl
def QT.T(a0 a1 a2:Int):Option (Bool×Unit):=(lG (a0,())).bind fun y1=>cond y1.1 ((dX (a1,())).bind fun y2=>cond y2.1 ((gu (a2,())).bind fun y3=>some (y3.1,())) (some (false,()))) (some (false,()))
def zq:=fun x:U9=>QT.T x.1 x.2.1 x.2.2.1
abbrev ZN:aG:=⟨[.v true ct0],[(false,[CT.bool])],zq,[]⟩
theorem Zl:aF Dr Tryz.prog 163 ZN:=bC mix (.c ug (.c zO (.c CB .nil))) (by kernel_rfl) fun x=>by kernel_rfl
def Rl.T(a0 a1 a2 b0 b1 b2:Int):Option (Int×Unit):=(zq (a0,a1,a2,())).bind fun y1=>cond (!y1.1) (some (0,())) ((zq (b0,b1,b2,())).bind fun y2=>cond (!y2.1) (some (0,())) ((wJ (a1,b2,b1,a2,())).bind fun y3=>cond (y3.1 != 0) (some (y3.1,())) (cond (decide (a0<b0)) (some ((-1),())) (cond (decide (a0>b0)) (some (1,())) (some (0,()))))))
def Dc:=fun x:Int×U6=>Rl.T x.1 x.2.1 x.2.2.1 x.2.2.2.1 x.2.2.2.2.1 x.2.2.2.2.2.1
abbrev QI:aG:=⟨[.v true ct0,.v true ct0],[(false,[CT.int .i64])],Dc,[]⟩
theorem ZH:aF Dr Tryz.prog 149 QI:=bC mix (.c Qj (.c Zl .nil)) (by kernel_rfl) fun x=>by kernel_rfl
abbrev JA:Is:=[.v true ct1,.v false [CT.int .i64]]
abbrev I9:Os:=[(true,ct1)]
namespace qZ
def aB:Nat→List Nat×List Nat:=fun k=>if k=3 then([1,2,4],[2,4])else([],[])
def zrc{R:Type}(k0:Nat)(p:List Nat):Env→List Ob→au R→Option R:=bJ Tryz.prog (aW []) 29 0 aB k0 (cO p (dI Tryz.prog 178))
def R0{R:Type}(nx0:tu R)(ex0:qW R)(n2 a a2 t4x t4x2:Int):Option R:=cond (decide (n2>0)) (if 2=0 then none else if 2=0 then none else if 2=0 then none else nx0 (af (n2 - 1)) (IntKind.u64.wrap (Int.tdiv a 2)) (IntKind.u64.wrap ((IntKind.u64.wrap (Int.tdiv a2 2))+(IntKind.u64.wrap ((Int.tmod a 2)*9223372036854775808)))) t4x t4x2) (ex0 a a2 t4x t4x2)
def A0(a0 a1 n:Int)(a a2 t4x t4x2:Int):Option (aN):=some (a,a2,())
def T(lo0:tu (aN))(a0 a1 n:Int):Option (aN):=cond (decide (n<0)) (some (0,0,())) (cond (decide (n>127)) (some (0,0,())) (lo0 n a0 a1 0 0))
def K0{R:Type}(k0:Nat)(K:au R):au R:=bF 0 (bI (fun env ob=>zrc k0 [1,1,1] env ob (K)) (K))
def L0:tu R:=fun n2 a a2 t4x t4x2=>iter 0 [1,2,4] [2,4] (zrc k0 [1,1,0,0,0]) k [(1,.int .i64 n2),(2,.ptr 0 0 0 0),(4,.ptr 1 0 0 0)] [.box [.int .u64 a,.int .u64 a2],.box [.int .u64 t4x,.int .u64 t4x2]] K
def H0:qW R:=fun a a2 t4x t4x2=>K (.exit 0) [(2,.ptr 0 0 0 0),(4,.ptr 1 0 0 0)] [.box [.int .u64 a,.int .u64 a2],.box [.int .u64 t4x,.int .u64 t4x2]]
theorem zs0:L0 k0 (k+1) K=R0 (L0 k0 k K) (H0 K):=by kernel_rfl
def G0{R:Type}(k0:Nat)(hx0:qW R):Nat→tu R
 |0=>fun _ _ _ _ _=>none
 |k+1=>R0 (G0 k0 hx0 k) hx0
theorem aS:∀ k,L0 k0 k K=G0 k0 (H0 K) k:=bP rfl fun k ih=>by rw[zs0,G0];(try simp only[ih]);try rfl
variable (a0 a1 n:Int)
def aA:au (aN):=dw Tryz.prog [.cell 4 181] JA I9 (a0,a1,n,())
theorem bf:H0 (K0 k0 (aA a0 a1 n))=A0 a0 a1 n:=by kernel_rfl
def FF:Option (aN):=T (G0 k0 (A0 a0 a1 n) k0) a0 a1 n
theorem aZ:dA Tryz.prog (aW []) aB k0 178 JA I9 [] (a0,a1,n,())=FF k0 a0 a1 n:=Eq.trans (b:=T (L0 k0 k0 (K0 k0 (aA a0 a1 n))) a0 a1 n) (by kernel_rfl) (by rw[FF];(try simp only[aS,bf]);try rfl)
def _root_.Go.Rv.Dn:=fun x:U9=>FF (300) x.1 x.2.1 x.2.2.1
abbrev _root_.Go.Rv.aav:aG:=⟨JA,I9,Dn,[]⟩
theorem _root_.Go.Rv.ZX:aF Dr Tryz.prog 178 aav:=dJ mix .nil (by kernel_rfl) fun x=>⟨aB,_,aZ _ _ _ _⟩
end qZ
def Sj.T(a0 a1 ak:Int):Option (Int×Unit):=(Dn (a0,a1,ak,())).bind fun y1=>some ((IntKind.u64.wrap (((BitVec.ofInt 64 y1.2.1) &&& (BitVec.ofInt 64 1)).toNat)),())
def Dz:=fun x:U9=>Sj.T x.1 x.2.1 x.2.2.1
abbrev Rt:aG:=⟨[.v true ct1,.v false [CT.int .i64]],[(false,[CT.int .u64])],Dz,[]⟩
theorem aam:aF Dr Tryz.prog 166 Rt:=bC mix (.c ZX .nil) (by kernel_rfl) fun x=>by kernel_rfl
def RH.T(a0 a1 b0 b1:Int):Option (U7):=cond (decide (a1<b1)) ((uq (a0,a1,b0,b1,())).bind fun y1=>some ((IntKind.u64.wrap ((IntKind.u64.wrap (a0 - b0)) - 1)),(IntKind.u64.wrap (a1 - b1)),(decide (y1.1<0)),0,())) ((uq (a0,a1,b0,b1,())).bind fun y2=>some ((IntKind.u64.wrap (a0 - b0)),(IntKind.u64.wrap (a1 - b1)),(decide (y2.1<0)),0,()))
def Dl:=fun x:U8=>RH.T x.1 x.2.1 x.2.2.1 x.2.2.2.1
abbrev Q7:aG:=⟨[.v true ct1,.v true ct1],[(true,Xy)],Dl,[]⟩
theorem ZW:aF Dr Tryz.prog 167 Q7:=bC mix (.c JM .nil) (by kernel_rfl) fun x=>by kernel_rfl
abbrev JD:Is:=[.v true ct1,.v false [CT.int .u64]]
abbrev Jc:Os:=[(true,XE)]
namespace oZ
def dG:Tb:=[(164,[],Rf),(165,[],wL),(166,[],Rt),(167,[],Q7)]
def aB:Nat→List Nat×List Nat:=fun k=>if k=6 then([1,2,4,5,6,7],[4,5,6])else([],[])
def zrc{R:Type}(k0:Nat)(p:List Nat):Env→List Ob→au R→Option R:=bJ Tryz.prog (aW dG) 55 0 aB k0 (cO p (dI Tryz.prog 151))
def R0{R:Type}(nx0:FN R)(ex0:yX R)(d2 kx a a2 t4x t4x2 t4x3 out out2 out3 rem rem2:Int):Option R:=cond (decide (kx≥0)) ((uw (rem,rem2,rem,rem2,())).bind fun y1=>(Dz (a,a2,kx,())).bind fun y2=>(uw (out,out2,out,out2,())).bind fun y3=>(uq (y1.1,(IntKind.u64.wrap (y1.2.1+y2.1)),0,d2,())).bind fun y4=>cond (decide (y4.1≥0)) ((Dl (y1.1,(IntKind.u64.wrap (y1.2.1+y2.1)),0,d2,())).bind fun y5=>nx0 d2 (af (kx - 1)) a a2 t4x t4x2 t4x3 y3.1 (IntKind.u64.wrap (y3.2.1+1)) out3 y5.1 y5.2.1) (nx0 d2 (af (kx - 1)) a a2 t4x t4x2 t4x3 y3.1 y3.2.1 out3 y1.1 (IntKind.u64.wrap (y1.2.1+y2.1)))) (ex0 t4x t4x2 t4x3 out out2 out3 rem rem2)
def A0(a0 a1 d:Int)(t4x t4x2 t4x3 out out2 out3 rem rem2:Int):Option (U9):=some (out,out2,rem2,())
def T(lo0:FN (U9))(a0 a1 d:Int):Option (U9):=cond (d==0) (some (0,0,0,())) (lo0 d 127 a0 a1 0 0 0 0 0 0 0 0)
def K0{R:Type}(k0:Nat)(K:au R):au R:=bF 0 (bI (fun env ob=>zrc k0 [1,1,1,1,1] env ob (K)) (K))
def L0:FN R:=fun d2 kx a a2 t4x t4x2 t4x3 out out2 out3 rem rem2=>iter 0 [1,2,4,5,6,7] [4,5,6] (zrc k0 [1,1,1,1,0,1,0,0]) k [(1,.int .u64 d2),(2,.ptr 0 0 0 0),(4,.ptr 1 0 0 0),(5,.ptr 2 0 0 0),(6,.ptr 3 0 0 0),(7,.int .i64 kx)] [.box [.int .u64 a,.int .u64 a2],.box [.int .u64 t4x,.int .u64 t4x2,.int .u64 t4x3],.box [.int .u64 out,.int .u64 out2,.int .u64 out3],.box [.int .u64 rem,.int .u64 rem2]] K
def H0:yX R:=fun t4x t4x2 t4x3 out out2 out3 rem rem2=>K (.exit 0) [(4,.ptr 0 0 0 0),(5,.ptr 1 0 0 0),(6,.ptr 2 0 0 0)] [.box [.int .u64 t4x,.int .u64 t4x2,.int .u64 t4x3],.box [.int .u64 out,.int .u64 out2,.int .u64 out3],.box [.int .u64 rem,.int .u64 rem2]]
theorem zs0:L0 k0 (k+1) K=R0 (L0 k0 k K) (H0 K):=by kernel_rfl
def G0{R:Type}(k0:Nat)(hx0:yX R):Nat→FN R
 |0=>fun _ _ _ _ _ _ _ _ _ _ _ _=>none
 |k+1=>R0 (G0 k0 hx0 k) hx0
theorem aS:∀ k,L0 k0 k K=G0 k0 (H0 K) k:=bP rfl fun k ih=>by rw[zs0,G0];(try simp only[ih]);try rfl
variable (a0 a1 d:Int)
def aA:au (U9):=dw Tryz.prog [.cell 4 183] JD Jc (a0,a1,d,())
theorem bf:H0 (K0 k0 (aA a0 a1 d))=A0 a0 a1 d:=by kernel_rfl
def FF:Option (U9):=T (G0 k0 (A0 a0 a1 d) k0) a0 a1 d
theorem aZ:dA Tryz.prog (aW dG) aB k0 151 JD Jc [] (a0,a1,d,())=FF k0 a0 a1 d:=Eq.trans (b:=T (L0 k0 k0 (K0 k0 (aA a0 a1 d))) a0 a1 d) (by kernel_rfl) (by rw[FF];(try simp only[aS,bf]);try rfl)
def _root_.Go.Rv.zN:=fun x:U9=>FF (300) x.1 x.2.1 x.2.2.1
abbrev _root_.Go.Rv.Q9:aG:=⟨JD,Jc,zN,[]⟩
theorem _root_.Go.Rv.Z4:aF Dr Tryz.prog 151 Q9:=dJ mix (.c JM (.c JO (.c aam (.c ZW .nil)))) (by kernel_rfl) fun x=>⟨aB,_,aZ _ _ _ _⟩
end oZ
abbrev Jz:Is:=[.v false [CT.int .i64],.v false [CT.sl ct0]]
abbrev I8:Os:=[(false,[CT.sl [CT.int .i64]])]
namespace di
def dG:Tb:=[(149,[],QI),(150,[],QG),(151,[],Q9),(152,[],Q8)]
def aB:Nat→List Nat×List Nat:=fun k=>if k=6 then([1,5,6,7,8,9],[1,5,6,7,8])else if k=9 then([1,5,6,7,8],[1,4,5,6,7,8])else if k=11 then([1,5,6,7,8,10,11],[1,5,6,7,8,10])else if k=24 then([1,5,6,7,8,12,13],[1,5,6,12])else if k=30 then([1,5,6,12,14],[5])else([],[])
def zrc{R:Type}(k0:Nat)(p:List Nat):Env→List Ob→au R→Option R:=bJ Tryz.prog (aW dG) 167 0 aB k0 (cO p (dI Tryz.prog 133))
def R0{R:Type}(nx0:vM R)(ex0:lU R)(list2:List U9)(rest all i:Int)(out:List (Int×Unit))(done:List (Bool×Unit)):Option R:=cond (decide (i<(list2.length:Int))) (if 0≤i∧i<(list2.length:Int)then nx0 list2 rest (af (all+(rd (0,0,0,()) list2 i).2.2.1)) (af (i+1)) out done else none) (ex0 list2 rest all out done)
def R1{R:Type}(lo2:tq R)(list2:List U9)(rest all:Int)(out:List (Int×Unit))(done:List (Bool×Unit)):Option R:=lo2 list2 rest all (-1) 0 out done
def R2{R:Type}(nx2:tq R)(ex1:vM R)(list2:List U9)(rest all next i:Int)(out:List (Int×Unit))(done:List (Bool×Unit)):Option R:=cond (decide (i<(list2.length:Int))) (if 0≤i∧i<(done.length:Int)then cond (!(done.getD i.toNat (false,())).1) (cond (decide (next<0)) (nx2 list2 rest all i (af (i+1)) out done) (if 0≤i∧i<(list2.length:Int)then if 0≤next∧next<(list2.length:Int)then(Dc ((rd (0,0,0,()) list2 i).1,(rd (0,0,0,()) list2 i).2.1,(rd (0,0,0,()) list2 i).2.2.1,(rd (0,0,0,()) list2 next).1,(rd (0,0,0,()) list2 next).2.1,(rd (0,0,0,()) list2 next).2.2.1,())).bind fun y1=>cond (decide (y1.1<0)) (nx2 list2 rest all i (af (i+1)) out done) (nx2 list2 rest all next (af (i+1)) out done)else none else none)) (nx2 list2 rest all next (af (i+1)) out done)else none) (ex1 list2 rest all next out done)
def R3{R:Type}(nx3:tq R)(qU:OX R)(list2:List U9)(rest all left i:Int)(out:List (Int×Unit))(done:List (Bool×Unit)):Option R:=cond (decide (i<(list2.length:Int))) (if 0≤i∧i<(done.length:Int)then cond (!(done.getD i.toNat (false,())).1) (if 0≤i∧i<(list2.length:Int)then(uo ((IntKind.u64.wrap (rest)),(IntKind.u64.wrap ((rd (0,0,0,()) list2 i).2.2.1)),())).bind fun y1=>(zN (y1.1,y1.2.1,(IntKind.u64.wrap (all)),())).bind fun y2=>if 0≤i∧i<(out.length:Int)then if 0≤i∧i<((out.set i.toNat ((af (y2.2.1)),())).length:Int)then nx3 list2 rest all (af (left - ((out.set i.toNat ((af (y2.2.1)),())).getD i.toNat (0,())).1)) (af (i+1)) (out.set i.toNat ((af (y2.2.1)),())) done else none else none else none) (nx3 list2 rest all left (af (i+1)) out done)else none) (qU list2 left out done)
def R4{R:Type}(nx4:lU R)(ex5:yQ R)(list2:List U9)(left i:Int)(out:List (Int×Unit))(done:List (Bool×Unit)):Option R:=cond (decide (i<(list2.length:Int))) (cond (decide (left>0)) (if 0≤i∧i<(done.length:Int)then cond (!(done.getD i.toNat (false,())).1) (if 0≤i∧i<(out.length:Int)then if 0≤i∧i<(out.length:Int)then nx4 list2 (af (left - 1)) (af (i+1)) (out.set i.toNat ((af ((out.getD i.toNat (0,())).1+1)),())) done else none else none) (nx4 list2 left (af (i+1)) out done)else none) (ex5 out)) (ex5 out)
def A0(lo1:lU ((List (Int×Unit))×Unit))(amount:Int)(list:List U9)(list2:List U9)(rest all:Int)(out:List (Int×Unit))(done:List (Bool×Unit)):Option ((List (Int×Unit))×Unit):=lo1 list2 rest all out done
def A1{R:Type}(nx1 ex2 ex3:lU R)(list2:List U9)(rest all next:Int)(out:List (Int×Unit))(done:List (Bool×Unit)):Option R:=cond (decide (next<0)) (ex2 list2 rest all out done) (if 0≤next∧next<(list2.length:Int)then if 0≤next∧next<(list2.length:Int)then(wJ ((rd (0,0,0,()) list2 next).2.1,all,rest,(rd (0,0,0,()) list2 next).2.2.1,())).bind fun y1=>cond (decide (y1.1>0)) (ex3 list2 rest all out done) (if 0≤next∧next<(done.length:Int)then if 0≤next∧next<(list2.length:Int)then if 0≤next∧next<(out.length:Int)then if 0≤next∧next<(list2.length:Int)then if 0≤next∧next<(list2.length:Int)then nx1 list2 (af (rest - (rd (0,0,0,()) list2 next).2.1)) (af (all - (rd (0,0,0,()) list2 next).2.2.1)) (out.set next.toNat ((rd (0,0,0,()) list2 next).2.1,())) (done.set next.toNat (true,()))else none else none else none else none else none)else none else none)
def A2(amount:Int)(list:List U9)(list2:List U9)(rest all:Int)(t4x:List (Int×Unit))(done:List (Bool×Unit)):Option ((List (Int×Unit))×Unit):=some (t4x,())
def A3(lo3:tq ((List (Int×Unit))×Unit))(amount:Int)(list:List U9)(list2:List U9)(rest all:Int)(out:List (Int×Unit))(done:List (Bool×Unit)):Option ((List (Int×Unit))×Unit):=lo3 list2 rest all rest 0 out done
def A4(lo4:lU ((List (Int×Unit))×Unit))(amount:Int)(list:List U9)(list2:List U9)(left:Int)(out:List (Int×Unit))(done:List (Bool×Unit)):Option ((List (Int×Unit))×Unit):=lo4 list2 left 0 out done
def A5(amount:Int)(list:List U9)(out:List (Int×Unit)):Option ((List (Int×Unit))×Unit):=some (out,())
def T(lo0:vM ((List (Int×Unit))×Unit))(amount:Int)(list:List U9):Option ((List (Int×Unit))×Unit):=if 0≤(list.length:Int)∧(8:Int)*(list.length:Int)≤281474976710656∧(list.length:Int)≤9223372036854775807 then if 0≤(list.length:Int)∧(1:Int)*(list.length:Int)≤281474976710656∧(list.length:Int)≤9223372036854775807 then lo0 list amount 0 0 (List.replicate (((list.length:Int):Int)).toNat (0,())) (List.replicate (((list.length:Int):Int)).toNat (false,()))else none else none
def K0{R:Type}(k0:Nat)(K:au R):au R:=bF 0 (bI (fun env ob=>zrc k0 [1,1,1,1,1,1] env ob (K)) (K))
def K1{R:Type}(k0:Nat)(K:au R):au R:=bF 2 (bI (fun env ob=>zrc k0 [1,1,1,1,1,1,1] env ob (K)) (K))
def K2{R:Type}(k0:Nat)(K:au R):au R:=bF 4 (bI (fun env ob=>zrc k0 [1,1,1,1,1,1,0,0,0,0,1,1] env ob (bF 3 (K))) (bF 3 (K)))
def K3{R:Type}(k0:Nat)(K:au R):au R:=bF 6 (bI (fun env ob=>zrc k0 [1,1,1,1,1,1,1,1,1] env ob (K)) (K))
def K4{R:Type}(k0:Nat)(K:au R):au R:=bF 8 (bI (fun env ob=>zrc k0 [1,1,1,1,1,1,1,1,1,1] env ob (K)) (K))
def P1:au R:=vC 0 [1,5,6,7,8] [1,4,5,6,7,8] (fun env ob=>iter 0 [1,5,6,7,8] [1,4,5,6,7,8] (zrc k0 [1,1,1,1,1,1,0,0,0]) k env ob K) K
def L0:vM R:=fun list2 rest all i out done=>iter 0 [1,5,6,7,8,9] [1,5,6,7,8] (zrc k0 [1,1,1,1,1,0,1,0,0]) k [(1,.sl ct0 list2),(5,.own 0),(6,.own 1),(7,.int .i64 rest),(8,.int .i64 all),(9,.int .i64 i)] [.arr [CT.int .i64] out,.arr [CT.bool] done] K
def L1:lU R:=fun list2 rest all out done=>iter 0 [1,5,6,7,8] [1,4,5,6,7,8] (zrc k0 [1,1,1,1,1,1,0,0,0]) k [(1,.sl ct0 list2),(5,.own 0),(6,.own 1),(7,.int .i64 rest),(8,.int .i64 all)] [.arr [CT.int .i64] out,.arr [CT.bool] done] K
def L2:tq R:=fun list2 rest all next i out done=>iter 0 [1,5,6,7,8,10,11] [1,5,6,7,8,10] (zrc k0 [1,1,1,1,1,1,0,0,0,0,1,0,1,0,0]) k [(1,.sl ct0 list2),(5,.own 0),(6,.own 1),(7,.int .i64 rest),(8,.int .i64 all),(10,.int .i64 next),(11,.int .i64 i)] [.arr [CT.int .i64] out,.arr [CT.bool] done] K
def L3:tq R:=fun list2 rest all left i out done=>iter 0 [1,5,6,7,8,12,13] [1,5,6,12] (zrc k0 [1,1,1,1,1,1,1,1,0,1,0,0]) k [(1,.sl ct0 list2),(5,.own 0),(6,.own 1),(7,.int .i64 rest),(8,.int .i64 all),(12,.int .i64 left),(13,.int .i64 i)] [.arr [CT.int .i64] out,.arr [CT.bool] done] K
def L4:lU R:=fun list2 left i out done=>iter 0 [1,5,6,12,14] [5] (zrc k0 [1,1,1,1,1,1,1,1,1,0,1,0,0]) k [(1,.sl ct0 list2),(5,.own 0),(6,.own 1),(12,.int .i64 left),(14,.int .i64 i)] [.arr [CT.int .i64] out,.arr [CT.bool] done] K
def H0:lU R:=fun list2 rest all out done=>K (.exit 0) [(1,.sl ct0 list2),(5,.own 0),(6,.own 1),(7,.int .i64 rest),(8,.int .i64 all)] [.arr [CT.int .i64] out,.arr [CT.bool] done]
def H1:vM R:=fun list2 rest all next out done=>K (.exit 4) [(1,.sl ct0 list2),(5,.own 0),(6,.own 1),(7,.int .i64 rest),(8,.int .i64 all),(10,.int .i64 next)] [.arr [CT.int .i64] out,.arr [CT.bool] done]
def H2:lU R:=fun list2 rest all t4x done=>K .ret [(1,.sl ct0 list2),(4,.own 0),(5,.own 0),(6,.own 1),(7,.int .i64 rest),(8,.int .i64 all)] [.arr [CT.int .i64] t4x,.arr [CT.bool] done]
def H3:lU R:=fun list2 rest all out done=>K (.exit 2) [(1,.sl ct0 list2),(4,.undef),(5,.own 0),(6,.own 1),(7,.int .i64 rest),(8,.int .i64 all)] [.arr [CT.int .i64] out,.arr [CT.bool] done]
def H4:OX R:=fun list2 left out done=>K (.exit 6) [(1,.sl ct0 list2),(5,.own 0),(6,.own 1),(12,.int .i64 left)] [.arr [CT.int .i64] out,.arr [CT.bool] done]
def H5:yQ R:=fun out=>K (.exit 8) [(5,.own 0)] [.arr [CT.int .i64] out]
theorem zs0:L0 k0 (k+1) K=R0 (L0 k0 k K) (H0 K):=by kernel_rfl
theorem zs1:L1 k0 (k+1) K=R1 (L2 k0 k0 (K2 k0 (P1 k0 k K))):=by kernel_rfl
theorem zs2:L2 k0 (k+1) K=R2 (L2 k0 k K) (H1 K):=by kernel_rfl
theorem Oz:L3 k0 (k+1) K=R3 (L3 k0 k K) (H4 K):=by kernel_rfl
theorem Oy:L4 k0 (k+1) K=R4 (L4 k0 k K) (H5 K):=by kernel_rfl
theorem dB:H1 (K2 k0 (P1 k0 k K))=A1 (L1 k0 k K) (H2 K) (H3 K):=by kernel_rfl
def G0{R:Type}(k0:Nat)(hx0:lU R):Nat→vM R
 |0=>fun _ _ _ _ _ _=>none
 |k+1=>R0 (G0 k0 hx0 k) hx0
theorem aS:∀ k,L0 k0 k K=G0 k0 (H0 K) k:=bP rfl fun k ih=>by rw[zs0,G0];(try simp only[ih]);try rfl
def G2{R:Type}(k0:Nat)(hx1:vM R):Nat→tq R
 |0=>fun _ _ _ _ _ _ _=>none
 |k+1=>R2 (G2 k0 hx1 k) hx1
theorem lC:∀ k,L2 k0 k K=G2 k0 (H1 K) k:=bP rfl fun k ih=>by rw[zs2,G2];(try simp only[ih,aS]);try rfl
def G1{R:Type}(k0:Nat)(hx2 hx3:lU R):Nat→lU R
 |0=>fun _ _ _ _ _=>none
 |k+1=>R1 (G2 k0 (A1 (G1 k0 hx2 hx3 k) hx2 hx3) k0)
theorem dP:∀ k,L1 k0 k K=G1 k0 (H2 K) (H3 K) k:=bP rfl fun k ih=>by rw[zs1,G1];(try simp only[ih,aS,lC,dB]);try rfl
def G3{R:Type}(k0:Nat)(hx4:OX R):Nat→tq R
 |0=>fun _ _ _ _ _ _ _=>none
 |k+1=>R3 (G3 k0 hx4 k) hx4
theorem yK:∀ k,L3 k0 k K=G3 k0 (H4 K) k:=bP rfl fun k ih=>by rw[Oz,G3];(try simp only[ih,aS,lC,dP]);try rfl
def G4{R:Type}(k0:Nat)(hx5:yQ R):Nat→lU R
 |0=>fun _ _ _ _ _=>none
 |k+1=>R4 (G4 k0 hx5 k) hx5
theorem OA:∀ k,L4 k0 k K=G4 k0 (H5 K) k:=bP rfl fun k ih=>by rw[Oy,G4];(try simp only[ih,aS,lC,dP,yK]);try rfl
variable (amount:Int) (list:List U9)
def aA:au ((List (Int×Unit))×Unit):=dw Tryz.prog [.tmp 4] Jz I8 (amount,list,())
theorem bf:H0 (K0 k0 (aA amount list))=A0 (L1 k0 k0 (K1 k0 (aA amount list))) amount list:=by kernel_rfl
theorem mG:H2 (K1 k0 (aA amount list))=A2 amount list:=by kernel_rfl
theorem qR:H3 (K1 k0 (aA amount list))=A3 (L3 k0 k0 (K3 k0 (aA amount list))) amount list:=by kernel_rfl
theorem OB:H4 (K3 k0 (aA amount list))=A4 (L4 k0 k0 (K4 k0 (aA amount list))) amount list:=by kernel_rfl
theorem za5:H5 (K4 k0 (aA amount list))=A5 amount list:=by kernel_rfl
def FF:Option ((List (Int×Unit))×Unit):=T (G0 k0 (A0 (G1 k0 (A2 amount list) (A3 (G3 k0 (A4 (G4 k0 (A5 amount list) k0) amount list) k0) amount list) k0) amount list) k0) amount list
theorem aZ:dA Tryz.prog (aW dG) aB k0 133 Jz I8 [] (amount,list,())=FF k0 amount list:=Eq.trans (b:=T (L0 k0 k0 (K0 k0 (aA amount list))) amount list) (by kernel_rfl) (by rw[FF];(try simp only[aS,lC,dP,yK,OA,bf,mG,qR,OB,za5]);try rfl)
def _root_.Go.Rv.wO:=fun x:Int×(List U9)×Unit=>FF (300+x.2.1.length) x.1 x.2.1
abbrev _root_.Go.Rv.J9:aG:=⟨Jz,I8,wO,[]⟩
theorem _root_.Go.Rv.ZV:aF Dr Tryz.prog 133 J9:=dJ mix (.c ZH (.c Qj (.c Z4 (.c Qz .nil)))) (by kernel_rfl) fun x=>⟨aB,_,aZ _ _ _⟩
end di
abbrev JS:Is:=[.v true gI]
abbrev Jq:Os:=[(false,[CT.sl [CT.int .i64]]),(false,[CT.sl [CT.int .i64]])]
namespace gQ
def aB:Nat→List Nat×List Nat:=fun k=>if k=4 then([1,4,5,6],[4,5])else if k=14 then([1,4,5,6,9,11,12],[1,4,5,6])else([],[])
def zrc{R:Type}(k0:Nat)(p:List Nat):Env→List Ob→au R→Option R:=bJ Tryz.prog (aW [(132,[],J8),(133,[],J9)]) 87 0 aB k0 (cO p (dI Tryz.prog 114))
def R0{R:Type}(ex0:OW R)(lo1:FM R)(g f:Int)(f3 f4:List U8)(groups members:List (Int×Unit)):Option R:=cond (decide (g<(f3.length:Int))) (cond (decide (g≥0)) (if 0≤g∧g<(f3.length:Int)then if 0≤g∧g<(groups.length:Int)then(zM (f,f3,f4,(rd (0,0,0,0,()) f3 g).1,())).bind fun y1=>(wO ((groups.getD g.toNat (0,())).1,y1.2.1,())).bind fun y2=>lo1 g 0 f f3 f4 groups members y1.1 y2.1 else none else none) ((zM (f,f3,f4,0,())).bind fun y3=>(wO (f,y3.2.1,())).bind fun y4=>lo1 g 0 f f3 f4 groups members y3.1 y4.1)) (ex0 groups members)
def R1{R:Type}(nx1:FM R)(ex1:vK R)(g i f:Int)(f3 f4:List U8)(groups members:List (Int×Unit))(kids:List aN)(parts:List (Int×Unit)):Option R:=cond (decide (i<(kids.length:Int))) (if 0≤i∧i<(kids.length:Int)then cond (decide ((kids.getD i.toNat (0,0,())).1≥0)) (if 0≤i∧i<(kids.length:Int)then if 0≤i∧i<(parts.length:Int)then if 0≤(kids.getD i.toNat (0,0,())).1∧(kids.getD i.toNat (0,0,())).1<(groups.length:Int)then nx1 g (af (i+1)) f f3 f4 (groups.set (((kids.getD i.toNat (0,0,())).1).toNat) ((parts.getD i.toNat (0,())).1,())) members kids parts else none else none else none) (if 0≤i∧i<(kids.length:Int)then if 0≤i∧i<(parts.length:Int)then if 0≤(kids.getD i.toNat (0,0,())).2.1∧(kids.getD i.toNat (0,0,())).2.1<(members.length:Int)then nx1 g (af (i+1)) f f3 f4 groups (members.set (((kids.getD i.toNat (0,0,())).2.1).toNat) ((parts.getD i.toNat (0,())).1,())) kids parts else none else none else none)else none) (ex1 g f f3 f4 groups members)
def A0(f0:Int)(f1 f2:List U8)(groups members:List (Int×Unit)):Option ((List (Int×Unit))×(List (Int×Unit))×Unit):=some (groups,members,())
def A1{R:Type}(nx0:vK R)(g f:Int)(f3 f4:List U8)(groups members:List (Int×Unit)):Option R:=nx0 (af (g+1)) f f3 f4 groups members
def T(lo0:vK ((List (Int×Unit))×(List (Int×Unit))×Unit))(f0:Int)(f1 f2:List U8):Option ((List (Int×Unit))×(List (Int×Unit))×Unit):=if 0≤(f1.length:Int)∧(8:Int)*(f1.length:Int)≤281474976710656∧(f1.length:Int)≤9223372036854775807 then if 0≤(f2.length:Int)∧(8:Int)*(f2.length:Int)≤281474976710656∧(f2.length:Int)≤9223372036854775807 then lo0 (-1) f0 f1 f2 (List.replicate (((f1.length:Int):Int)).toNat (0,())) (List.replicate (((f2.length:Int):Int)).toNat (0,()))else none else none
def K0{R:Type}(k0:Nat)(K:au R):au R:=bF 0 (bI (fun env ob=>zrc k0 [1,1,1,1] env ob (K)) (K))
def K1{R:Type}(k0:Nat)(K:au R):au R:=bF 2 (bF 1 (bI (fun env ob=>zrc k0 [1,1,1,0,1,0,0,1,1] env ob (K)) (K)))
def P0:au R:=vC 0 [1,4,5,6] [4,5] (fun env ob=>iter 0 [1,4,5,6] [4,5] (zrc k0 [1,1,1,0,1,0,0]) k env ob K) K
def L0:vK R:=fun g f f3 f4 groups members=>iter 0 [1,4,5,6] [4,5] (zrc k0 [1,1,1,0,1,0,0]) k [(1,.ptr 0 0 0 0),(4,.own 1),(5,.own 2),(6,.int .i64 g)] [.box [.int .i64 f,.sl aC f3,.sl aC f4],.arr [CT.int .i64] groups,.arr [CT.int .i64] members] K
def L1:FM R:=fun g i f f3 f4 groups members kids parts=>iter 0 [1,4,5,6,9,11,12] [1,4,5,6] (zrc k0 [1,1,1,0,1,0,0,1,0,0,1,1,1,1,1,1,0,0]) k [(1,.ptr 0 0 0 0),(4,.own 1),(5,.own 2),(6,.int .i64 g),(9,.own 3),(11,.own 4),(12,.int .i64 i)] [.box [.int .i64 f,.sl aC f3,.sl aC f4],.arr [CT.int .i64] groups,.arr [CT.int .i64] members,.arr eH kids,.arr [CT.int .i64] parts] K
def H0:OW R:=fun groups members=>K (.exit 0) [(4,.own 0),(5,.own 1)] [.arr [CT.int .i64] groups,.arr [CT.int .i64] members]
def H1:vK R:=fun g f f3 f4 groups members=>K (.exit 2) [(1,.ptr 0 0 0 0),(4,.own 1),(5,.own 2),(6,.int .i64 g)] [.box [.int .i64 f,.sl aC f3,.sl aC f4],.arr [CT.int .i64] groups,.arr [CT.int .i64] members]
theorem zs0:L0 k0 (k+1) K=R0 (H0 K) (L1 k0 k0 (K1 k0 (P0 k0 k K))):=by kernel_rfl
theorem zs1:L1 k0 (k+1) K=R1 (L1 k0 k K) (H1 K):=by kernel_rfl
theorem dB:H1 (K1 k0 (P0 k0 k K))=A1 (L0 k0 k K):=by kernel_rfl
def G1{R:Type}(k0:Nat)(hx1:vK R):Nat→FM R
 |0=>fun _ _ _ _ _ _ _ _ _=>none
 |k+1=>R1 (G1 k0 hx1 k) hx1
theorem dP:∀ k,L1 k0 k K=G1 k0 (H1 K) k:=bP rfl fun k ih=>by rw[zs1,G1];(try simp only[ih]);try rfl
def G0{R:Type}(k0:Nat)(hx0:OW R):Nat→vK R
 |0=>fun _ _ _ _ _ _=>none
 |k+1=>R0 hx0 (G1 k0 (A1 (G0 k0 hx0 k)) k0)
theorem aS:∀ k,L0 k0 k K=G0 k0 (H0 K) k:=bP rfl fun k ih=>by rw[zs0,G0];(try simp only[ih,dP,dB]);try rfl
variable (f0:Int) (f1 f2:List U8)
def aA:au ((List (Int×Unit))×(List (Int×Unit))×Unit):=dw Tryz.prog [.tmp 2,.tmp 3] JS Jq (f0,f1,f2,())
theorem bf:H0 (K0 k0 (aA f0 f1 f2))=A0 f0 f1 f2:=by kernel_rfl
def FF:Option ((List (Int×Unit))×(List (Int×Unit))×Unit):=T (G0 k0 (A0 f0 f1 f2) k0) f0 f1 f2
theorem aZ:dA Tryz.prog (aW [(132,[],J8),(133,[],J9)]) aB k0 114 JS Jq [] (f0,f1,f2,())=FF k0 f0 f1 f2:=Eq.trans (b:=T (L0 k0 k0 (K0 k0 (aA f0 f1 f2))) f0 f1 f2) (by kernel_rfl) (by rw[FF];(try simp only[dP,aS,bf]);try rfl)
def _root_.Go.Rv.Dy:=fun x:U3=>FF (300+x.2.1.length+x.2.2.1.length) x.1 x.2.1 x.2.2.1
abbrev _root_.Go.Rv.Kw:aG:=⟨JS,Jq,Dy,[]⟩
theorem _root_.Go.Rv.aak:aF Dr Tryz.prog 114 Kw:=dJ mix (.c ZU (.c ZV .nil)) (by kernel_rfl) fun x=>⟨aB,_,aZ _ _ _ _⟩
end gQ
abbrev Ip:Is:=[.v true gI]
abbrev Hr:Os:=[(false,[CT.sl eH])]
namespace mV
def aB:Nat→List Nat×List Nat:=fun k=>if k=6 then([1,3,5,6],[3])else([],[])
def zrc{R:Type}(k0:Nat)(p:List Nat):Env→List Ob→au R→Option R:=bJ Tryz.prog (aW [(30,[],CS),(114,[],Kw)]) 39 0 aB k0 (cO p (dI Tryz.prog 82))
def R0{R:Type}(nx0:FK R)(ex0:OV R)(i f:Int)(f3 f4:List U8)(out:List aN)(members:List (Int×Unit)):Option R:=cond (decide (i<(f4.length:Int))) (if 0≤i∧i<(f4.length:Int)then if 0≤i∧i<(members.length:Int)then if out.length+[((rd (0,0,0,0,()) f4 i).1,(members.getD i.toNat (0,())).1,())].length≤maxRow then nx0 (af (i+1)) f f3 f4 (out++[((rd (0,0,0,0,()) f4 i).1,(members.getD i.toNat (0,())).1,())]) members else none else none else none) (ex0 out)
def A0(f0:Int)(f1 f2:List U8)(out:List aN):Option ((List aN)×Unit):=some (out,())
def T(lo0:FK ((List aN)×Unit))(f0:Int)(f1 f2:List U8):Option ((List aN)×Unit):=(zu (f0,f1,f2,())).bind fun y1=>cond (!y1.1) (some (([]:List aN),())) ((Dy (f0,f1,f2,())).bind fun y2=>lo0 0 f0 f1 f2 ([]:List aN) y2.2.1)
def K0{R:Type}(k0:Nat)(K:au R):au R:=bF 0 (bI (fun env ob=>zrc k0 [1,1,1,1,1] env ob (K)) (K))
def L0:FK R:=fun i f f3 f4 out members=>iter 0 [1,3,5,6] [3] (zrc k0 [1,1,1,1,0,1,0,0]) k [(1,.ptr 0 0 0 0),(3,.own 1),(5,.own 2),(6,.int .i64 i)] [.box [.int .i64 f,.sl aC f3,.sl aC f4],.arr eH out,.arr [CT.int .i64] members] K
def H0:OV R:=fun out=>K (.exit 0) [(3,.own 0)] [.arr eH out]
theorem zs0:L0 k0 (k+1) K=R0 (L0 k0 k K) (H0 K):=by kernel_rfl
def G0{R:Type}(k0:Nat)(hx0:OV R):Nat→FK R
 |0=>fun _ _ _ _ _ _=>none
 |k+1=>R0 (G0 k0 hx0 k) hx0
theorem aS:∀ k,L0 k0 k K=G0 k0 (H0 K) k:=bP rfl fun k ih=>by rw[zs0,G0];(try simp only[ih]);try rfl
variable (f0:Int) (f1 f2:List U8)
def aA:au ((List aN)×Unit):=dw Tryz.prog [.tmp 2] Ip Hr (f0,f1,f2,())
theorem bf:H0 (K0 k0 (aA f0 f1 f2))=A0 f0 f1 f2:=by kernel_rfl
def FF:Option ((List aN)×Unit):=T (G0 k0 (A0 f0 f1 f2) k0) f0 f1 f2
theorem aZ:dA Tryz.prog (aW [(30,[],CS),(114,[],Kw)]) aB k0 82 Ip Hr [] (f0,f1,f2,())=FF k0 f0 f1 f2:=Eq.trans (b:=T (L0 k0 k0 (K0 k0 (aA f0 f1 f2))) f0 f1 f2) (by kernel_rfl) (by rw[FF];(try simp only[aS,bf]);try rfl)
def _root_.Go.Rv.wz:=fun x:U3=>FF (300+x.2.1.length+x.2.2.1.length) x.1 x.2.1 x.2.2.1
abbrev _root_.Go.Rv.Qc:aG:=⟨Ip,Hr,wz,[]⟩
theorem _root_.Go.Rv.YQ:aF Dr Tryz.prog 82 Qc:=dJ mix (.c Jd (.c aak .nil)) (by kernel_rfl) fun x=>⟨aB,_,aZ _ _ _ _⟩
end mV
def KH.T(a b:Int):Option (Int×Unit):=cond (decide (a>b)) (some (a,())) (some (b,()))
def qY:=fun x:aN=>KH.T x.1 x.2.1
abbrev aaJ:aG:=⟨[.v false [CT.int .i64],.v false [CT.int .i64]],[(false,[CT.int .i64])],qY,[]⟩
theorem QW:aF Dr Tryz.prog 55 aaJ:=bC mix .nil (by kernel_rfl) fun x=>by kernel_rfl
abbrev Hy:Is:=[.v false [CT.sl ct0],.v false [CT.int .i64],.v false [CT.int .i64]]
abbrev G7:Os:=[(false,[CT.int .i64])]
namespace mP
def aB:Nat→List Nat×List Nat:=fun k=>if k=5 then([0,1,2,7,8],[7])else([],[])
def zrc{R:Type}(k0:Nat)(p:List Nat):Env→List Ob→au R→Option R:=bJ Tryz.prog (aW [(31,[],wo)]) 43 0 aB k0 (cO p (dI Tryz.prog 95))
def R0{R:Type}(nx0:tX R)(ex0:Y2 R)(list2:List U9)(now2 id2 sum i:Int):Option R:=cond (decide (i<(list2.length:Int))) (if 0≤i∧i<(list2.length:Int)then cond (decide ((rd (0,0,0,()) list2 i).2.2.1>now2)) (if 0≤i∧i<(list2.length:Int)then cond ((rd (0,0,0,()) list2 i).1 != id2) (if 0≤i∧i<(list2.length:Int)then nx0 list2 now2 id2 (af (sum+(rd (0,0,0,()) list2 i).2.1)) (af (i+1))else none) (nx0 list2 now2 id2 sum (af (i+1)))else none) (nx0 list2 now2 id2 sum (af (i+1)))else none) (ex0 sum)
def A0(list:List U9)(now id:Int)(sum:Int):Option (Int×Unit):=some (sum,())
def T(lo0:tX (Int×Unit))(list:List U9)(now id:Int):Option (Int×Unit):=(wu (list,())).bind fun y1=>cond (!y1.1) (some (0,())) (lo0 list now id 0 0)
def K0{R:Type}(k0:Nat)(K:au R):au R:=bF 0 (bI (fun env ob=>zrc k0 [1,1,1,1] env ob (K)) (K))
def L0:tX R:=fun list2 now2 id2 sum i=>iter 0 [0,1,2,7,8] [7] (zrc k0 [1,1,1,0,1,0,0]) k [(0,.sl ct0 list2),(1,.int .i64 now2),(2,.int .i64 id2),(7,.int .i64 sum),(8,.int .i64 i)] [] K
def H0:Y2 R:=fun sum=>K (.exit 0) [(7,.int .i64 sum)] []
theorem zs0:L0 k0 (k+1) K=R0 (L0 k0 k K) (H0 K):=by kernel_rfl
def G0{R:Type}(k0:Nat)(hx0:Y2 R):Nat→tX R
 |0=>fun _ _ _ _ _=>none
 |k+1=>R0 (G0 k0 hx0 k) hx0
theorem aS:∀ k,L0 k0 k K=G0 k0 (H0 K) k:=bP rfl fun k ih=>by rw[zs0,G0];(try simp only[ih]);try rfl
variable (list:List U9) (now id:Int)
def aA:au (Int×Unit):=dw Tryz.prog [.tmp 6] Hy G7 (list,now,id,())
theorem bf:H0 (K0 k0 (aA list now id))=A0 list now id:=by kernel_rfl
def FF:Option (Int×Unit):=T (G0 k0 (A0 list now id) k0) list now id
theorem aZ:dA Tryz.prog (aW [(31,[],wo)]) aB k0 95 Hy G7 [] (list,now,id,())=FF k0 list now id:=Eq.trans (b:=T (L0 k0 k0 (K0 k0 (aA list now id))) list now id) (by kernel_rfl) (by rw[FF];(try simp only[aS,bf]);try rfl)
def _root_.Go.Rv.IU:=fun x:(List U9)×aN=>FF (300+x.1.length) x.1 x.2.1 x.2.2.1
abbrev _root_.Go.Rv.Zc:aG:=⟨Hy,G7,IU,[]⟩
theorem _root_.Go.Rv.YF:aF Dr Tryz.prog 95 Zc:=dJ mix (.c Cb .nil) (by kernel_rfl) fun x=>⟨aB,_,aZ _ _ _ _⟩
end mP
def QS.T(list:List U9)(now id cap:Int):Option (Int×Unit):=(wu (list,())).bind fun y1=>cond (!y1.1) (some (0,())) ((dX (cap,())).bind fun y2=>cond (!y2.1) (some (0,())) ((IU (list,now,id,())).bind fun y3=>(qY (0,(af (cap - y3.1)),())).bind fun y4=>some (y4.1,())))
def CW:=fun x:(List U9)×U9=>QS.T x.1 x.2.1 x.2.2.1 x.2.2.2.1
abbrev Qr:aG:=⟨[.v false [CT.sl ct0],.v false [CT.int .i64],.v false [CT.int .i64],.v false [CT.int .i64]],[(false,[CT.int .i64])],CW,[]⟩
theorem Zk:aF Dr Tryz.prog 84 Qr:=bC mix (.c Cb (.c QW (.c ug (.c YF .nil)))) (by kernel_rfl) fun x=>by kernel_rfl
abbrev Ji:Is:=[.v false [CT.sl ct0],.v true ct0]
abbrev IB:Os:=[(false,[CT.sl ct0])]
namespace kC
def aB:Nat→List Nat×List Nat:=fun k=>if k=9 then([0,3,5,6,7,8],[3,5,6,7])else([],[])
def zrc{R:Type}(k0:Nat)(p:List Nat):Env→List Ob→au R→Option R:=bJ Tryz.prog (aW [(31,[],wo),(67,[],zF)]) 74 0 aB k0 (cO p (dI Tryz.prog 85))
def R0{R:Type}(nx0:FI R)(ex0:OU R)(list2:List U9)(done:Bool)(i l l3 l4:Int)(same out:List U9):Option R:=cond (decide (i<(list2.length:Int))) (cond (!done) (if 0≤i∧i<(list2.length:Int)then cond (decide ((rd (0,0,0,()) list2 i).1≥l)) (if out.length+[(l,l3,l4,())].length≤maxRow then if 0≤i∧i<(list2.length:Int)then cond ((rd (0,0,0,()) list2 i).1 != l) (if 0≤i∧i<(list2.length:Int)then if(out++[(l,l3,l4,())]).length+[((rd (0,0,0,()) list2 i).1,(rd (0,0,0,()) list2 i).2.1,(rd (0,0,0,()) list2 i).2.2.1,())].length≤maxRow then nx0 list2 true (af (i+1)) l l3 l4 same ((out++[(l,l3,l4,())])++[((rd (0,0,0,()) list2 i).1,(rd (0,0,0,()) list2 i).2.1,(rd (0,0,0,()) list2 i).2.2.1,())])else none else none) (nx0 list2 true (af (i+1)) l l3 l4 same (out++[(l,l3,l4,())]))else none else none) (if 0≤i∧i<(list2.length:Int)then cond ((rd (0,0,0,()) list2 i).1 != l) (if 0≤i∧i<(list2.length:Int)then if out.length+[((rd (0,0,0,()) list2 i).1,(rd (0,0,0,()) list2 i).2.1,(rd (0,0,0,()) list2 i).2.2.1,())].length≤maxRow then nx0 list2 done (af (i+1)) l l3 l4 same (out++[((rd (0,0,0,()) list2 i).1,(rd (0,0,0,()) list2 i).2.1,(rd (0,0,0,()) list2 i).2.2.1,())])else none else none) (nx0 list2 done (af (i+1)) l l3 l4 same out)else none)else none) (if 0≤i∧i<(list2.length:Int)then cond ((rd (0,0,0,()) list2 i).1 != l) (if 0≤i∧i<(list2.length:Int)then if out.length+[((rd (0,0,0,()) list2 i).1,(rd (0,0,0,()) list2 i).2.1,(rd (0,0,0,()) list2 i).2.2.1,())].length≤maxRow then nx0 list2 done (af (i+1)) l l3 l4 same (out++[((rd (0,0,0,()) list2 i).1,(rd (0,0,0,()) list2 i).2.1,(rd (0,0,0,()) list2 i).2.2.1,())])else none else none) (nx0 list2 done (af (i+1)) l l3 l4 same out)else none)) (ex0 done l l3 l4 same out)
def A0(list:List U9)(l0 l1 l2:Int)(done:Bool)(l l3 l4:Int)(same out:List U9):Option ((List U9)×Unit):=cond (!done) (if out.length+[(l,l3,l4,())].length≤maxRow then cond (decide (((out++[(l,l3,l4,())]).length:Int)>60)) (some (same,())) (some ((out++[(l,l3,l4,())]),()))else none) (cond (decide ((out.length:Int)>60)) (some (same,())) (some (out,())))
def T(lo0:FI ((List U9)×Unit))(list:List U9)(l0 l1 l2:Int):Option ((List U9)×Unit):=cond (decide ((list.length:Int)>400)) (some (([]:List U9),())) (if([]:List U9).length+list.length≤maxRow then(wu (list,())).bind fun y1=>cond (!y1.1) (some ((([]:List U9)++list),())) ((zG (l0,l1,l2,())).bind fun y2=>cond (!y2.1) (some ((([]:List U9)++list),())) (lo0 list false 0 l0 l1 l2 (([]:List U9)++list) ([]:List U9)))else none)
def K0{R:Type}(k0:Nat)(K:au R):au R:=bF 0 (bI (fun env ob=>zrc k0 [1,1,1,1,1,1,1] env ob (K)) (K))
def L0:FI R:=fun list2 done i l l3 l4 same out=>iter 0 [0,3,5,6,7,8] [3,5,6,7] (zrc k0 [1,1,1,1,1,1,0,1,0,0]) k [(0,.sl ct0 list2),(3,.ptr 0 0 0 0),(5,.own 1),(6,.own 2),(7,.bool done),(8,.int .i64 i)] [.box [.int .i64 l,.int .i64 l3,.int .i64 l4],.arr ct0 same,.arr ct0 out] K
def H0:OU R:=fun done l l3 l4 same out=>K (.exit 0) [(3,.ptr 0 0 0 0),(5,.own 1),(6,.own 2),(7,.bool done)] [.box [.int .i64 l,.int .i64 l3,.int .i64 l4],.arr ct0 same,.arr ct0 out]
theorem zs0:L0 k0 (k+1) K=R0 (L0 k0 k K) (H0 K):=by kernel_rfl
def G0{R:Type}(k0:Nat)(hx0:OU R):Nat→FI R
 |0=>fun _ _ _ _ _ _ _ _=>none
 |k+1=>R0 (G0 k0 hx0 k) hx0
theorem aS:∀ k,L0 k0 k K=G0 k0 (H0 K) k:=bP rfl fun k ih=>by rw[zs0,G0];(try simp only[ih]);try rfl
variable (list:List U9) (l0 l1 l2:Int)
def aA:au ((List U9)×Unit):=dw Tryz.prog [.tmp 4] Ji IB (list,l0,l1,l2,())
theorem bf:H0 (K0 k0 (aA list l0 l1 l2))=A0 list l0 l1 l2:=by kernel_rfl
def FF:Option ((List U9)×Unit):=T (G0 k0 (A0 list l0 l1 l2) k0) list l0 l1 l2
theorem aZ:dA Tryz.prog (aW [(31,[],wo),(67,[],zF)]) aB k0 85 Ji IB [] (list,l0,l1,l2,())=FF k0 list l0 l1 l2:=Eq.trans (b:=T (L0 k0 k0 (K0 k0 (aA list l0 l1 l2))) list l0 l1 l2) (by kernel_rfl) (by rw[FF];(try simp only[aS,bf]);try rfl)
def _root_.Go.Rv.zH:=fun x:(List U9)×U9=>FF (300+x.1.length) x.1 x.2.1 x.2.2.1 x.2.2.2.1
abbrev _root_.Go.Rv.QJ:aG:=⟨Ji,IB,zH,[]⟩
theorem _root_.Go.Rv.ZI:aF Dr Tryz.prog 85 QJ:=dJ mix (.c Cb (.c Qi .nil)) (by kernel_rfl) fun x=>⟨aB,_,aZ _ _ _ _ _⟩
end kC
abbrev JQ:Is:=[.v true jg,.v true fZ]
abbrev Jo:Os:=[(true,Fa)]
namespace jk
def dG:Tb:=[(36,[],JY),(38,[],CQ),(40,[],J3),(42,[],um),(65,[],wH),(82,[],Qc),(83,[],Dw),(84,[],Qr),(85,[],QJ)]
def aB:Nat→List Nat×List Nat:=fun k=>if k=16 then([2,3,4,5,8,9,10],[2,3,4,5,8])else([],[])
def zrc{R:Type}(k0:Nat)(p:List Nat):Env→List Ob→au R→Option R:=bJ Tryz.prog (aW dG) 132 0 aB k0 (cO p (dI Tryz.prog 37))
def R0{R:Type}(nx0:FH R)(ex0:OT R)(share i s s7 s8 s9:Int)(s10 s11:List U8)(s12:List U9)(o o5 o6 o7 o8 t4x t4x2 t4x3 t4x4 t4x5 t4x6 t4x7 out out2 out3 out4:Int)(parts:List aN)(o52 o62:List U8)(o72:List U9):Option R:=cond (decide (i<(parts.length:Int))) (if 0≤i∧i<(parts.length:Int)then cond ((parts.getD i.toNat (0,0,())).1==o5) (if 0≤i∧i<(parts.length:Int)then nx0 ((parts.getD i.toNat (0,0,())).2.1) (af (i+1)) s s7 s8 s9 s10 s11 s12 o o5 o6 o7 o8 t4x t4x2 t4x3 t4x4 t4x5 t4x6 t4x7 out out2 out3 out4 parts o52 o62 o72 else none) (nx0 share (af (i+1)) s s7 s8 s9 s10 s11 s12 o o5 o6 o7 o8 t4x t4x2 t4x3 t4x4 t4x5 t4x6 t4x7 out out2 out3 out4 parts o52 o62 o72)else none) (ex0 share s s7 s8 s9 s10 s11 s12 o o5 o6 o7 o8 t4x t4x2 t4x3 t4x4 t4x5 t4x6 t4x7 out out2 out3 out4 o52 o62 o72)
def A0(s0 s1 s2 s3:Int)(s4 s5:List U8)(s6:List U9)(o0 o1 o2 o3 o4:Int)(share s s7 s8 s9:Int)(s10 s11:List U8)(s12:List U9)(o o5 o6 o7 o8 t4x t4x2 t4x3 t4x4 t4x5 t4x6 t4x7 out out2 out3 out4:Int)(o42 o52:List U8)(o62:List U9):Option (U0):=(CW (s12,s8,o5,s9,())).bind fun y1=>(uD (share,y1.1,())).bind fun y2=>(zH (s12,o5,y2.1,(af (s8+s)),())).bind fun y3=>some (out,out2,out3,out4,o42,o52,y3.1,y2.1,(af (s8+s)),0,())
def T(lo0:FH (U0))(s0 s1 s2 s3:Int)(s4 s5:List U8)(s6:List U9)(o0 o1 o2 o3 o4:Int):Option (U0):=cond (decide (s2<(af (s1+s0)))) ((lX (7,())).bind fun y1=>some (y1.1,y1.2.1,y1.2.2.1,y1.2.2.2.1,y1.2.2.2.2.1,y1.2.2.2.2.2.1,y1.2.2.2.2.2.2.1,y1.2.2.2.2.2.2.2.1,y1.2.2.2.2.2.2.2.2.1,y1.2.2.2.2.2.2.2.2.2.1,())) (cond (o2 != 0) ((jP (s3,s4,s5,o2,())).bind fun y2=>cond (decide (y2.1<0)) ((lX (4,())).bind fun y3=>some (y3.1,y3.2.1,y3.2.2.1,y3.2.2.2.1,y3.2.2.2.2.1,y3.2.2.2.2.2.1,y3.2.2.2.2.2.2.1,y3.2.2.2.2.2.2.2.1,y3.2.2.2.2.2.2.2.2.1,y3.2.2.2.2.2.2.2.2.2.1,())) ((nV (s0,s1,s2,s3,s4,s5,s6,())).bind fun y4=>(qj (s3,s4,s5,o1,())).bind fun y5=>cond (decide (y5.1<0)) ((ku (s3,s4,s5,1,o1,o2,o3,o4,())).bind fun y6=>cond (y6.2.2.2.2.1 != 0) ((lX (y6.2.2.2.2.1,())).bind fun y7=>some (y7.1,y7.2.1,y7.2.2.1,y7.2.2.2.1,y7.2.2.2.2.1,y7.2.2.2.2.2.1,y7.2.2.2.2.2.2.1,y7.2.2.2.2.2.2.2.1,y7.2.2.2.2.2.2.2.2.1,y7.2.2.2.2.2.2.2.2.2.1,())) ((wz (y6.1,y6.2.1,y6.2.2.1,())).bind fun y8=>lo0 0 0 s0 s1 s2 s3 s4 s5 s6 o0 o1 o2 o3 o4 0 0 0 0 0 0 0 y4.1 y4.2.1 y4.2.2.1 y6.1 y8.1 y6.2.1 y6.2.2.1 y4.2.2.2.2.2.2.1)) (if 0≤y5.1∧y5.1<(y4.2.2.2.2.2.1.length:Int)then(wz (y4.2.2.2.1,y4.2.2.2.2.1,(y4.2.2.2.2.2.1.set ((y5.1).toNat) (o1,o2,o3,o4,())),())).bind fun y9=>lo0 0 0 s0 s1 s2 s3 s4 s5 s6 o0 o1 o2 o3 o4 0 0 0 0 0 0 0 y4.1 y4.2.1 y4.2.2.1 y4.2.2.2.1 y9.1 y4.2.2.2.2.1 (y4.2.2.2.2.2.1.set ((y5.1).toNat) (o1,o2,o3,o4,())) y4.2.2.2.2.2.2.1 else none))) ((nV (s0,s1,s2,s3,s4,s5,s6,())).bind fun y10=>(qj (s3,s4,s5,o1,())).bind fun y11=>cond (decide (y11.1<0)) ((ku (s3,s4,s5,1,o1,o2,o3,o4,())).bind fun y12=>cond (y12.2.2.2.2.1 != 0) ((lX (y12.2.2.2.2.1,())).bind fun y13=>some (y13.1,y13.2.1,y13.2.2.1,y13.2.2.2.1,y13.2.2.2.2.1,y13.2.2.2.2.2.1,y13.2.2.2.2.2.2.1,y13.2.2.2.2.2.2.2.1,y13.2.2.2.2.2.2.2.2.1,y13.2.2.2.2.2.2.2.2.2.1,())) ((wz (y12.1,y12.2.1,y12.2.2.1,())).bind fun y14=>lo0 0 0 s0 s1 s2 s3 s4 s5 s6 o0 o1 o2 o3 o4 0 0 0 0 0 0 0 y10.1 y10.2.1 y10.2.2.1 y12.1 y14.1 y12.2.1 y12.2.2.1 y10.2.2.2.2.2.2.1)) (if 0≤y11.1∧y11.1<(y10.2.2.2.2.2.1.length:Int)then(wz (y10.2.2.2.1,y10.2.2.2.2.1,(y10.2.2.2.2.2.1.set ((y11.1).toNat) (o1,o2,o3,o4,())),())).bind fun y15=>lo0 0 0 s0 s1 s2 s3 s4 s5 s6 o0 o1 o2 o3 o4 0 0 0 0 0 0 0 y10.1 y10.2.1 y10.2.2.1 y10.2.2.2.1 y15.1 y10.2.2.2.2.1 (y10.2.2.2.2.2.1.set ((y11.1).toNat) (o1,o2,o3,o4,())) y10.2.2.2.2.2.2.1 else none)))
def K0{R:Type}(k0:Nat)(K:au R):au R:=bF 0 (bI (fun env ob=>zrc k0 [1,1,1,1,1,1,1,1,1] env ob (K)) (K))
def L0:FH R:=fun share i s s7 s8 s9 s10 s11 s12 o o5 o6 o7 o8 t4x t4x2 t4x3 t4x4 t4x5 t4x6 t4x7 out out2 out3 out4 parts o52 o62 o72=>iter 0 [2,3,4,5,8,9,10] [2,3,4,5,8] (zrc k0 [1,1,1,1,1,1,1,1,0,1,0,0]) k [(2,.ptr 0 0 0 0),(3,.ptr 1 0 0 0),(4,.ptr 2 0 0 0),(5,.ptr 3 0 0 0),(8,.int .i64 share),(9,.own 4),(10,.int .i64 i)] [.box [.int .i64 s,.int .i64 s7,.int .i64 s8,.int .i64 s9,.sl aC s10,.sl aC s11,.sl ct0 s12],.box [.int .i64 o,.int .i64 o5,.int .i64 o6,.int .i64 o7,.int .i64 o8],.box [.int .i64 t4x,.int .i64 t4x2,.int .i64 t4x3,.int .i64 t4x4,.nils,.nils,.nils,.int .i64 t4x5,.int .i64 t4x6,.int .i64 t4x7],.box [.int .i64 out,.int .i64 out2,.int .i64 out3,.int .i64 out4,.own 5,.own 6,.own 7],.arr eH parts,.arr aC o52,.arr aC o62,.arr ct0 o72] K
def H0:OT R:=fun share s s7 s8 s9 s10 s11 s12 o o5 o6 o7 o8 t4x t4x2 t4x3 t4x4 t4x5 t4x6 t4x7 out out2 out3 out4 o42 o52 o62=>K (.exit 0) [(2,.ptr 0 0 0 0),(3,.ptr 1 0 0 0),(4,.ptr 2 0 0 0),(5,.ptr 3 0 0 0),(8,.int .i64 share)] [.box [.int .i64 s,.int .i64 s7,.int .i64 s8,.int .i64 s9,.sl aC s10,.sl aC s11,.sl ct0 s12],.box [.int .i64 o,.int .i64 o5,.int .i64 o6,.int .i64 o7,.int .i64 o8],.box [.int .i64 t4x,.int .i64 t4x2,.int .i64 t4x3,.int .i64 t4x4,.nils,.nils,.nils,.int .i64 t4x5,.int .i64 t4x6,.int .i64 t4x7],.box [.int .i64 out,.int .i64 out2,.int .i64 out3,.int .i64 out4,.own 4,.own 5,.own 6],.arr aC o42,.arr aC o52,.arr ct0 o62]
theorem zs0:L0 k0 (k+1) K=R0 (L0 k0 k K) (H0 K):=by kernel_rfl
def G0{R:Type}(k0:Nat)(hx0:OT R):Nat→FH R
 |0=>fun _ _ _ _ _ _ _ _ _ _ _ _ _ _ _ _ _ _ _ _ _ _ _ _ _ _ _ _ _=>none
 |k+1=>R0 (G0 k0 hx0 k) hx0
theorem aS:∀ k,L0 k0 k K=G0 k0 (H0 K) k:=bP rfl fun k ih=>by rw[zs0,G0];(try simp only[ih]);try rfl
variable (s0 s1 s2 s3:Int) (s4 s5:List U8) (s6:List U9) (o0 o1 o2 o3 o4:Int)
def aA:au (U0):=dw Tryz.prog [.cell 4 37] JQ Jo (s0,s1,s2,s3,s4,s5,s6,o0,o1,o2,o3,o4,())
theorem bf:H0 (K0 k0 (aA s0 s1 s2 s3 s4 s5 s6 o0 o1 o2 o3 o4))=A0 s0 s1 s2 s3 s4 s5 s6 o0 o1 o2 o3 o4:=by kernel_rfl
def FF:Option (U0):=T (G0 k0 (A0 s0 s1 s2 s3 s4 s5 s6 o0 o1 o2 o3 o4) k0) s0 s1 s2 s3 s4 s5 s6 o0 o1 o2 o3 o4
theorem aZ:dA Tryz.prog (aW dG) aB k0 37 JQ Jo [] (s0,s1,s2,s3,s4,s5,s6,o0,o1,o2,o3,o4,())=FF k0 s0 s1 s2 s3 s4 s5 s6 o0 o1 o2 o3 o4:=Eq.trans (b:=T (L0 k0 k0 (K0 k0 (aA s0 s1 s2 s3 s4 s5 s6 o0 o1 o2 o3 o4))) s0 s1 s2 s3 s4 s5 s6 o0 o1 o2 o3 o4) (by kernel_rfl) (by rw[FF];(try simp only[aS,bf]);try rfl)
def _root_.Go.Rv.Dx:=fun x:Int×Int×Int×Int×(List U8)×(List U8)×(List U9)×U6=>FF (300+x.2.2.2.2.1.length+x.2.2.2.2.2.1.length+x.2.2.2.2.2.2.1.length) x.1 x.2.1 x.2.2.1 x.2.2.2.1 x.2.2.2.2.1 x.2.2.2.2.2.1 x.2.2.2.2.2.2.1 x.2.2.2.2.2.2.2.1 x.2.2.2.2.2.2.2.2.1 x.2.2.2.2.2.2.2.2.2.1 x.2.2.2.2.2.2.2.2.2.2.1 x.2.2.2.2.2.2.2.2.2.2.2.1
abbrev _root_.Go.Rv.Rq:aG:=⟨JQ,Jo,Dx,[]⟩
theorem _root_.Go.Rv.aai:aF Dr Tryz.prog 37 Rq:=dJ mix (.c Qh (.c Cm (.c Qk (.c zC (.c wE (.c YQ (.c QU (.c Zk (.c ZI .nil))))))))) (by kernel_rfl) fun x=>⟨aB,_,aZ _ _ _ _ _ _ _ _ _ _ _ _ _⟩
end jk
abbrev JU:Is:=[.v false [CT.sl [CT.int .i64]],.v false [CT.int .i64]]
abbrev Jr:Os:=[(false,[CT.bool])]
namespace nX
def aB:Nat→List Nat×List Nat:=fun k=>if k=2 then([0,1,5],[4])else([],[])
def zrc{R:Type}(k0:Nat)(p:List Nat):Env→List Ob→au R→Option R:=bJ Tryz.prog (aW []) 18 0 aB k0 (cO p (dI Tryz.prog 86))
def R0{R:Type}(nx0:FD R)(ex0:jM R)(ex1:eY R)(l2:List (Int×Unit))(n2 i:Int):Option R:=cond (decide (i<(l2.length:Int))) (if 0≤i∧i<(l2.length:Int)then cond ((rd (0,()) l2 i).1==n2) (ex0 true) (nx0 l2 n2 (af (i+1)))else none) (ex1 ())
def A0(l:List (Int×Unit))(n:Int)(t4x:Bool):Option (Bool×Unit):=some (t4x,())
def A1(l:List (Int×Unit))(n:Int)(_u:Unit):Option (Bool×Unit):=some (false,())
def T(lo0:FD (Bool×Unit))(l:List (Int×Unit))(n:Int):Option (Bool×Unit):=lo0 l n 0
def K0{R:Type}(k0:Nat)(K:au R):au R:=bF 0 (bI (fun env ob=>zrc k0 [1,1] env ob (K)) (K))
def L0:FD R:=fun l2 n2 i=>iter 0 [0,1,5] [4] (zrc k0 [1,0,1,0,0]) k [(0,.sl [CT.int .i64] l2),(1,.int .i64 n2),(5,.int .i64 i)] [] K
def H0:jM R:=fun t4x=>K .ret [(4,.bool t4x)] []
def H1:eY R:=fun _=>K (.exit 0) [(4,.undef)] []
theorem zs0:L0 k0 (k+1) K=R0 (L0 k0 k K) (H0 K) (H1 K):=by kernel_rfl
def G0{R:Type}(k0:Nat)(hx0:jM R)(hx1:eY R):Nat→FD R
 |0=>fun _ _ _=>none
 |k+1=>R0 (G0 k0 hx0 hx1 k) hx0 hx1
theorem aS:∀ k,L0 k0 k K=G0 k0 (H0 K) (H1 K) k:=bP rfl fun k ih=>by rw[zs0,G0];(try simp only[ih]);try rfl
variable (l:List (Int×Unit)) (n:Int)
def aA:au (Bool×Unit):=dw Tryz.prog [.tmp 4] JU Jr (l,n,())
theorem bf:H0 (K0 k0 (aA l n))=A0 l n:=by kernel_rfl
theorem dB:H1 (K0 k0 (aA l n))=A1 l n:=by kernel_rfl
def FF:Option (Bool×Unit):=T (G0 k0 (A0 l n) (A1 l n) k0) l n
theorem aZ:dA Tryz.prog (aW []) aB k0 86 JU Jr [] (l,n,())=FF k0 l n:=Eq.trans (b:=T (L0 k0 k0 (K0 k0 (aA l n))) l n) (by kernel_rfl) (by rw[FF];(try simp only[aS,bf,dB]);try rfl)
def _root_.Go.Rv.KA:=fun x:(List (Int×Unit))×Int×Unit=>FF (300+x.1.length) x.1 x.2.1
abbrev _root_.Go.Rv.Ky:aG:=⟨JU,Jr,KA,[]⟩
theorem _root_.Go.Rv.aal:aF Dr Tryz.prog 86 Ky:=dJ mix .nil (by kernel_rfl) fun x=>⟨aB,_,aZ _ _ _⟩
end nX
abbrev Io:Is:=[.v true jg,.v false [CT.sl [CT.int .i64]]]
abbrev Hq:Os:=[(true,jg)]
namespace oQ
def aB:Nat→List Nat×List Nat:=fun k=>if k=5 then([1,2,4,5,6],[4,5])else([],[])
def zrc{R:Type}(k0:Nat)(p:List Nat):Env→List Ob→au R→Option R:=bJ Tryz.prog (aW [(42,[],um),(86,[],Ky)]) 54 0 aB k0 (cO p (dI Tryz.prog 39))
def R0{R:Type}(nx0:FC R)(ex0:OQ R)(gone2:List (Int×Unit))(i s s7 s8 s9:Int)(s10 s11:List U8)(s12:List U9)(t4x t4x2 t4x3 t4x4 out out2 out3 out4:Int)(o3 o4:List U8)(o5:List U9):Option R:=cond (decide (i<(s12.length:Int))) (if 0≤i∧i<(s12.length:Int)then(KA (gone2,(rd (0,0,0,()) s12 i).1,())).bind fun y1=>cond (!y1.1) (if 0≤i∧i<(s12.length:Int)then if o5.length+[((rd (0,0,0,()) s12 i).1,(rd (0,0,0,()) s12 i).2.1,(rd (0,0,0,()) s12 i).2.2.1,())].length≤maxRow then if 0≤i∧i<(s11.length:Int)then if o4.length+[((rd (0,0,0,0,()) s11 i).1,(rd (0,0,0,0,()) s11 i).2.1,(rd (0,0,0,0,()) s11 i).2.2.1,(rd (0,0,0,0,()) s11 i).2.2.2.1,())].length≤maxRow then nx0 gone2 (af (i+1)) s s7 s8 s9 s10 s11 s12 t4x t4x2 t4x3 t4x4 out out2 out3 out4 o3 (o4++[((rd (0,0,0,0,()) s11 i).1,(rd (0,0,0,0,()) s11 i).2.1,(rd (0,0,0,0,()) s11 i).2.2.1,(rd (0,0,0,0,()) s11 i).2.2.2.1,())]) (o5++[((rd (0,0,0,()) s12 i).1,(rd (0,0,0,()) s12 i).2.1,(rd (0,0,0,()) s12 i).2.2.1,())])else none else none else none else none) (nx0 gone2 (af (i+1)) s s7 s8 s9 s10 s11 s12 t4x t4x2 t4x3 t4x4 out out2 out3 out4 o3 o4 o5)else none) (ex0 t4x t4x2 t4x3 t4x4 out out2 out3 out4 o3 o4 o5)
def A0(s0 s1 s2 s3:Int)(s4 s5:List U8)(s6:List U9)(gone:List (Int×Unit))(t4x t4x2 t4x3 t4x4 out out2 out3 out4:Int)(o2 o3:List U8)(o4:List U9):Option (U1):=some (out,out2,out3,out4,o2,o3,o4,())
def T(lo0:FC (U1))(s0 s1 s2 s3:Int)(s4 s5:List U8)(s6:List U9)(gone:List (Int×Unit)):Option (U1):=(nV (s0,s1,s2,s3,s4,s5,s6,())).bind fun y1=>lo0 gone 0 s0 s1 s2 s3 s4 s5 s6 0 0 0 0 y1.1 y1.2.1 y1.2.2.1 y1.2.2.2.1 y1.2.2.2.2.1 ([]:List U8) ([]:List U9)
def K0{R:Type}(k0:Nat)(K:au R):au R:=bF 0 (bI (fun env ob=>zrc k0 [1,1,1,1,1] env ob (K)) (K))
def L0:FC R:=fun gone2 i s s7 s8 s9 s10 s11 s12 t4x t4x2 t4x3 t4x4 out out2 out3 out4 o3 o4 o5=>iter 0 [1,2,4,5,6] [4,5] (zrc k0 [1,1,1,1,0,1,0,0]) k [(1,.sl [CT.int .i64] gone2),(2,.ptr 0 0 0 0),(4,.ptr 1 0 0 0),(5,.ptr 2 0 0 0),(6,.int .i64 i)] [.box [.int .i64 s,.int .i64 s7,.int .i64 s8,.int .i64 s9,.sl aC s10,.sl aC s11,.sl ct0 s12],.box [.int .i64 t4x,.int .i64 t4x2,.int .i64 t4x3,.int .i64 t4x4,.nils,.nils,.nils],.box [.int .i64 out,.int .i64 out2,.int .i64 out3,.int .i64 out4,.own 3,.own 4,.own 5],.arr aC o3,.arr aC o4,.arr ct0 o5] K
def H0:OQ R:=fun t4x t4x2 t4x3 t4x4 out out2 out3 out4 o2 o3 o4=>K (.exit 0) [(4,.ptr 0 0 0 0),(5,.ptr 1 0 0 0)] [.box [.int .i64 t4x,.int .i64 t4x2,.int .i64 t4x3,.int .i64 t4x4,.nils,.nils,.nils],.box [.int .i64 out,.int .i64 out2,.int .i64 out3,.int .i64 out4,.own 2,.own 3,.own 4],.arr aC o2,.arr aC o3,.arr ct0 o4]
theorem zs0:L0 k0 (k+1) K=R0 (L0 k0 k K) (H0 K):=by kernel_rfl
def G0{R:Type}(k0:Nat)(hx0:OQ R):Nat→FC R
 |0=>fun _ _ _ _ _ _ _ _ _ _ _ _ _ _ _ _ _ _ _ _=>none
 |k+1=>R0 (G0 k0 hx0 k) hx0
theorem aS:∀ k,L0 k0 k K=G0 k0 (H0 K) k:=bP rfl fun k ih=>by rw[zs0,G0];(try simp only[ih]);try rfl
variable (s0 s1 s2 s3:Int) (s4 s5:List U8) (s6:List U9) (gone:List (Int×Unit))
def aA:au (U1):=dw Tryz.prog [.cell 4 29] Io Hq (s0,s1,s2,s3,s4,s5,s6,gone,())
theorem bf:H0 (K0 k0 (aA s0 s1 s2 s3 s4 s5 s6 gone))=A0 s0 s1 s2 s3 s4 s5 s6 gone:=by kernel_rfl
def FF:Option (U1):=T (G0 k0 (A0 s0 s1 s2 s3 s4 s5 s6 gone) k0) s0 s1 s2 s3 s4 s5 s6 gone
theorem aZ:dA Tryz.prog (aW [(42,[],um),(86,[],Ky)]) aB k0 39 Io Hq [] (s0,s1,s2,s3,s4,s5,s6,gone,())=FF k0 s0 s1 s2 s3 s4 s5 s6 gone:=Eq.trans (b:=T (L0 k0 k0 (K0 k0 (aA s0 s1 s2 s3 s4 s5 s6 gone))) s0 s1 s2 s3 s4 s5 s6 gone) (by kernel_rfl) (by rw[FF];(try simp only[aS,bf]);try rfl)
def _root_.Go.Rv.zl:=fun x:Int×Int×Int×Int×(List U8)×(List U8)×(List U9)×(List (Int×Unit))×Unit=>FF (300+x.2.2.2.2.1.length+x.2.2.2.2.2.1.length+x.2.2.2.2.2.2.1.length+x.2.2.2.2.2.2.2.1.length) x.1 x.2.1 x.2.2.1 x.2.2.2.1 x.2.2.2.2.1 x.2.2.2.2.2.1 x.2.2.2.2.2.2.1 x.2.2.2.2.2.2.2.1
abbrev _root_.Go.Rv.Qa:aG:=⟨Io,Hq,zl,[]⟩
theorem _root_.Go.Rv.YP:aF Dr Tryz.prog 39 Qa:=dJ mix (.c zC (.c aal .nil)) (by kernel_rfl) fun x=>⟨aB,_,aZ _ _ _ _ _ _ _ _ _⟩
end oQ
abbrev Jh:Is:=[.v true jg,.v true fZ]
abbrev IA:Os:=[(true,Fa)]
namespace gK
def dG:Tb:=[(8,[],PU),(35,[],RX),(36,[],JY),(37,[],Rq),(38,[],CQ),(39,[],Qa),(40,[],J3),(41,[],QZ),(42,[],um)]
def aB:Nat→List Nat×List Nat:=fun k=>if k=15 then([2,4,5,6],[2,4,5])else if k=24 then([2,4,5,8],[2,4,5])else([],[])
def zrc{R:Type}(k0:Nat)(p:List Nat):Env→List Ob→au R→Option R:=bJ Tryz.prog (aW dG) 129 0 aB k0 (cO p (dI Tryz.prog 11))
def R0{R:Type}(nx0:vJ R)(ex0:yO R)(i s s7 s8 s9:Int)(s10 s11:List U8)(s12:List U9)(t4x t4x2 t4x3 t4x4 t4x5 t4x6 t4x7:Int)(gone:List (Int×Unit)):Option R:=cond (decide (i<(s12.length:Int))) (if 0≤i∧i<(s12.length:Int)then cond (decide ((rd (0,0,0,()) s12 i).2.2.1≤(af (s8+1)))) (if 0≤i∧i<(s12.length:Int)then if gone.length+[((rd (0,0,0,()) s12 i).1,())].length≤maxRow then nx0 (af (i+1)) s s7 s8 s9 s10 s11 s12 t4x t4x2 t4x3 t4x4 t4x5 t4x6 t4x7 (gone++[((rd (0,0,0,()) s12 i).1,())])else none else none) (nx0 (af (i+1)) s s7 s8 s9 s10 s11 s12 t4x t4x2 t4x3 t4x4 t4x5 t4x6 t4x7 gone)else none) (ex0 s s7 s8 s9 s10 s11 s12 t4x t4x2 t4x3 t4x4 t4x5 t4x6 t4x7 gone)
def R1{R:Type}(nx1:vJ R)(ex1:yO R)(i s s7 s8 s9:Int)(s10 s11:List U8)(s12:List U9)(t4x t4x2 t4x3 t4x4 t4x5 t4x6 t4x7:Int)(gone:List (Int×Unit)):Option R:=cond (decide (i<(s12.length:Int))) (if 0≤i∧i<(s12.length:Int)then if gone.length+[((rd (0,0,0,()) s12 i).1,())].length≤maxRow then nx1 (af (i+1)) s s7 s8 s9 s10 s11 s12 t4x t4x2 t4x3 t4x4 t4x5 t4x6 t4x7 (gone++[((rd (0,0,0,()) s12 i).1,())])else none else none) (ex1 s s7 s8 s9 s10 s11 s12 t4x t4x2 t4x3 t4x4 t4x5 t4x6 t4x7 gone)
def A0(s0 s1 s2 s3:Int)(s4 s5:List U8)(s6:List U9)(o0 o1 o2 o3 o4:Int)(s s7 s8 s9:Int)(s10 s11:List U8)(s12:List U9)(t4x t4x2 t4x3 t4x4 t4x5 t4x6 t4x7:Int)(gone:List (Int×Unit)):Option (U0):=(zl (s,s7,s8,s9,s10,s11,s12,gone,())).bind fun y1=>some (y1.1,y1.2.1,(af (s8+1)),y1.2.2.2.1,y1.2.2.2.2.1,y1.2.2.2.2.2.1,y1.2.2.2.2.2.2.1,0,0,0,())
def A1(s0 s1 s2 s3:Int)(s4 s5:List U8)(s6:List U9)(o0 o1 o2 o3 o4:Int)(s s7 s8 s9:Int)(s10 s11:List U8)(s12:List U9)(t4x t4x2 t4x3 t4x4 t4x5 t4x6 t4x7:Int)(gone:List (Int×Unit)):Option (U0):=(zl (s,s7,s8,s9,s10,s11,s12,gone,())).bind fun y1=>some (y1.1,s8,y1.2.2.1,y1.2.2.2.1,y1.2.2.2.2.1,y1.2.2.2.2.2.1,y1.2.2.2.2.2.2.1,0,0,0,())
def T(lo0 lo1:vJ (U0))(s0 s1 s2 s3:Int)(s4 s5:List U8)(s6:List U9)(o0 o1 o2 o3 o4:Int):Option (U0):=(zk (s0,s1,s2,s3,s4,s5,s6,())).bind fun y1=>cond (!y1.1) ((lX (1,())).bind fun y2=>some (y2.1,y2.2.1,y2.2.2.1,y2.2.2.2.1,y2.2.2.2.2.1,y2.2.2.2.2.2.1,y2.2.2.2.2.2.2.1,y2.2.2.2.2.2.2.2.1,y2.2.2.2.2.2.2.2.2.1,y2.2.2.2.2.2.2.2.2.2.1,())) ((DJ (o0,o1,o2,o3,o4,())).bind fun y3=>cond (!y3.1) ((lX (1,())).bind fun y4=>some (y4.1,y4.2.1,y4.2.2.1,y4.2.2.2.1,y4.2.2.2.2.1,y4.2.2.2.2.2.1,y4.2.2.2.2.2.2.1,y4.2.2.2.2.2.2.2.1,y4.2.2.2.2.2.2.2.2.1,y4.2.2.2.2.2.2.2.2.2.1,())) (cond (o0==1) ((Dx (s0,s1,s2,s3,s4,s5,s6,o0,o1,o2,o3,o4,())).bind fun y5=>some (y5.1,y5.2.1,y5.2.2.1,y5.2.2.2.1,y5.2.2.2.2.1,y5.2.2.2.2.2.1,y5.2.2.2.2.2.2.1,y5.2.2.2.2.2.2.2.1,y5.2.2.2.2.2.2.2.2.1,y5.2.2.2.2.2.2.2.2.2.1,())) (cond (o0==2) ((qj (s3,s4,s5,o1,())).bind fun y6=>cond (decide (y6.1<0)) ((lX (4,())).bind fun y7=>some (y7.1,y7.2.1,y7.2.2.1,y7.2.2.2.1,y7.2.2.2.2.1,y7.2.2.2.2.2.1,y7.2.2.2.2.2.2.1,y7.2.2.2.2.2.2.2.1,y7.2.2.2.2.2.2.2.2.1,y7.2.2.2.2.2.2.2.2.2.1,())) ((zl (s0,s1,s2,s3,s4,s5,s6,[(o1,())],())).bind fun y8=>some (y8.1,y8.2.1,y8.2.2.1,y8.2.2.2.1,y8.2.2.2.2.1,y8.2.2.2.2.2.1,y8.2.2.2.2.2.2.1,0,0,0,()))) (cond (o0==4) (cond (s2==999000) ((lX (9,())).bind fun y9=>some (y9.1,y9.2.1,y9.2.2.1,y9.2.2.2.1,y9.2.2.2.2.1,y9.2.2.2.2.2.1,y9.2.2.2.2.2.2.1,y9.2.2.2.2.2.2.2.1,y9.2.2.2.2.2.2.2.2.1,y9.2.2.2.2.2.2.2.2.2.1,())) (lo0 0 s0 s1 s2 s3 s4 s5 s6 0 0 0 0 0 0 0 ([]:List (Int×Unit)))) (cond (o0==5) (lo1 0 s0 s1 s2 s3 s4 s5 s6 0 0 0 0 0 0 0 ([]:List (Int×Unit))) ((oV (o0,o1,o2,o3,o4,())).bind fun y10=>(ku (s3,s4,s5,y10.1,y10.2.1,y10.2.2.1,y10.2.2.2.1,y10.2.2.2.2.1,())).bind fun y11=>cond (y11.2.2.2.2.1 != 0) ((lX (y11.2.2.2.2.1,())).bind fun y12=>some (y12.1,y12.2.1,y12.2.2.1,y12.2.2.2.1,y12.2.2.2.2.1,y12.2.2.2.2.2.1,y12.2.2.2.2.2.2.1,y12.2.2.2.2.2.2.2.1,y12.2.2.2.2.2.2.2.2.1,y12.2.2.2.2.2.2.2.2.2.1,())) ((nV (s0,s1,s2,s3,s4,s5,s6,())).bind fun y13=>some (y13.1,y13.2.1,y13.2.2.1,y11.1,y11.2.1,y11.2.2.1,y13.2.2.2.2.2.2.1,0,0,0,()))))))))
def K0{R:Type}(k0:Nat)(K:au R):au R:=bF 1 (bI (fun env ob=>zrc k0 [1,1,1,0,1,0,1,1,1,1,1,0,1,1] env ob (bF 0 (bI (fun env ob=>zrc k0 [1,1,1,1] env ob (K)) (K)))) (bF 0 (bI (fun env ob=>zrc k0 [1,1,1,1] env ob (K)) (K))))
def K1{R:Type}(k0:Nat)(K:au R):au R:=bF 3 (bI (fun env ob=>zrc k0 [1,1,1,0,1,0,1,1,1,1,1,1,1,0,1] env ob (bF 0 (bI (fun env ob=>zrc k0 [1,1,1,1] env ob (K)) (K)))) (bF 0 (bI (fun env ob=>zrc k0 [1,1,1,1] env ob (K)) (K))))
def L0:vJ R:=fun i s s7 s8 s9 s10 s11 s12 t4x t4x2 t4x3 t4x4 t4x5 t4x6 t4x7 gone=>iter 0 [2,4,5,6] [2,4,5] (zrc k0 [1,1,1,0,1,0,1,1,1,1,1,0,1,0,1,0,0]) k [(2,.ptr 0 0 0 0),(4,.ptr 1 0 0 0),(5,.own 2),(6,.int .i64 i)] [.box [.int .i64 s,.int .i64 s7,.int .i64 s8,.int .i64 s9,.sl aC s10,.sl aC s11,.sl ct0 s12],.box [.int .i64 t4x,.int .i64 t4x2,.int .i64 t4x3,.int .i64 t4x4,.nils,.nils,.nils,.int .i64 t4x5,.int .i64 t4x6,.int .i64 t4x7],.arr [CT.int .i64] gone] K
def L1:vJ R:=fun i s s7 s8 s9 s10 s11 s12 t4x t4x2 t4x3 t4x4 t4x5 t4x6 t4x7 gone=>iter 0 [2,4,5,8] [2,4,5] (zrc k0 [1,1,1,0,1,0,1,1,1,1,1,1,1,0,0,1,0,0]) k [(2,.ptr 0 0 0 0),(4,.ptr 1 0 0 0),(5,.own 2),(8,.int .i64 i)] [.box [.int .i64 s,.int .i64 s7,.int .i64 s8,.int .i64 s9,.sl aC s10,.sl aC s11,.sl ct0 s12],.box [.int .i64 t4x,.int .i64 t4x2,.int .i64 t4x3,.int .i64 t4x4,.nils,.nils,.nils,.int .i64 t4x5,.int .i64 t4x6,.int .i64 t4x7],.arr [CT.int .i64] gone] K
def H0:yO R:=fun s s7 s8 s9 s10 s11 s12 t4x t4x2 t4x3 t4x4 t4x5 t4x6 t4x7 gone=>K (.exit 1) [(2,.ptr 0 0 0 0),(4,.ptr 1 0 0 0),(5,.own 2)] [.box [.int .i64 s,.int .i64 s7,.int .i64 s8,.int .i64 s9,.sl aC s10,.sl aC s11,.sl ct0 s12],.box [.int .i64 t4x,.int .i64 t4x2,.int .i64 t4x3,.int .i64 t4x4,.nils,.nils,.nils,.int .i64 t4x5,.int .i64 t4x6,.int .i64 t4x7],.arr [CT.int .i64] gone]
def H1:yO R:=fun s s7 s8 s9 s10 s11 s12 t4x t4x2 t4x3 t4x4 t4x5 t4x6 t4x7 gone=>K (.exit 3) [(2,.ptr 0 0 0 0),(4,.ptr 1 0 0 0),(5,.own 2)] [.box [.int .i64 s,.int .i64 s7,.int .i64 s8,.int .i64 s9,.sl aC s10,.sl aC s11,.sl ct0 s12],.box [.int .i64 t4x,.int .i64 t4x2,.int .i64 t4x3,.int .i64 t4x4,.nils,.nils,.nils,.int .i64 t4x5,.int .i64 t4x6,.int .i64 t4x7],.arr [CT.int .i64] gone]
theorem zs0:L0 k0 (k+1) K=R0 (L0 k0 k K) (H0 K):=by kernel_rfl
theorem zs1:L1 k0 (k+1) K=R1 (L1 k0 k K) (H1 K):=by kernel_rfl
def G0{R:Type}(k0:Nat)(hx0:yO R):Nat→vJ R
 |0=>fun _ _ _ _ _ _ _ _ _ _ _ _ _ _ _ _=>none
 |k+1=>R0 (G0 k0 hx0 k) hx0
theorem aS:∀ k,L0 k0 k K=G0 k0 (H0 K) k:=bP rfl fun k ih=>by rw[zs0,G0];(try simp only[ih]);try rfl
def G1{R:Type}(k0:Nat)(hx1:yO R):Nat→vJ R
 |0=>fun _ _ _ _ _ _ _ _ _ _ _ _ _ _ _ _=>none
 |k+1=>R1 (G1 k0 hx1 k) hx1
theorem dP:∀ k,L1 k0 k K=G1 k0 (H1 K) k:=bP rfl fun k ih=>by rw[zs1,G1];(try simp only[ih,aS]);try rfl
variable (s0 s1 s2 s3:Int) (s4 s5:List U8) (s6:List U9) (o0 o1 o2 o3 o4:Int)
def aA:au (U0):=dw Tryz.prog [.cell 4 37] Jh IA (s0,s1,s2,s3,s4,s5,s6,o0,o1,o2,o3,o4,())
theorem bf:H0 (K0 k0 (aA s0 s1 s2 s3 s4 s5 s6 o0 o1 o2 o3 o4))=A0 s0 s1 s2 s3 s4 s5 s6 o0 o1 o2 o3 o4:=by kernel_rfl
theorem dB:H1 (K1 k0 (aA s0 s1 s2 s3 s4 s5 s6 o0 o1 o2 o3 o4))=A1 s0 s1 s2 s3 s4 s5 s6 o0 o1 o2 o3 o4:=by kernel_rfl
def FF:Option (U0):=T (G0 k0 (A0 s0 s1 s2 s3 s4 s5 s6 o0 o1 o2 o3 o4) k0) (G1 k0 (A1 s0 s1 s2 s3 s4 s5 s6 o0 o1 o2 o3 o4) k0) s0 s1 s2 s3 s4 s5 s6 o0 o1 o2 o3 o4
theorem aZ:dA Tryz.prog (aW dG) aB k0 11 Jh IA [] (s0,s1,s2,s3,s4,s5,s6,o0,o1,o2,o3,o4,())=FF k0 s0 s1 s2 s3 s4 s5 s6 o0 o1 o2 o3 o4:=Eq.trans (b:=T (L0 k0 k0 (K0 k0 (aA s0 s1 s2 s3 s4 s5 s6 o0 o1 o2 o3 o4))) (L1 k0 k0 (K1 k0 (aA s0 s1 s2 s3 s4 s5 s6 o0 o1 o2 o3 o4))) s0 s1 s2 s3 s4 s5 s6 o0 o1 o2 o3 o4) (by kernel_rfl) (by rw[FF];(try simp only[aS,dP,bf,dB]);try rfl)
def _root_.Go.Rv.jZ:=fun x:Int×Int×Int×Int×(List U8)×(List U8)×(List U9)×U6=>FF (300+x.2.2.2.2.1.length+x.2.2.2.2.2.1.length+x.2.2.2.2.2.2.1.length) x.1 x.2.1 x.2.2.1 x.2.2.2.1 x.2.2.2.2.1 x.2.2.2.2.2.1 x.2.2.2.2.2.2.1 x.2.2.2.2.2.2.2.1 x.2.2.2.2.2.2.2.2.1 x.2.2.2.2.2.2.2.2.2.1 x.2.2.2.2.2.2.2.2.2.2.1 x.2.2.2.2.2.2.2.2.2.2.2.1
abbrev _root_.Go.Rv.wI:aG:=⟨Jh,IA,jZ,[]⟩
theorem _root_.Go.Rv.Jt:aF Dr Tryz.prog 11 wI:=dJ mix (.c Il (.c aaF (.c Qh (.c aai (.c Cm (.c YP (.c Qk (.c Qy (.c zC .nil))))))))) (by kernel_rfl) fun x=>⟨aB,_,aZ _ _ _ _ _ _ _ _ _ _ _ _ _⟩
end gK
def Rk.T(s0:List (Int×Unit))(s1 s2 s3 most:Int):Option (Int×U5):=cond (decide (most≤1)) (some (0,s0,s1,s2,s3,())) (cond (decide (s1<(s0.length:Int))) (if 0≤s1∧s1<(s0.length:Int)then if(IntKind.u64.wrap (most))=0 then none else some ((af ((Int.tmod (IntKind.u64.wrap ((IntKind.u64.wrap ((rd (0,()) s0 s1).1))+(Int.fdiv (IntKind.u64.wrap (((BitVec.ofInt 64 (IntKind.u64.wrap (((BitVec.ofInt 64 (IntKind.u64.wrap (((BitVec.ofInt 64 s2) ^^^ (BitVec.ofInt 64 (IntKind.u64.wrap (s2*2 ^ (min ((13:Int)).toNat 64))))).toNat))) ^^^ (BitVec.ofInt 64 (Int.fdiv (IntKind.u64.wrap (((BitVec.ofInt 64 s2) ^^^ (BitVec.ofInt 64 (IntKind.u64.wrap (s2*2 ^ (min ((13:Int)).toNat 64))))).toNat)) (2 ^ 7)))).toNat))) ^^^ (BitVec.ofInt 64 (IntKind.u64.wrap ((IntKind.u64.wrap (((BitVec.ofInt 64 (IntKind.u64.wrap (((BitVec.ofInt 64 s2) ^^^ (BitVec.ofInt 64 (IntKind.u64.wrap (s2*2 ^ (min ((13:Int)).toNat 64))))).toNat))) ^^^ (BitVec.ofInt 64 (Int.fdiv (IntKind.u64.wrap (((BitVec.ofInt 64 s2) ^^^ (BitVec.ofInt 64 (IntKind.u64.wrap (s2*2 ^ (min ((13:Int)).toNat 64))))).toNat)) (2 ^ 7)))).toNat))*2 ^ (min ((17:Int)).toNat 64))))).toNat)) (2 ^ 20)))) (IntKind.u64.wrap (most))))),s0,(af (s1+1)),(IntKind.u64.wrap (((BitVec.ofInt 64 (IntKind.u64.wrap (((BitVec.ofInt 64 (IntKind.u64.wrap (((BitVec.ofInt 64 s2) ^^^ (BitVec.ofInt 64 (IntKind.u64.wrap (s2*2 ^ (min ((13:Int)).toNat 64))))).toNat))) ^^^ (BitVec.ofInt 64 (Int.fdiv (IntKind.u64.wrap (((BitVec.ofInt 64 s2) ^^^ (BitVec.ofInt 64 (IntKind.u64.wrap (s2*2 ^ (min ((13:Int)).toNat 64))))).toNat)) (2 ^ 7)))).toNat))) ^^^ (BitVec.ofInt 64 (IntKind.u64.wrap ((IntKind.u64.wrap (((BitVec.ofInt 64 (IntKind.u64.wrap (((BitVec.ofInt 64 s2) ^^^ (BitVec.ofInt 64 (IntKind.u64.wrap (s2*2 ^ (min ((13:Int)).toNat 64))))).toNat))) ^^^ (BitVec.ofInt 64 (Int.fdiv (IntKind.u64.wrap (((BitVec.ofInt 64 s2) ^^^ (BitVec.ofInt 64 (IntKind.u64.wrap (s2*2 ^ (min ((13:Int)).toNat 64))))).toNat)) (2 ^ 7)))).toNat))*2 ^ (min ((17:Int)).toNat 64))))).toNat)),s3,())else none) (if(IntKind.u64.wrap (most))=0 then none else some ((af ((Int.tmod (IntKind.u64.wrap (0+(Int.fdiv (IntKind.u64.wrap (((BitVec.ofInt 64 (IntKind.u64.wrap (((BitVec.ofInt 64 (IntKind.u64.wrap (((BitVec.ofInt 64 s2) ^^^ (BitVec.ofInt 64 (IntKind.u64.wrap (s2*2 ^ (min ((13:Int)).toNat 64))))).toNat))) ^^^ (BitVec.ofInt 64 (Int.fdiv (IntKind.u64.wrap (((BitVec.ofInt 64 s2) ^^^ (BitVec.ofInt 64 (IntKind.u64.wrap (s2*2 ^ (min ((13:Int)).toNat 64))))).toNat)) (2 ^ 7)))).toNat))) ^^^ (BitVec.ofInt 64 (IntKind.u64.wrap ((IntKind.u64.wrap (((BitVec.ofInt 64 (IntKind.u64.wrap (((BitVec.ofInt 64 s2) ^^^ (BitVec.ofInt 64 (IntKind.u64.wrap (s2*2 ^ (min ((13:Int)).toNat 64))))).toNat))) ^^^ (BitVec.ofInt 64 (Int.fdiv (IntKind.u64.wrap (((BitVec.ofInt 64 s2) ^^^ (BitVec.ofInt 64 (IntKind.u64.wrap (s2*2 ^ (min ((13:Int)).toNat 64))))).toNat)) (2 ^ 7)))).toNat))*2 ^ (min ((17:Int)).toNat 64))))).toNat)) (2 ^ 20)))) (IntKind.u64.wrap (most))))),s0,s1,(IntKind.u64.wrap (((BitVec.ofInt 64 (IntKind.u64.wrap (((BitVec.ofInt 64 (IntKind.u64.wrap (((BitVec.ofInt 64 s2) ^^^ (BitVec.ofInt 64 (IntKind.u64.wrap (s2*2 ^ (min ((13:Int)).toNat 64))))).toNat))) ^^^ (BitVec.ofInt 64 (Int.fdiv (IntKind.u64.wrap (((BitVec.ofInt 64 s2) ^^^ (BitVec.ofInt 64 (IntKind.u64.wrap (s2*2 ^ (min ((13:Int)).toNat 64))))).toNat)) (2 ^ 7)))).toNat))) ^^^ (BitVec.ofInt 64 (IntKind.u64.wrap ((IntKind.u64.wrap (((BitVec.ofInt 64 (IntKind.u64.wrap (((BitVec.ofInt 64 s2) ^^^ (BitVec.ofInt 64 (IntKind.u64.wrap (s2*2 ^ (min ((13:Int)).toNat 64))))).toNat))) ^^^ (BitVec.ofInt 64 (Int.fdiv (IntKind.u64.wrap (((BitVec.ofInt 64 s2) ^^^ (BitVec.ofInt 64 (IntKind.u64.wrap (s2*2 ^ (min ((13:Int)).toNat 64))))).toNat)) (2 ^ 7)))).toNat))*2 ^ (min ((17:Int)).toNat 64))))).toNat)),s3,())))
def aT:=fun x:(List (Int×Unit))×U8=>Rk.T x.1 x.2.1 x.2.2.1 x.2.2.2.1 x.2.2.2.2.1
abbrev QH:aG:=⟨[.m qV,.v false [CT.int .i64]],[(false,[CT.int .i64])],aT,[]⟩
theorem wF:aF Dr Tryz.prog 50 QH:=bC mix .nil (by kernel_rfl) fun x=>by kernel_rfl
def Qw.T(s0:List (Int×Unit))(s1 s2 s3 of:Int):Option (Bool×U5):=(aT (s0,s1,s2,s3,of,())).bind fun y1=>some ((y1.1==0),y1.2.1,y1.2.2.1,y1.2.2.2.1,y1.2.2.2.2.1,())
def fB:=fun x:(List (Int×Unit))×U8=>Qw.T x.1 x.2.1 x.2.2.1 x.2.2.2.1 x.2.2.2.2.1
abbrev Qb:aG:=⟨[.m qV,.v false [CT.int .i64]],[(false,[CT.bool])],fB,[]⟩
theorem PL:aF Dr Tryz.prog 48 Qb:=bC mix (.c wF .nil) (by kernel_rfl) fun x=>by kernel_rfl
def Px.T(s0:List (Int×Unit))(s1 s2 s3:Int):Option (Int×U5):=(aT (s0,s1,s2,s3,12,())).bind fun y1=>cond (y1.1==0) (some (0,y1.2.1,y1.2.2.1,y1.2.2.2.1,y1.2.2.2.2.1,())) (cond (y1.1==1) ((aT (y1.2.1,y1.2.2.1,y1.2.2.2.1,y1.2.2.2.2.1,1125899906842624,())).bind fun y2=>some (y2.1,y2.2.1,y2.2.2.1,y2.2.2.2.1,y2.2.2.2.2.1,())) (cond (y1.1==2) (some (1125899906842624,y1.2.1,y1.2.2.1,y1.2.2.2.1,y1.2.2.2.2.1,())) ((aT (y1.2.1,y1.2.2.1,y1.2.2.2.1,y1.2.2.2.2.1,60,())).bind fun y3=>some (y3.1,y3.2.1,y3.2.2.1,y3.2.2.2.1,y3.2.2.2.2.1,()))))
def vY:=fun x:U5=>Px.T x.1 x.2.1 x.2.2.1 x.2.2.2.1
abbrev Yp:aG:=⟨[.m qV],[(false,[CT.int .i64])],vY,[]⟩
theorem Yn:aF Dr Tryz.prog 60 Yp:=bC mix (.c wF .nil) (by kernel_rfl) fun x=>by kernel_rfl
def Pv.T(s0:List (Int×Unit))(s1 s2 s3:Int):Option (Int×U5):=(aT (s0,s1,s2,s3,14,())).bind fun y1=>cond (y1.1==0) ((aT (y1.2.1,y1.2.2.1,y1.2.2.2.1,y1.2.2.2.2.1,1073741824,())).bind fun y2=>some ((af (1+y2.1)),y2.2.1,y2.2.2.1,y2.2.2.2.1,y2.2.2.2.2.1,())) (cond (y1.1==1) (some (1073741824,y1.2.1,y1.2.2.1,y1.2.2.2.1,y1.2.2.2.2.1,())) ((aT (y1.2.1,y1.2.2.1,y1.2.2.2.1,y1.2.2.2.2.1,6,())).bind fun y3=>some ((af (1+y3.1)),y3.2.1,y3.2.2.1,y3.2.2.2.1,y3.2.2.2.2.1,())))
def vX:=fun x:U5=>Pv.T x.1 x.2.1 x.2.2.1 x.2.2.2.1
abbrev Yl:aG:=⟨[.m qV],[(false,[CT.int .i64])],vX,[]⟩
theorem Yk:aF Dr Tryz.prog 61 Yl:=bC mix (.c wF .nil) (by kernel_rfl) fun x=>by kernel_rfl
def Qe.T(s0:List (Int×Unit))(s1 s2 s3:Int):Option (Int×U5):=(aT (s0,s1,s2,s3,14,())).bind fun y1=>if 0≤y1.1∧y1.1<([(0,()),(1,()),((-1),()),(2,()),(1000,()),(1001,()),(2147483648,()),(2147483647,()),((-2147483648),()),(4611686018427387904,()),(9223372036854775807,()),((-9223372036854775808),()),(1000000,()),(1000001,())].length:Int)then some (([(0,()),(1,()),((-1),()),(2,()),(1000,()),(1001,()),(2147483648,()),(2147483647,()),((-2147483648),()),(4611686018427387904,()),(9223372036854775807,()),((-9223372036854775808),()),(1000000,()),(1000001,())].getD ((y1.1).toNat) (0,())).1,y1.2.1,y1.2.2.1,y1.2.2.2.1,y1.2.2.2.2.1,())else none
def bT:=fun x:U5=>Qe.T x.1 x.2.1 x.2.2.1 x.2.2.2.1
abbrev Zb:aG:=⟨[.m qV],[(false,[CT.int .i64])],bT,[]⟩
theorem YE:aF Dr Tryz.prog 62 Zb:=bC mix (.c wF .nil) (by kernel_rfl) fun x=>by kernel_rfl
def PY.T(s0:List (Int×Unit))(s1 s2 s3 x0 x1 x2 x3:Int)(x4 x5:List U8)(x6:List U9):Option (Int×Int×Int×Int×Int×U5):=(aT (s0,s1,s2,s3,8,())).bind fun y1=>(aT (y1.2.1,y1.2.2.1,y1.2.2.2.1,y1.2.2.2.2.1,80,())).bind fun y2=>(aT (y2.2.1,y2.2.2.1,y2.2.2.2.1,y2.2.2.2.2.1,5,())).bind fun y3=>cond (decide ((x4.length:Int)>0)) ((fB (y3.2.1,y3.2.2.1,y3.2.2.2.1,y3.2.2.2.2.1,2,())).bind fun y4=>cond y4.1 ((aT (y4.2.1,y4.2.2.1,y4.2.2.2.1,y4.2.2.2.2.1,(x4.length:Int),())).bind fun y5=>if 0≤y5.1∧y5.1<(x4.length:Int)then(aT (y5.2.1,y5.2.2.1,y5.2.2.2.1,y5.2.2.2.2.1,16,())).bind fun y6=>cond (y6.1==0) (some (4,0,0,0,0,y6.2.1,y6.2.2.1,y6.2.2.2.1,y6.2.2.2.2.1,())) (cond (y6.1==1) (some (4,0,0,0,0,y6.2.1,y6.2.2.1,y6.2.2.2.1,y6.2.2.2.2.1,())) (cond (y6.1==2) (some (4,0,0,0,0,y6.2.1,y6.2.2.1,y6.2.2.2.1,y6.2.2.2.2.1,())) (cond (y6.1==3) (some (4,0,0,0,0,y6.2.1,y6.2.2.1,y6.2.2.2.1,y6.2.2.2.2.1,())) (cond (y6.1==4) ((aT (y6.2.1,y6.2.2.1,y6.2.2.2.1,y6.2.2.2.2.1,8,())).bind fun y7=>(fB (y7.2.1,y7.2.2.1,y7.2.2.2.1,y7.2.2.2.2.1,60,())).bind fun y8=>cond y8.1 ((aT (y8.2.1,y8.2.2.1,y8.2.2.2.1,y8.2.2.2.2.1,5,())).bind fun y9=>cond (y9.1==0) ((aT (y9.2.1,y9.2.2.1,y9.2.2.2.1,y9.2.2.2.2.1,9,())).bind fun y10=>some (y10.1,(af (1+y7.1)),0,0,0,y10.2.1,y10.2.2.1,y10.2.2.2.1,y10.2.2.2.2.1,())) (cond (y9.1==1) ((bT (y9.2.1,y9.2.2.1,y9.2.2.2.1,y9.2.2.2.2.1,())).bind fun y11=>some (2,y11.1,0,0,0,y11.2.1,y11.2.2.1,y11.2.2.2.1,y11.2.2.2.2.1,())) (cond (y9.1==2) ((bT (y9.2.1,y9.2.2.1,y9.2.2.2.1,y9.2.2.2.2.1,())).bind fun y12=>some (2,(af (1+y7.1)),0,y12.1,0,y12.2.1,y12.2.2.1,y12.2.2.2.1,y12.2.2.2.2.1,())) (cond (y9.1==3) ((bT (y9.2.1,y9.2.2.1,y9.2.2.2.1,y9.2.2.2.2.1,())).bind fun y13=>some (2,(af (1+y7.1)),0,0,y13.1,y13.2.1,y13.2.2.1,y13.2.2.2.1,y13.2.2.2.2.1,())) ((aT (y9.2.1,y9.2.2.1,y9.2.2.2.1,y9.2.2.2.2.1,9,())).bind fun y14=>some (2,(af (1+y7.1)),y14.1,0,0,y14.2.1,y14.2.2.1,y14.2.2.2.1,y14.2.2.2.2.1,())))))) (some (2,(af (1+y7.1)),0,0,0,y8.2.1,y8.2.2.1,y8.2.2.2.1,y8.2.2.2.2.1,()))) (cond (y6.1==5) ((aT (y6.2.1,y6.2.2.1,y6.2.2.2.1,y6.2.2.2.2.1,200,())).bind fun y15=>(fB (y15.2.1,y15.2.2.1,y15.2.2.2.1,y15.2.2.2.2.1,60,())).bind fun y16=>cond y16.1 ((aT (y16.2.1,y16.2.2.1,y16.2.2.2.1,y16.2.2.2.2.1,5,())).bind fun y17=>cond (y17.1==0) ((aT (y17.2.1,y17.2.2.1,y17.2.2.2.1,y17.2.2.2.2.1,9,())).bind fun y18=>some (y18.1,(rd (0,0,0,0,()) x4 y5.1).1,0,y15.1,0,y18.2.1,y18.2.2.1,y18.2.2.2.1,y18.2.2.2.2.1,())) (cond (y17.1==1) ((bT (y17.2.1,y17.2.2.1,y17.2.2.2.1,y17.2.2.2.2.1,())).bind fun y19=>some (3,y19.1,0,y15.1,0,y19.2.1,y19.2.2.1,y19.2.2.2.1,y19.2.2.2.2.1,())) (cond (y17.1==2) ((bT (y17.2.1,y17.2.2.1,y17.2.2.2.1,y17.2.2.2.2.1,())).bind fun y20=>some (3,(rd (0,0,0,0,()) x4 y5.1).1,0,y20.1,0,y20.2.1,y20.2.2.1,y20.2.2.2.1,y20.2.2.2.2.1,())) (cond (y17.1==3) ((bT (y17.2.1,y17.2.2.1,y17.2.2.2.1,y17.2.2.2.2.1,())).bind fun y21=>some (3,(rd (0,0,0,0,()) x4 y5.1).1,0,y15.1,y21.1,y21.2.1,y21.2.2.1,y21.2.2.2.1,y21.2.2.2.2.1,())) ((aT (y17.2.1,y17.2.2.1,y17.2.2.2.1,y17.2.2.2.2.1,9,())).bind fun y22=>some (3,(rd (0,0,0,0,()) x4 y5.1).1,y22.1,y15.1,0,y22.2.1,y22.2.2.1,y22.2.2.2.1,y22.2.2.2.2.1,())))))) (some (3,(rd (0,0,0,0,()) x4 y5.1).1,0,y15.1,0,y16.2.1,y16.2.2.1,y16.2.2.2.1,y16.2.2.2.2.1,()))) (cond (y6.1==6) ((aT (y6.2.1,y6.2.2.1,y6.2.2.2.1,y6.2.2.2.2.1,4,())).bind fun y23=>(aT (y23.2.1,y23.2.2.1,y23.2.2.2.1,y23.2.2.2.2.1,150,())).bind fun y24=>(aT (y24.2.1,y24.2.2.1,y24.2.2.2.1,y24.2.2.2.2.1,4,())).bind fun y25=>(fB (y25.2.1,y25.2.2.1,y25.2.2.2.1,y25.2.2.2.2.1,60,())).bind fun y26=>cond y26.1 ((aT (y26.2.1,y26.2.2.1,y26.2.2.2.1,y26.2.2.2.2.1,5,())).bind fun y27=>cond (y27.1==0) ((aT (y27.2.1,y27.2.2.1,y27.2.2.2.1,y27.2.2.2.2.1,9,())).bind fun y28=>some (y28.1,(af ((af ((rd (0,0,0,0,()) x4 y5.1).1+1))+y23.1)),(rd (0,0,0,0,()) x4 y5.1).1,y24.1,(af (1+y25.1)),y28.2.1,y28.2.2.1,y28.2.2.2.1,y28.2.2.2.2.1,())) (cond (y27.1==1) ((bT (y27.2.1,y27.2.2.1,y27.2.2.2.1,y27.2.2.2.2.1,())).bind fun y29=>some (6,y29.1,(rd (0,0,0,0,()) x4 y5.1).1,y24.1,(af (1+y25.1)),y29.2.1,y29.2.2.1,y29.2.2.2.1,y29.2.2.2.2.1,())) (cond (y27.1==2) ((bT (y27.2.1,y27.2.2.1,y27.2.2.2.1,y27.2.2.2.2.1,())).bind fun y30=>some (6,(af ((af ((rd (0,0,0,0,()) x4 y5.1).1+1))+y23.1)),(rd (0,0,0,0,()) x4 y5.1).1,y30.1,(af (1+y25.1)),y30.2.1,y30.2.2.1,y30.2.2.2.1,y30.2.2.2.2.1,())) (cond (y27.1==3) ((bT (y27.2.1,y27.2.2.1,y27.2.2.2.1,y27.2.2.2.2.1,())).bind fun y31=>some (6,(af ((af ((rd (0,0,0,0,()) x4 y5.1).1+1))+y23.1)),(rd (0,0,0,0,()) x4 y5.1).1,y24.1,y31.1,y31.2.1,y31.2.2.1,y31.2.2.2.1,y31.2.2.2.2.1,())) ((aT (y27.2.1,y27.2.2.1,y27.2.2.2.1,y27.2.2.2.2.1,9,())).bind fun y32=>some (6,(af ((af ((rd (0,0,0,0,()) x4 y5.1).1+1))+y23.1)),y32.1,y24.1,(af (1+y25.1)),y32.2.1,y32.2.2.1,y32.2.2.2.1,y32.2.2.2.2.1,())))))) (some (6,(af ((af ((rd (0,0,0,0,()) x4 y5.1).1+1))+y23.1)),(rd (0,0,0,0,()) x4 y5.1).1,y24.1,(af (1+y25.1)),y26.2.1,y26.2.2.1,y26.2.2.2.1,y26.2.2.2.2.1,()))) (cond (y6.1==7) ((qY (1,(rd (0,0,0,0,()) x4 y5.1).1,())).bind fun y33=>(fB (y6.2.1,y6.2.2.1,y6.2.2.2.1,y6.2.2.2.2.1,60,())).bind fun y34=>cond y34.1 ((aT (y34.2.1,y34.2.2.1,y34.2.2.2.1,y34.2.2.2.2.1,5,())).bind fun y35=>cond (y35.1==0) ((aT (y35.2.1,y35.2.2.1,y35.2.2.2.1,y35.2.2.2.2.1,9,())).bind fun y36=>some (y36.1,y33.1,0,0,0,y36.2.1,y36.2.2.1,y36.2.2.2.1,y36.2.2.2.2.1,())) (cond (y35.1==1) ((bT (y35.2.1,y35.2.2.1,y35.2.2.2.1,y35.2.2.2.2.1,())).bind fun y37=>some (7,y37.1,0,0,0,y37.2.1,y37.2.2.1,y37.2.2.2.1,y37.2.2.2.2.1,())) (cond (y35.1==2) ((bT (y35.2.1,y35.2.2.1,y35.2.2.2.1,y35.2.2.2.2.1,())).bind fun y38=>some (7,y33.1,0,y38.1,0,y38.2.1,y38.2.2.1,y38.2.2.2.1,y38.2.2.2.2.1,())) (cond (y35.1==3) ((bT (y35.2.1,y35.2.2.1,y35.2.2.2.1,y35.2.2.2.2.1,())).bind fun y39=>some (7,y33.1,0,0,y39.1,y39.2.1,y39.2.2.1,y39.2.2.2.1,y39.2.2.2.2.1,())) ((aT (y35.2.1,y35.2.2.1,y35.2.2.2.1,y35.2.2.2.2.1,9,())).bind fun y40=>some (7,y33.1,y40.1,0,0,y40.2.1,y40.2.2.1,y40.2.2.2.1,y40.2.2.2.2.1,())))))) (some (7,y33.1,0,0,0,y34.2.1,y34.2.2.1,y34.2.2.2.1,y34.2.2.2.2.1,()))) (cond (y6.1==8) ((fB (y6.2.1,y6.2.2.1,y6.2.2.2.1,y6.2.2.2.2.1,3,())).bind fun y41=>cond y41.1 (some (5,0,0,0,0,y41.2.1,y41.2.2.1,y41.2.2.2.1,y41.2.2.2.2.1,())) ((fB (y41.2.1,y41.2.2.1,y41.2.2.2.1,y41.2.2.2.2.1,60,())).bind fun y42=>cond y42.1 ((aT (y42.2.1,y42.2.2.1,y42.2.2.2.1,y42.2.2.2.2.1,5,())).bind fun y43=>cond (y43.1==0) ((aT (y43.2.1,y43.2.2.1,y43.2.2.2.1,y43.2.2.2.2.1,9,())).bind fun y44=>some (y44.1,(af (1+y1.1)),0,y2.1,(af (1+y3.1)),y44.2.1,y44.2.2.1,y44.2.2.2.1,y44.2.2.2.2.1,())) (cond (y43.1==1) ((bT (y43.2.1,y43.2.2.1,y43.2.2.2.1,y43.2.2.2.2.1,())).bind fun y45=>some (1,y45.1,0,y2.1,(af (1+y3.1)),y45.2.1,y45.2.2.1,y45.2.2.2.1,y45.2.2.2.2.1,())) (cond (y43.1==2) ((bT (y43.2.1,y43.2.2.1,y43.2.2.2.1,y43.2.2.2.2.1,())).bind fun y46=>some (1,(af (1+y1.1)),0,y46.1,(af (1+y3.1)),y46.2.1,y46.2.2.1,y46.2.2.2.1,y46.2.2.2.2.1,())) (cond (y43.1==3) ((bT (y43.2.1,y43.2.2.1,y43.2.2.2.1,y43.2.2.2.2.1,())).bind fun y47=>some (1,(af (1+y1.1)),0,y2.1,y47.1,y47.2.1,y47.2.2.1,y47.2.2.2.1,y47.2.2.2.2.1,())) ((aT (y43.2.1,y43.2.2.1,y43.2.2.2.1,y43.2.2.2.2.1,9,())).bind fun y48=>some (1,(af (1+y1.1)),y48.1,y2.1,(af (1+y3.1)),y48.2.1,y48.2.2.1,y48.2.2.2.1,y48.2.2.2.2.1,())))))) (some (1,(af (1+y1.1)),0,y2.1,(af (1+y3.1)),y42.2.1,y42.2.2.1,y42.2.2.2.1,y42.2.2.2.2.1,())))) ((fB (y6.2.1,y6.2.2.1,y6.2.2.2.1,y6.2.2.2.2.1,8,())).bind fun y49=>cond y49.1 ((vY (y49.2.1,y49.2.2.1,y49.2.2.2.1,y49.2.2.2.2.1,())).bind fun y50=>(vX (y50.2.1,y50.2.2.1,y50.2.2.2.1,y50.2.2.2.2.1,())).bind fun y51=>(fB (y51.2.1,y51.2.2.1,y51.2.2.2.1,y51.2.2.2.2.1,60,())).bind fun y52=>cond y52.1 ((aT (y52.2.1,y52.2.2.1,y52.2.2.2.1,y52.2.2.2.2.1,5,())).bind fun y53=>cond (y53.1==0) ((aT (y53.2.1,y53.2.2.1,y53.2.2.2.1,y53.2.2.2.2.1,9,())).bind fun y54=>some (y54.1,(af (1+y1.1)),(rd (0,0,0,0,()) x4 y5.1).1,y50.1,y51.1,y54.2.1,y54.2.2.1,y54.2.2.2.1,y54.2.2.2.2.1,())) (cond (y53.1==1) ((bT (y53.2.1,y53.2.2.1,y53.2.2.2.1,y53.2.2.2.2.1,())).bind fun y55=>some (1,y55.1,(rd (0,0,0,0,()) x4 y5.1).1,y50.1,y51.1,y55.2.1,y55.2.2.1,y55.2.2.2.1,y55.2.2.2.2.1,())) (cond (y53.1==2) ((bT (y53.2.1,y53.2.2.1,y53.2.2.2.1,y53.2.2.2.2.1,())).bind fun y56=>some (1,(af (1+y1.1)),(rd (0,0,0,0,()) x4 y5.1).1,y56.1,y51.1,y56.2.1,y56.2.2.1,y56.2.2.2.1,y56.2.2.2.2.1,())) (cond (y53.1==3) ((bT (y53.2.1,y53.2.2.1,y53.2.2.2.1,y53.2.2.2.2.1,())).bind fun y57=>some (1,(af (1+y1.1)),(rd (0,0,0,0,()) x4 y5.1).1,y50.1,y57.1,y57.2.1,y57.2.2.1,y57.2.2.2.1,y57.2.2.2.2.1,())) ((aT (y53.2.1,y53.2.2.1,y53.2.2.2.1,y53.2.2.2.2.1,9,())).bind fun y58=>some (1,(af (1+y1.1)),y58.1,y50.1,y51.1,y58.2.1,y58.2.2.1,y58.2.2.2.1,y58.2.2.2.2.1,())))))) (some (1,(af (1+y1.1)),(rd (0,0,0,0,()) x4 y5.1).1,y50.1,y51.1,y52.2.1,y52.2.2.1,y52.2.2.2.1,y52.2.2.2.2.1,()))) ((fB (y49.2.1,y49.2.2.1,y49.2.2.2.1,y49.2.2.2.2.1,60,())).bind fun y59=>cond y59.1 ((aT (y59.2.1,y59.2.2.1,y59.2.2.2.1,y59.2.2.2.2.1,5,())).bind fun y60=>cond (y60.1==0) ((aT (y60.2.1,y60.2.2.1,y60.2.2.2.1,y60.2.2.2.2.1,9,())).bind fun y61=>some (y61.1,(af (1+y1.1)),(rd (0,0,0,0,()) x4 y5.1).1,y2.1,(af (1+y3.1)),y61.2.1,y61.2.2.1,y61.2.2.2.1,y61.2.2.2.2.1,())) (cond (y60.1==1) ((bT (y60.2.1,y60.2.2.1,y60.2.2.2.1,y60.2.2.2.2.1,())).bind fun y62=>some (1,y62.1,(rd (0,0,0,0,()) x4 y5.1).1,y2.1,(af (1+y3.1)),y62.2.1,y62.2.2.1,y62.2.2.2.1,y62.2.2.2.2.1,())) (cond (y60.1==2) ((bT (y60.2.1,y60.2.2.1,y60.2.2.2.1,y60.2.2.2.2.1,())).bind fun y63=>some (1,(af (1+y1.1)),(rd (0,0,0,0,()) x4 y5.1).1,y63.1,(af (1+y3.1)),y63.2.1,y63.2.2.1,y63.2.2.2.1,y63.2.2.2.2.1,())) (cond (y60.1==3) ((bT (y60.2.1,y60.2.2.1,y60.2.2.2.1,y60.2.2.2.2.1,())).bind fun y64=>some (1,(af (1+y1.1)),(rd (0,0,0,0,()) x4 y5.1).1,y2.1,y64.1,y64.2.1,y64.2.2.1,y64.2.2.2.1,y64.2.2.2.2.1,())) ((aT (y60.2.1,y60.2.2.1,y60.2.2.2.1,y60.2.2.2.2.1,9,())).bind fun y65=>some (1,(af (1+y1.1)),y65.1,y2.1,(af (1+y3.1)),y65.2.1,y65.2.2.1,y65.2.2.2.1,y65.2.2.2.2.1,())))))) (some (1,(af (1+y1.1)),(rd (0,0,0,0,()) x4 y5.1).1,y2.1,(af (1+y3.1)),y59.2.1,y59.2.2.1,y59.2.2.2.1,y59.2.2.2.2.1,()))))))))))))else none) ((aT (y4.2.1,y4.2.2.1,y4.2.2.2.1,y4.2.2.2.2.1,16,())).bind fun y66=>cond (y66.1==0) (some (4,0,0,0,0,y66.2.1,y66.2.2.1,y66.2.2.2.1,y66.2.2.2.2.1,())) (cond (y66.1==1) (some (4,0,0,0,0,y66.2.1,y66.2.2.1,y66.2.2.2.1,y66.2.2.2.2.1,())) (cond (y66.1==2) (some (4,0,0,0,0,y66.2.1,y66.2.2.1,y66.2.2.2.1,y66.2.2.2.2.1,())) (cond (y66.1==3) (some (4,0,0,0,0,y66.2.1,y66.2.2.1,y66.2.2.2.1,y66.2.2.2.2.1,())) (cond (y66.1==4) ((aT (y66.2.1,y66.2.2.1,y66.2.2.2.1,y66.2.2.2.2.1,8,())).bind fun y67=>(fB (y67.2.1,y67.2.2.1,y67.2.2.2.1,y67.2.2.2.2.1,60,())).bind fun y68=>cond y68.1 ((aT (y68.2.1,y68.2.2.1,y68.2.2.2.1,y68.2.2.2.2.1,5,())).bind fun y69=>cond (y69.1==0) ((aT (y69.2.1,y69.2.2.1,y69.2.2.2.1,y69.2.2.2.2.1,9,())).bind fun y70=>some (y70.1,(af (1+y67.1)),0,0,0,y70.2.1,y70.2.2.1,y70.2.2.2.1,y70.2.2.2.2.1,())) (cond (y69.1==1) ((bT (y69.2.1,y69.2.2.1,y69.2.2.2.1,y69.2.2.2.2.1,())).bind fun y71=>some (2,y71.1,0,0,0,y71.2.1,y71.2.2.1,y71.2.2.2.1,y71.2.2.2.2.1,())) (cond (y69.1==2) ((bT (y69.2.1,y69.2.2.1,y69.2.2.2.1,y69.2.2.2.2.1,())).bind fun y72=>some (2,(af (1+y67.1)),0,y72.1,0,y72.2.1,y72.2.2.1,y72.2.2.2.1,y72.2.2.2.2.1,())) (cond (y69.1==3) ((bT (y69.2.1,y69.2.2.1,y69.2.2.2.1,y69.2.2.2.2.1,())).bind fun y73=>some (2,(af (1+y67.1)),0,0,y73.1,y73.2.1,y73.2.2.1,y73.2.2.2.1,y73.2.2.2.2.1,())) ((aT (y69.2.1,y69.2.2.1,y69.2.2.2.1,y69.2.2.2.2.1,9,())).bind fun y74=>some (2,(af (1+y67.1)),y74.1,0,0,y74.2.1,y74.2.2.1,y74.2.2.2.1,y74.2.2.2.2.1,())))))) (some (2,(af (1+y67.1)),0,0,0,y68.2.1,y68.2.2.1,y68.2.2.2.1,y68.2.2.2.2.1,()))) (cond (y66.1==5) ((aT (y66.2.1,y66.2.2.1,y66.2.2.2.1,y66.2.2.2.2.1,200,())).bind fun y75=>(fB (y75.2.1,y75.2.2.1,y75.2.2.2.1,y75.2.2.2.2.1,60,())).bind fun y76=>cond y76.1 ((aT (y76.2.1,y76.2.2.1,y76.2.2.2.1,y76.2.2.2.2.1,5,())).bind fun y77=>cond (y77.1==0) ((aT (y77.2.1,y77.2.2.1,y77.2.2.2.1,y77.2.2.2.2.1,9,())).bind fun y78=>some (y78.1,0,0,y75.1,0,y78.2.1,y78.2.2.1,y78.2.2.2.1,y78.2.2.2.2.1,())) (cond (y77.1==1) ((bT (y77.2.1,y77.2.2.1,y77.2.2.2.1,y77.2.2.2.2.1,())).bind fun y79=>some (3,y79.1,0,y75.1,0,y79.2.1,y79.2.2.1,y79.2.2.2.1,y79.2.2.2.2.1,())) (cond (y77.1==2) ((bT (y77.2.1,y77.2.2.1,y77.2.2.2.1,y77.2.2.2.2.1,())).bind fun y80=>some (3,0,0,y80.1,0,y80.2.1,y80.2.2.1,y80.2.2.2.1,y80.2.2.2.2.1,())) (cond (y77.1==3) ((bT (y77.2.1,y77.2.2.1,y77.2.2.2.1,y77.2.2.2.2.1,())).bind fun y81=>some (3,0,0,y75.1,y81.1,y81.2.1,y81.2.2.1,y81.2.2.2.1,y81.2.2.2.2.1,())) ((aT (y77.2.1,y77.2.2.1,y77.2.2.2.1,y77.2.2.2.2.1,9,())).bind fun y82=>some (3,0,y82.1,y75.1,0,y82.2.1,y82.2.2.1,y82.2.2.2.1,y82.2.2.2.2.1,())))))) (some (3,0,0,y75.1,0,y76.2.1,y76.2.2.1,y76.2.2.2.1,y76.2.2.2.2.1,()))) (cond (y66.1==6) ((aT (y66.2.1,y66.2.2.1,y66.2.2.2.1,y66.2.2.2.2.1,4,())).bind fun y83=>(aT (y83.2.1,y83.2.2.1,y83.2.2.2.1,y83.2.2.2.2.1,150,())).bind fun y84=>(aT (y84.2.1,y84.2.2.1,y84.2.2.2.1,y84.2.2.2.2.1,4,())).bind fun y85=>(fB (y85.2.1,y85.2.2.1,y85.2.2.2.1,y85.2.2.2.2.1,60,())).bind fun y86=>cond y86.1 ((aT (y86.2.1,y86.2.2.1,y86.2.2.2.1,y86.2.2.2.2.1,5,())).bind fun y87=>cond (y87.1==0) ((aT (y87.2.1,y87.2.2.1,y87.2.2.2.1,y87.2.2.2.2.1,9,())).bind fun y88=>some (y88.1,(af ((af (0+1))+y83.1)),0,y84.1,(af (1+y85.1)),y88.2.1,y88.2.2.1,y88.2.2.2.1,y88.2.2.2.2.1,())) (cond (y87.1==1) ((bT (y87.2.1,y87.2.2.1,y87.2.2.2.1,y87.2.2.2.2.1,())).bind fun y89=>some (6,y89.1,0,y84.1,(af (1+y85.1)),y89.2.1,y89.2.2.1,y89.2.2.2.1,y89.2.2.2.2.1,())) (cond (y87.1==2) ((bT (y87.2.1,y87.2.2.1,y87.2.2.2.1,y87.2.2.2.2.1,())).bind fun y90=>some (6,(af ((af (0+1))+y83.1)),0,y90.1,(af (1+y85.1)),y90.2.1,y90.2.2.1,y90.2.2.2.1,y90.2.2.2.2.1,())) (cond (y87.1==3) ((bT (y87.2.1,y87.2.2.1,y87.2.2.2.1,y87.2.2.2.2.1,())).bind fun y91=>some (6,(af ((af (0+1))+y83.1)),0,y84.1,y91.1,y91.2.1,y91.2.2.1,y91.2.2.2.1,y91.2.2.2.2.1,())) ((aT (y87.2.1,y87.2.2.1,y87.2.2.2.1,y87.2.2.2.2.1,9,())).bind fun y92=>some (6,(af ((af (0+1))+y83.1)),y92.1,y84.1,(af (1+y85.1)),y92.2.1,y92.2.2.1,y92.2.2.2.1,y92.2.2.2.2.1,())))))) (some (6,(af ((af (0+1))+y83.1)),0,y84.1,(af (1+y85.1)),y86.2.1,y86.2.2.1,y86.2.2.2.1,y86.2.2.2.2.1,()))) (cond (y66.1==7) ((qY (1,0,())).bind fun y93=>(fB (y66.2.1,y66.2.2.1,y66.2.2.2.1,y66.2.2.2.2.1,60,())).bind fun y94=>cond y94.1 ((aT (y94.2.1,y94.2.2.1,y94.2.2.2.1,y94.2.2.2.2.1,5,())).bind fun y95=>cond (y95.1==0) ((aT (y95.2.1,y95.2.2.1,y95.2.2.2.1,y95.2.2.2.2.1,9,())).bind fun y96=>some (y96.1,y93.1,0,0,0,y96.2.1,y96.2.2.1,y96.2.2.2.1,y96.2.2.2.2.1,())) (cond (y95.1==1) ((bT (y95.2.1,y95.2.2.1,y95.2.2.2.1,y95.2.2.2.2.1,())).bind fun y97=>some (7,y97.1,0,0,0,y97.2.1,y97.2.2.1,y97.2.2.2.1,y97.2.2.2.2.1,())) (cond (y95.1==2) ((bT (y95.2.1,y95.2.2.1,y95.2.2.2.1,y95.2.2.2.2.1,())).bind fun y98=>some (7,y93.1,0,y98.1,0,y98.2.1,y98.2.2.1,y98.2.2.2.1,y98.2.2.2.2.1,())) (cond (y95.1==3) ((bT (y95.2.1,y95.2.2.1,y95.2.2.2.1,y95.2.2.2.2.1,())).bind fun y99=>some (7,y93.1,0,0,y99.1,y99.2.1,y99.2.2.1,y99.2.2.2.1,y99.2.2.2.2.1,())) ((aT (y95.2.1,y95.2.2.1,y95.2.2.2.1,y95.2.2.2.2.1,9,())).bind fun y100=>some (7,y93.1,y100.1,0,0,y100.2.1,y100.2.2.1,y100.2.2.2.1,y100.2.2.2.2.1,())))))) (some (7,y93.1,0,0,0,y94.2.1,y94.2.2.1,y94.2.2.2.1,y94.2.2.2.2.1,()))) (cond (y66.1==8) ((fB (y66.2.1,y66.2.2.1,y66.2.2.2.1,y66.2.2.2.2.1,3,())).bind fun y101=>cond y101.1 (some (5,0,0,0,0,y101.2.1,y101.2.2.1,y101.2.2.2.1,y101.2.2.2.2.1,())) ((fB (y101.2.1,y101.2.2.1,y101.2.2.2.1,y101.2.2.2.2.1,60,())).bind fun y102=>cond y102.1 ((aT (y102.2.1,y102.2.2.1,y102.2.2.2.1,y102.2.2.2.2.1,5,())).bind fun y103=>cond (y103.1==0) ((aT (y103.2.1,y103.2.2.1,y103.2.2.2.1,y103.2.2.2.2.1,9,())).bind fun y104=>some (y104.1,(af (1+y1.1)),0,y2.1,(af (1+y3.1)),y104.2.1,y104.2.2.1,y104.2.2.2.1,y104.2.2.2.2.1,())) (cond (y103.1==1) ((bT (y103.2.1,y103.2.2.1,y103.2.2.2.1,y103.2.2.2.2.1,())).bind fun y105=>some (1,y105.1,0,y2.1,(af (1+y3.1)),y105.2.1,y105.2.2.1,y105.2.2.2.1,y105.2.2.2.2.1,())) (cond (y103.1==2) ((bT (y103.2.1,y103.2.2.1,y103.2.2.2.1,y103.2.2.2.2.1,())).bind fun y106=>some (1,(af (1+y1.1)),0,y106.1,(af (1+y3.1)),y106.2.1,y106.2.2.1,y106.2.2.2.1,y106.2.2.2.2.1,())) (cond (y103.1==3) ((bT (y103.2.1,y103.2.2.1,y103.2.2.2.1,y103.2.2.2.2.1,())).bind fun y107=>some (1,(af (1+y1.1)),0,y2.1,y107.1,y107.2.1,y107.2.2.1,y107.2.2.2.1,y107.2.2.2.2.1,())) ((aT (y103.2.1,y103.2.2.1,y103.2.2.2.1,y103.2.2.2.2.1,9,())).bind fun y108=>some (1,(af (1+y1.1)),y108.1,y2.1,(af (1+y3.1)),y108.2.1,y108.2.2.1,y108.2.2.2.1,y108.2.2.2.2.1,())))))) (some (1,(af (1+y1.1)),0,y2.1,(af (1+y3.1)),y102.2.1,y102.2.2.1,y102.2.2.2.1,y102.2.2.2.2.1,())))) ((fB (y66.2.1,y66.2.2.1,y66.2.2.2.1,y66.2.2.2.2.1,8,())).bind fun y109=>cond y109.1 ((vY (y109.2.1,y109.2.2.1,y109.2.2.2.1,y109.2.2.2.2.1,())).bind fun y110=>(vX (y110.2.1,y110.2.2.1,y110.2.2.2.1,y110.2.2.2.2.1,())).bind fun y111=>(fB (y111.2.1,y111.2.2.1,y111.2.2.2.1,y111.2.2.2.2.1,60,())).bind fun y112=>cond y112.1 ((aT (y112.2.1,y112.2.2.1,y112.2.2.2.1,y112.2.2.2.2.1,5,())).bind fun y113=>cond (y113.1==0) ((aT (y113.2.1,y113.2.2.1,y113.2.2.2.1,y113.2.2.2.2.1,9,())).bind fun y114=>some (y114.1,(af (1+y1.1)),0,y110.1,y111.1,y114.2.1,y114.2.2.1,y114.2.2.2.1,y114.2.2.2.2.1,())) (cond (y113.1==1) ((bT (y113.2.1,y113.2.2.1,y113.2.2.2.1,y113.2.2.2.2.1,())).bind fun y115=>some (1,y115.1,0,y110.1,y111.1,y115.2.1,y115.2.2.1,y115.2.2.2.1,y115.2.2.2.2.1,())) (cond (y113.1==2) ((bT (y113.2.1,y113.2.2.1,y113.2.2.2.1,y113.2.2.2.2.1,())).bind fun y116=>some (1,(af (1+y1.1)),0,y116.1,y111.1,y116.2.1,y116.2.2.1,y116.2.2.2.1,y116.2.2.2.2.1,())) (cond (y113.1==3) ((bT (y113.2.1,y113.2.2.1,y113.2.2.2.1,y113.2.2.2.2.1,())).bind fun y117=>some (1,(af (1+y1.1)),0,y110.1,y117.1,y117.2.1,y117.2.2.1,y117.2.2.2.1,y117.2.2.2.2.1,())) ((aT (y113.2.1,y113.2.2.1,y113.2.2.2.1,y113.2.2.2.2.1,9,())).bind fun y118=>some (1,(af (1+y1.1)),y118.1,y110.1,y111.1,y118.2.1,y118.2.2.1,y118.2.2.2.1,y118.2.2.2.2.1,())))))) (some (1,(af (1+y1.1)),0,y110.1,y111.1,y112.2.1,y112.2.2.1,y112.2.2.2.1,y112.2.2.2.2.1,()))) ((fB (y109.2.1,y109.2.2.1,y109.2.2.2.1,y109.2.2.2.2.1,60,())).bind fun y119=>cond y119.1 ((aT (y119.2.1,y119.2.2.1,y119.2.2.2.1,y119.2.2.2.2.1,5,())).bind fun y120=>cond (y120.1==0) ((aT (y120.2.1,y120.2.2.1,y120.2.2.2.1,y120.2.2.2.2.1,9,())).bind fun y121=>some (y121.1,(af (1+y1.1)),0,y2.1,(af (1+y3.1)),y121.2.1,y121.2.2.1,y121.2.2.2.1,y121.2.2.2.2.1,())) (cond (y120.1==1) ((bT (y120.2.1,y120.2.2.1,y120.2.2.2.1,y120.2.2.2.2.1,())).bind fun y122=>some (1,y122.1,0,y2.1,(af (1+y3.1)),y122.2.1,y122.2.2.1,y122.2.2.2.1,y122.2.2.2.2.1,())) (cond (y120.1==2) ((bT (y120.2.1,y120.2.2.1,y120.2.2.2.1,y120.2.2.2.2.1,())).bind fun y123=>some (1,(af (1+y1.1)),0,y123.1,(af (1+y3.1)),y123.2.1,y123.2.2.1,y123.2.2.2.1,y123.2.2.2.2.1,())) (cond (y120.1==3) ((bT (y120.2.1,y120.2.2.1,y120.2.2.2.1,y120.2.2.2.2.1,())).bind fun y124=>some (1,(af (1+y1.1)),0,y2.1,y124.1,y124.2.1,y124.2.2.1,y124.2.2.2.1,y124.2.2.2.2.1,())) ((aT (y120.2.1,y120.2.2.1,y120.2.2.2.1,y120.2.2.2.2.1,9,())).bind fun y125=>some (1,(af (1+y1.1)),y125.1,y2.1,(af (1+y3.1)),y125.2.1,y125.2.2.1,y125.2.2.2.1,y125.2.2.2.2.1,())))))) (some (1,(af (1+y1.1)),0,y2.1,(af (1+y3.1)),y119.2.1,y119.2.2.1,y119.2.2.2.1,y119.2.2.2.2.1,())))))))))))))) ((aT (y3.2.1,y3.2.2.1,y3.2.2.2.1,y3.2.2.2.2.1,16,())).bind fun y126=>cond (y126.1==0) (some (4,0,0,0,0,y126.2.1,y126.2.2.1,y126.2.2.2.1,y126.2.2.2.2.1,())) (cond (y126.1==1) (some (4,0,0,0,0,y126.2.1,y126.2.2.1,y126.2.2.2.1,y126.2.2.2.2.1,())) (cond (y126.1==2) (some (4,0,0,0,0,y126.2.1,y126.2.2.1,y126.2.2.2.1,y126.2.2.2.2.1,())) (cond (y126.1==3) (some (4,0,0,0,0,y126.2.1,y126.2.2.1,y126.2.2.2.1,y126.2.2.2.2.1,())) (cond (y126.1==4) ((aT (y126.2.1,y126.2.2.1,y126.2.2.2.1,y126.2.2.2.2.1,8,())).bind fun y127=>(fB (y127.2.1,y127.2.2.1,y127.2.2.2.1,y127.2.2.2.2.1,60,())).bind fun y128=>cond y128.1 ((aT (y128.2.1,y128.2.2.1,y128.2.2.2.1,y128.2.2.2.2.1,5,())).bind fun y129=>cond (y129.1==0) ((aT (y129.2.1,y129.2.2.1,y129.2.2.2.1,y129.2.2.2.2.1,9,())).bind fun y130=>some (y130.1,(af (1+y127.1)),0,0,0,y130.2.1,y130.2.2.1,y130.2.2.2.1,y130.2.2.2.2.1,())) (cond (y129.1==1) ((bT (y129.2.1,y129.2.2.1,y129.2.2.2.1,y129.2.2.2.2.1,())).bind fun y131=>some (2,y131.1,0,0,0,y131.2.1,y131.2.2.1,y131.2.2.2.1,y131.2.2.2.2.1,())) (cond (y129.1==2) ((bT (y129.2.1,y129.2.2.1,y129.2.2.2.1,y129.2.2.2.2.1,())).bind fun y132=>some (2,(af (1+y127.1)),0,y132.1,0,y132.2.1,y132.2.2.1,y132.2.2.2.1,y132.2.2.2.2.1,())) (cond (y129.1==3) ((bT (y129.2.1,y129.2.2.1,y129.2.2.2.1,y129.2.2.2.2.1,())).bind fun y133=>some (2,(af (1+y127.1)),0,0,y133.1,y133.2.1,y133.2.2.1,y133.2.2.2.1,y133.2.2.2.2.1,())) ((aT (y129.2.1,y129.2.2.1,y129.2.2.2.1,y129.2.2.2.2.1,9,())).bind fun y134=>some (2,(af (1+y127.1)),y134.1,0,0,y134.2.1,y134.2.2.1,y134.2.2.2.1,y134.2.2.2.2.1,())))))) (some (2,(af (1+y127.1)),0,0,0,y128.2.1,y128.2.2.1,y128.2.2.2.1,y128.2.2.2.2.1,()))) (cond (y126.1==5) ((aT (y126.2.1,y126.2.2.1,y126.2.2.2.1,y126.2.2.2.2.1,200,())).bind fun y135=>(fB (y135.2.1,y135.2.2.1,y135.2.2.2.1,y135.2.2.2.2.1,60,())).bind fun y136=>cond y136.1 ((aT (y136.2.1,y136.2.2.1,y136.2.2.2.1,y136.2.2.2.2.1,5,())).bind fun y137=>cond (y137.1==0) ((aT (y137.2.1,y137.2.2.1,y137.2.2.2.1,y137.2.2.2.2.1,9,())).bind fun y138=>some (y138.1,0,0,y135.1,0,y138.2.1,y138.2.2.1,y138.2.2.2.1,y138.2.2.2.2.1,())) (cond (y137.1==1) ((bT (y137.2.1,y137.2.2.1,y137.2.2.2.1,y137.2.2.2.2.1,())).bind fun y139=>some (3,y139.1,0,y135.1,0,y139.2.1,y139.2.2.1,y139.2.2.2.1,y139.2.2.2.2.1,())) (cond (y137.1==2) ((bT (y137.2.1,y137.2.2.1,y137.2.2.2.1,y137.2.2.2.2.1,())).bind fun y140=>some (3,0,0,y140.1,0,y140.2.1,y140.2.2.1,y140.2.2.2.1,y140.2.2.2.2.1,())) (cond (y137.1==3) ((bT (y137.2.1,y137.2.2.1,y137.2.2.2.1,y137.2.2.2.2.1,())).bind fun y141=>some (3,0,0,y135.1,y141.1,y141.2.1,y141.2.2.1,y141.2.2.2.1,y141.2.2.2.2.1,())) ((aT (y137.2.1,y137.2.2.1,y137.2.2.2.1,y137.2.2.2.2.1,9,())).bind fun y142=>some (3,0,y142.1,y135.1,0,y142.2.1,y142.2.2.1,y142.2.2.2.1,y142.2.2.2.2.1,())))))) (some (3,0,0,y135.1,0,y136.2.1,y136.2.2.1,y136.2.2.2.1,y136.2.2.2.2.1,()))) (cond (y126.1==6) ((aT (y126.2.1,y126.2.2.1,y126.2.2.2.1,y126.2.2.2.2.1,4,())).bind fun y143=>(aT (y143.2.1,y143.2.2.1,y143.2.2.2.1,y143.2.2.2.2.1,150,())).bind fun y144=>(aT (y144.2.1,y144.2.2.1,y144.2.2.2.1,y144.2.2.2.2.1,4,())).bind fun y145=>(fB (y145.2.1,y145.2.2.1,y145.2.2.2.1,y145.2.2.2.2.1,60,())).bind fun y146=>cond y146.1 ((aT (y146.2.1,y146.2.2.1,y146.2.2.2.1,y146.2.2.2.2.1,5,())).bind fun y147=>cond (y147.1==0) ((aT (y147.2.1,y147.2.2.1,y147.2.2.2.1,y147.2.2.2.2.1,9,())).bind fun y148=>some (y148.1,(af ((af (0+1))+y143.1)),0,y144.1,(af (1+y145.1)),y148.2.1,y148.2.2.1,y148.2.2.2.1,y148.2.2.2.2.1,())) (cond (y147.1==1) ((bT (y147.2.1,y147.2.2.1,y147.2.2.2.1,y147.2.2.2.2.1,())).bind fun y149=>some (6,y149.1,0,y144.1,(af (1+y145.1)),y149.2.1,y149.2.2.1,y149.2.2.2.1,y149.2.2.2.2.1,())) (cond (y147.1==2) ((bT (y147.2.1,y147.2.2.1,y147.2.2.2.1,y147.2.2.2.2.1,())).bind fun y150=>some (6,(af ((af (0+1))+y143.1)),0,y150.1,(af (1+y145.1)),y150.2.1,y150.2.2.1,y150.2.2.2.1,y150.2.2.2.2.1,())) (cond (y147.1==3) ((bT (y147.2.1,y147.2.2.1,y147.2.2.2.1,y147.2.2.2.2.1,())).bind fun y151=>some (6,(af ((af (0+1))+y143.1)),0,y144.1,y151.1,y151.2.1,y151.2.2.1,y151.2.2.2.1,y151.2.2.2.2.1,())) ((aT (y147.2.1,y147.2.2.1,y147.2.2.2.1,y147.2.2.2.2.1,9,())).bind fun y152=>some (6,(af ((af (0+1))+y143.1)),y152.1,y144.1,(af (1+y145.1)),y152.2.1,y152.2.2.1,y152.2.2.2.1,y152.2.2.2.2.1,())))))) (some (6,(af ((af (0+1))+y143.1)),0,y144.1,(af (1+y145.1)),y146.2.1,y146.2.2.1,y146.2.2.2.1,y146.2.2.2.2.1,()))) (cond (y126.1==7) ((qY (1,0,())).bind fun y153=>(fB (y126.2.1,y126.2.2.1,y126.2.2.2.1,y126.2.2.2.2.1,60,())).bind fun y154=>cond y154.1 ((aT (y154.2.1,y154.2.2.1,y154.2.2.2.1,y154.2.2.2.2.1,5,())).bind fun y155=>cond (y155.1==0) ((aT (y155.2.1,y155.2.2.1,y155.2.2.2.1,y155.2.2.2.2.1,9,())).bind fun y156=>some (y156.1,y153.1,0,0,0,y156.2.1,y156.2.2.1,y156.2.2.2.1,y156.2.2.2.2.1,())) (cond (y155.1==1) ((bT (y155.2.1,y155.2.2.1,y155.2.2.2.1,y155.2.2.2.2.1,())).bind fun y157=>some (7,y157.1,0,0,0,y157.2.1,y157.2.2.1,y157.2.2.2.1,y157.2.2.2.2.1,())) (cond (y155.1==2) ((bT (y155.2.1,y155.2.2.1,y155.2.2.2.1,y155.2.2.2.2.1,())).bind fun y158=>some (7,y153.1,0,y158.1,0,y158.2.1,y158.2.2.1,y158.2.2.2.1,y158.2.2.2.2.1,())) (cond (y155.1==3) ((bT (y155.2.1,y155.2.2.1,y155.2.2.2.1,y155.2.2.2.2.1,())).bind fun y159=>some (7,y153.1,0,0,y159.1,y159.2.1,y159.2.2.1,y159.2.2.2.1,y159.2.2.2.2.1,())) ((aT (y155.2.1,y155.2.2.1,y155.2.2.2.1,y155.2.2.2.2.1,9,())).bind fun y160=>some (7,y153.1,y160.1,0,0,y160.2.1,y160.2.2.1,y160.2.2.2.1,y160.2.2.2.2.1,())))))) (some (7,y153.1,0,0,0,y154.2.1,y154.2.2.1,y154.2.2.2.1,y154.2.2.2.2.1,()))) (cond (y126.1==8) ((fB (y126.2.1,y126.2.2.1,y126.2.2.2.1,y126.2.2.2.2.1,3,())).bind fun y161=>cond y161.1 (some (5,0,0,0,0,y161.2.1,y161.2.2.1,y161.2.2.2.1,y161.2.2.2.2.1,())) ((fB (y161.2.1,y161.2.2.1,y161.2.2.2.1,y161.2.2.2.2.1,60,())).bind fun y162=>cond y162.1 ((aT (y162.2.1,y162.2.2.1,y162.2.2.2.1,y162.2.2.2.2.1,5,())).bind fun y163=>cond (y163.1==0) ((aT (y163.2.1,y163.2.2.1,y163.2.2.2.1,y163.2.2.2.2.1,9,())).bind fun y164=>some (y164.1,(af (1+y1.1)),0,y2.1,(af (1+y3.1)),y164.2.1,y164.2.2.1,y164.2.2.2.1,y164.2.2.2.2.1,())) (cond (y163.1==1) ((bT (y163.2.1,y163.2.2.1,y163.2.2.2.1,y163.2.2.2.2.1,())).bind fun y165=>some (1,y165.1,0,y2.1,(af (1+y3.1)),y165.2.1,y165.2.2.1,y165.2.2.2.1,y165.2.2.2.2.1,())) (cond (y163.1==2) ((bT (y163.2.1,y163.2.2.1,y163.2.2.2.1,y163.2.2.2.2.1,())).bind fun y166=>some (1,(af (1+y1.1)),0,y166.1,(af (1+y3.1)),y166.2.1,y166.2.2.1,y166.2.2.2.1,y166.2.2.2.2.1,())) (cond (y163.1==3) ((bT (y163.2.1,y163.2.2.1,y163.2.2.2.1,y163.2.2.2.2.1,())).bind fun y167=>some (1,(af (1+y1.1)),0,y2.1,y167.1,y167.2.1,y167.2.2.1,y167.2.2.2.1,y167.2.2.2.2.1,())) ((aT (y163.2.1,y163.2.2.1,y163.2.2.2.1,y163.2.2.2.2.1,9,())).bind fun y168=>some (1,(af (1+y1.1)),y168.1,y2.1,(af (1+y3.1)),y168.2.1,y168.2.2.1,y168.2.2.2.1,y168.2.2.2.2.1,())))))) (some (1,(af (1+y1.1)),0,y2.1,(af (1+y3.1)),y162.2.1,y162.2.2.1,y162.2.2.2.1,y162.2.2.2.2.1,())))) ((fB (y126.2.1,y126.2.2.1,y126.2.2.2.1,y126.2.2.2.2.1,8,())).bind fun y169=>cond y169.1 ((vY (y169.2.1,y169.2.2.1,y169.2.2.2.1,y169.2.2.2.2.1,())).bind fun y170=>(vX (y170.2.1,y170.2.2.1,y170.2.2.2.1,y170.2.2.2.2.1,())).bind fun y171=>(fB (y171.2.1,y171.2.2.1,y171.2.2.2.1,y171.2.2.2.2.1,60,())).bind fun y172=>cond y172.1 ((aT (y172.2.1,y172.2.2.1,y172.2.2.2.1,y172.2.2.2.2.1,5,())).bind fun y173=>cond (y173.1==0) ((aT (y173.2.1,y173.2.2.1,y173.2.2.2.1,y173.2.2.2.2.1,9,())).bind fun y174=>some (y174.1,(af (1+y1.1)),0,y170.1,y171.1,y174.2.1,y174.2.2.1,y174.2.2.2.1,y174.2.2.2.2.1,())) (cond (y173.1==1) ((bT (y173.2.1,y173.2.2.1,y173.2.2.2.1,y173.2.2.2.2.1,())).bind fun y175=>some (1,y175.1,0,y170.1,y171.1,y175.2.1,y175.2.2.1,y175.2.2.2.1,y175.2.2.2.2.1,())) (cond (y173.1==2) ((bT (y173.2.1,y173.2.2.1,y173.2.2.2.1,y173.2.2.2.2.1,())).bind fun y176=>some (1,(af (1+y1.1)),0,y176.1,y171.1,y176.2.1,y176.2.2.1,y176.2.2.2.1,y176.2.2.2.2.1,())) (cond (y173.1==3) ((bT (y173.2.1,y173.2.2.1,y173.2.2.2.1,y173.2.2.2.2.1,())).bind fun y177=>some (1,(af (1+y1.1)),0,y170.1,y177.1,y177.2.1,y177.2.2.1,y177.2.2.2.1,y177.2.2.2.2.1,())) ((aT (y173.2.1,y173.2.2.1,y173.2.2.2.1,y173.2.2.2.2.1,9,())).bind fun y178=>some (1,(af (1+y1.1)),y178.1,y170.1,y171.1,y178.2.1,y178.2.2.1,y178.2.2.2.1,y178.2.2.2.2.1,())))))) (some (1,(af (1+y1.1)),0,y170.1,y171.1,y172.2.1,y172.2.2.1,y172.2.2.2.1,y172.2.2.2.2.1,()))) ((fB (y169.2.1,y169.2.2.1,y169.2.2.2.1,y169.2.2.2.2.1,60,())).bind fun y179=>cond y179.1 ((aT (y179.2.1,y179.2.2.1,y179.2.2.2.1,y179.2.2.2.2.1,5,())).bind fun y180=>cond (y180.1==0) ((aT (y180.2.1,y180.2.2.1,y180.2.2.2.1,y180.2.2.2.2.1,9,())).bind fun y181=>some (y181.1,(af (1+y1.1)),0,y2.1,(af (1+y3.1)),y181.2.1,y181.2.2.1,y181.2.2.2.1,y181.2.2.2.2.1,())) (cond (y180.1==1) ((bT (y180.2.1,y180.2.2.1,y180.2.2.2.1,y180.2.2.2.2.1,())).bind fun y182=>some (1,y182.1,0,y2.1,(af (1+y3.1)),y182.2.1,y182.2.2.1,y182.2.2.2.1,y182.2.2.2.2.1,())) (cond (y180.1==2) ((bT (y180.2.1,y180.2.2.1,y180.2.2.2.1,y180.2.2.2.2.1,())).bind fun y183=>some (1,(af (1+y1.1)),0,y183.1,(af (1+y3.1)),y183.2.1,y183.2.2.1,y183.2.2.2.1,y183.2.2.2.2.1,())) (cond (y180.1==3) ((bT (y180.2.1,y180.2.2.1,y180.2.2.2.1,y180.2.2.2.2.1,())).bind fun y184=>some (1,(af (1+y1.1)),0,y2.1,y184.1,y184.2.1,y184.2.2.1,y184.2.2.2.1,y184.2.2.2.2.1,())) ((aT (y180.2.1,y180.2.2.1,y180.2.2.2.1,y180.2.2.2.2.1,9,())).bind fun y185=>some (1,(af (1+y1.1)),y185.1,y2.1,(af (1+y3.1)),y185.2.1,y185.2.2.1,y185.2.2.2.1,y185.2.2.2.2.1,())))))) (some (1,(af (1+y1.1)),0,y2.1,(af (1+y3.1)),y179.2.1,y179.2.2.1,y179.2.2.2.1,y179.2.2.2.2.1,())))))))))))))
def vZ:=fun x:(List (Int×Unit))×Int×Int×Int×U1=>PY.T x.1 x.2.1 x.2.2.1 x.2.2.2.1 x.2.2.2.2.1 x.2.2.2.2.2.1 x.2.2.2.2.2.2.1 x.2.2.2.2.2.2.2.1 x.2.2.2.2.2.2.2.2.1 x.2.2.2.2.2.2.2.2.2.1 x.2.2.2.2.2.2.2.2.2.2.1
abbrev Ir:aG:=⟨[.m qV,.v true jg],[(true,fZ)],vZ,[]⟩
theorem Py:aF Dr Tryz.prog 28 Ir:=bC mix (.c PL (.c wF (.c QW (.c Yn (.c Yk (.c YE .nil)))))) (by kernel_rfl) fun x=>by kernel_rfl
end Go.Rv
end
