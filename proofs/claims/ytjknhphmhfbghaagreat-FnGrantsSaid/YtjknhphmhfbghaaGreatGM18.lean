/- What functions come to on pure values (printed by a program of ours). -/
import Derived.Test.YtjknhphmhfbghaaGreatGM17
set_option linter.unusedVariables false
set_option linter.unusedSimpArgs false
set_option linter.unusedSectionVars false
set_option maxRecDepth 100000
noncomputable section
namespace Go.Rv
open Go.Proofs
variable {Dr:Kn} {R:Type} (k0 k:Nat) (K:au R)
abbrev IZ:Is:=[.v false [CT.sh [CT.int .u8]]]
abbrev Iy:Os:=[(true,qW),(false,[])]
namespace nV
def aC:Nat→List Nat×List Nat:=fun k=>if k=3 then([0,3,4],[0,3])else([],[])
def zrc{R:Type}(k0:Nat)(p:List Nat):Env→List Ob→au R→Option R:=bJ Tryz.prog (aW []) 47 0 aC k0 (cO p (dI Tryz.prog 26))
def R0{R:Type}(nx0:Gj R)(ex0:Ph R)(code2:List (Int×Unit))(i:Int)(s:List (Int×Unit))(s2 s3 s4:Int):Option R:=cond (decide (i<(code2.length:Int))) (cond (decide (i<64)) (if 0≤i∧i<(code2.length:Int)then nx0 code2 (af (i+1)) s s2 (IntKind.u64.wrap ((IntKind.u64.wrap (((BitVec.ofInt 64 s3) ^^^ (BitVec.ofInt 64 (IntKind.u64.wrap ((rd (0,()) code2 i).1)))).toNat))*1099511628211)) s4 else none) (ex0 code2 s s2 s3 s4)) (ex0 code2 s s2 s3 s4)
def A0(code:List (Int×Unit))(code2 s:List (Int×Unit))(s2 s3 s4:Int):Option (U5):=if 20=0 then none else cond (decide ((af (Int.tdiv (code2.length:Int) 20))>12)) (some (s,s2,s3,12,())) (some (s,s2,s3,(af (Int.tdiv (code2.length:Int) 20)),()))
def T(lo0:Gj (U5))(code:List (Int×Unit)):Option (U5):=lo0 code 0 code 0 88172645463325252 0
def K0{R:Type}(k0:Nat)(K:au R):au R:=bF 0 (bI (fun env ob=>zrc k0 [1,1,1] env ob (K)) (K))
def L0:Gj R:=fun code2 i s s2 s3 s4=>iter 0 [0,3,4] [0,3] (zrc k0 [1,1,0,1,0,0]) k [(0,.sh [CT.int .u8] code2),(3,.ptr 0 0 0 0),(4,.int .i64 i)] [.box [.sh [CT.int .u8] s,.int .i64 s2,.int .u64 s3,.int .i64 s4]] K
def H0:Ph R:=fun code2 s s2 s3 s4=>K (.exit 0) [(0,.sh [CT.int .u8] code2),(3,.ptr 0 0 0 0)] [.box [.sh [CT.int .u8] s,.int .i64 s2,.int .u64 s3,.int .i64 s4]]
theorem zs0:L0 k0 (k+1) K=R0 (L0 k0 k K) (H0 K):=by kernel_rfl
def G0{R:Type}(k0:Nat)(hx0:Ph R):Nat→Gj R
 |0=>fun _ _ _ _ _ _=>none
 |k+1=>R0 (G0 k0 hx0 k) hx0
theorem aS:∀ k,L0 k0 k K=G0 k0 (H0 K) k:=bK rfl fun k ih=>by rw[zs0,G0];(try simp only[ih]);try rfl
variable (code:List (Int×Unit))
def aB:au (U5):=dm Tryz.prog [.tmp 2] IZ Iy (code,())
theorem aZ:H0 (K0 k0 (aB code))=A0 code:=by kernel_rfl
def FF:Option (U5):=T (G0 k0 (A0 code) k0) code
theorem aY:dB Tryz.prog (aW []) aC k0 26 IZ Iy [] (code,())=FF k0 code:=Eq.trans (b:=T (L0 k0 k0 (K0 k0 (aB code))) code) (by kernel_rfl) (by rw[FF];(try simp only[aS,aZ]);try rfl)
def _root_.Go.Rv.Dc:=fun x:(List (Int×Unit))×Unit=>FF (300+x.1.length) x.1
abbrev _root_.Go.Rv.aah:aG:=⟨IZ,Iy,Dc,[]⟩
theorem _root_.Go.Rv.ZF:aF Dr Tryz.prog 26 aah:=dJ mix .nil (by kernel_rfl) fun x=>⟨aC,_,aY _ _⟩
end nV
def Rl.T(n:Int):Option (Bool×Unit):=cond (decide (n≥1)) (some ((decide (n≤1000)),())) (some (false,()))
def zu:=fun x:Int×Unit=>Rl.T x.1
abbrev QE:aG:=⟨[.v false [CT.int .i64]],[(false,[CT.bool])],zu,[]⟩
theorem Qk:aF Dr Tryz.prog 29 QE:=bg mix .nil (by kernel_rfl) fun x=>by kernel_rfl
def SA.T(n:Int):Option (Bool×Unit):=cond (decide (n≥0)) (some ((decide (n≤1125899906842624)),())) (some (false,()))
def dZ:=fun x:Int×Unit=>SA.T x.1
abbrev RG:aG:=⟨[.v false [CT.int .i64]],[(false,[CT.bool])],dZ,[]⟩
theorem uo:aF Dr Tryz.prog 63 RG:=bg mix .nil (by kernel_rfl) fun x=>by kernel_rfl
def TM.T(n:Int):Option (Bool×Unit):=cond (decide (n≥1)) (some ((decide (n≤1000000)),())) (some (false,()))
def lI:=fun x:Int×Unit=>TM.T x.1
abbrev SV:aG:=⟨[.v false [CT.int .i64]],[(false,[CT.bool])],lI,[]⟩
theorem zT:aF Dr Tryz.prog 64 SV:=bg mix .nil (by kernel_rfl) fun x=>by kernel_rfl
abbrev Jr:Is:=[.v true gu,.v false [CT.int .i64]]
abbrev IU:Os:=[(false,[CT.int .i64])]
namespace wV
def aC:Nat→List Nat×List Nat:=fun k=>if k=2 then([1,2,5],[4])else([],[])
def zrc{R:Type}(k0:Nat)(p:List Nat):Env→List Ob→au R→Option R:=bJ Tryz.prog (aW []) 22 0 aC k0 (cO p (dI Tryz.prog 65))
def R0{R:Type}(nx0:tY R)(ex0:Y2 R)(ex1:dY R)(id2 i f:Int)(f3 f4:List U8):Option R:=cond (decide (i<(f3.length:Int))) (if 0≤i∧i<(f3.length:Int)then cond ((rd (0,0,0,0,()) f3 i).1==id2) (ex0 i) (nx0 id2 (af (i+1)) f f3 f4)else none) (ex1 ())
def A0(f0:Int)(f1 f2:List U8)(id:Int)(t4x:Int):Option (Int×Unit):=some (t4x,())
def A1(f0:Int)(f1 f2:List U8)(id:Int)(_u:Unit):Option (Int×Unit):=some ((-1),())
def T(lo0:tY (Int×Unit))(f0:Int)(f1 f2:List U8)(id:Int):Option (Int×Unit):=lo0 id 0 f0 f1 f2
def K0{R:Type}(k0:Nat)(K:au R):au R:=bF 0 (bI (fun env ob=>zrc k0 [1,1] env ob (K)) (K))
def L0:tY R:=fun id2 i f f3 f4=>iter 0 [1,2,5] [4] (zrc k0 [1,0,1,0,0]) k [(1,.int .i64 id2),(2,.ptr 0 0 0 0),(5,.int .i64 i)] [.box [.int .i64 f,.sl aA f3,.sl aA f4]] K
def H0:Y2 R:=fun t4x=>K .ret [(4,.int .i64 t4x)] []
def H1:dY R:=fun _=>K (.exit 0) [(4,.undef)] []
theorem zs0:L0 k0 (k+1) K=R0 (L0 k0 k K) (H0 K) (H1 K):=by kernel_rfl
def G0{R:Type}(k0:Nat)(hx0:Y2 R)(hx1:dY R):Nat→tY R
 |0=>fun _ _ _ _ _=>none
 |k+1=>R0 (G0 k0 hx0 hx1 k) hx0 hx1
theorem aS:∀ k,L0 k0 k K=G0 k0 (H0 K) (H1 K) k:=bK rfl fun k ih=>by rw[zs0,G0];(try simp only[ih]);try rfl
variable (f0:Int) (f1 f2:List U8) (id:Int)
def aB:au (Int×Unit):=dm Tryz.prog [.tmp 4] Jr IU (f0,f1,f2,id,())
theorem aZ:H0 (K0 k0 (aB f0 f1 f2 id))=A0 f0 f1 f2 id:=by kernel_rfl
theorem dw:H1 (K0 k0 (aB f0 f1 f2 id))=A1 f0 f1 f2 id:=by kernel_rfl
def FF:Option (Int×Unit):=T (G0 k0 (A0 f0 f1 f2 id) (A1 f0 f1 f2 id) k0) f0 f1 f2 id
theorem aY:dB Tryz.prog (aW []) aC k0 65 Jr IU [] (f0,f1,f2,id,())=FF k0 f0 f1 f2 id:=Eq.trans (b:=T (L0 k0 k0 (K0 k0 (aB f0 f1 f2 id))) f0 f1 f2 id) (by kernel_rfl) (by rw[FF];(try simp only[aS,aZ,dw]);try rfl)
def _root_.Go.Rv.jR:=fun x:Int×(List U8)×(List U8)×Int×Unit=>FF (300+x.2.1.length+x.2.2.1.length) x.1 x.2.1 x.2.2.1 x.2.2.2.1
abbrev _root_.Go.Rv.wM:aG:=⟨Jr,IU,jR,[]⟩
theorem _root_.Go.Rv.wJ:aF Dr Tryz.prog 65 wM:=dJ mix .nil (by kernel_rfl) fun x=>⟨aC,_,aY _ _ _ _ _⟩
end wV
def Rn.T(n:Int):Option (Bool×Unit):=cond (decide (n≥1)) (some ((decide (n≤1073741824)),())) (some (false,()))
def gB:=fun x:Int×Unit=>Rn.T x.1
abbrev QF:aG:=⟨[.v false [CT.int .i64]],[(false,[CT.bool])],gB,[]⟩
theorem CQ:aF Dr Tryz.prog 66 QF:=bg mix .nil (by kernel_rfl) fun x=>by kernel_rfl
abbrev I7:Is:=[.v true gu]
abbrev Iz:Os:=[(false,[CT.bool])]
namespace iO
def dF:Tb:=[(63,[],RG),(64,[],SV),(65,[],wM),(66,[],QF)]
def aC:Nat→List Nat×List Nat:=fun k=>if k=4 then([1,3],[1,2])else if k=10 then([1,5],[2])else([],[])
def zrc{R:Type}(k0:Nat)(p:List Nat):Env→List Ob→au R→Option R:=bJ Tryz.prog (aW dF) 142 0 aC k0 (cO p (dI Tryz.prog 30))
def R0{R:Type}(nx0:tX R)(ex0:yY R)(ex1:yX R)(i f:Int)(f3 f4:List U8):Option R:=cond (decide (i<(f3.length:Int))) (if 0≤i∧i<(f3.length:Int)then(lI ((rd (0,0,0,0,()) f3 i).1,())).bind fun y1=>cond (!y1.1) (ex0 false f f3 f4) (cond (decide (i>0)) (if 0≤(af (i - 1))∧(af (i - 1))<(f3.length:Int)then cond (decide ((rd (0,0,0,0,()) f3 i).1≤(rd (0,0,0,0,()) f3 (af (i - 1))).1)) (ex0 false f f3 f4) (cond ((rd (0,0,0,0,()) f3 i).2.1 != 0) ((jR (f,f3,f4,(rd (0,0,0,0,()) f3 i).2.1,())).bind fun y2=>cond (decide (y2.1<0)) (ex0 false f f3 f4) (cond (decide ((rd (0,0,0,0,()) f3 i).2.1≥(rd (0,0,0,0,()) f3 i).1)) (ex0 false f f3 f4) ((dZ ((rd (0,0,0,0,()) f3 i).2.2.1,())).bind fun y3=>cond (!y3.1) (ex0 false f f3 f4) ((gB ((rd (0,0,0,0,()) f3 i).2.2.2.1,())).bind fun y4=>cond (!y4.1) (ex0 false f f3 f4) (nx0 (af (i+1)) f f3 f4))))) ((dZ ((rd (0,0,0,0,()) f3 i).2.2.1,())).bind fun y5=>cond (!y5.1) (ex0 false f f3 f4) ((gB ((rd (0,0,0,0,()) f3 i).2.2.2.1,())).bind fun y6=>cond (!y6.1) (ex0 false f f3 f4) (nx0 (af (i+1)) f f3 f4))))else none) (cond ((rd (0,0,0,0,()) f3 i).2.1 != 0) ((jR (f,f3,f4,(rd (0,0,0,0,()) f3 i).2.1,())).bind fun y7=>cond (decide (y7.1<0)) (ex0 false f f3 f4) (cond (decide ((rd (0,0,0,0,()) f3 i).2.1≥(rd (0,0,0,0,()) f3 i).1)) (ex0 false f f3 f4) ((dZ ((rd (0,0,0,0,()) f3 i).2.2.1,())).bind fun y8=>cond (!y8.1) (ex0 false f f3 f4) ((gB ((rd (0,0,0,0,()) f3 i).2.2.2.1,())).bind fun y9=>cond (!y9.1) (ex0 false f f3 f4) (nx0 (af (i+1)) f f3 f4))))) ((dZ ((rd (0,0,0,0,()) f3 i).2.2.1,())).bind fun y10=>cond (!y10.1) (ex0 false f f3 f4) ((gB ((rd (0,0,0,0,()) f3 i).2.2.2.1,())).bind fun y11=>cond (!y11.1) (ex0 false f f3 f4) (nx0 (af (i+1)) f f3 f4)))))else none) (ex1 f f3 f4)
def R1{R:Type}(nx1:tX R)(ex2:ji R)(ex3:dY R)(i f:Int)(f3 f4:List U8):Option R:=cond (decide (i<(f4.length:Int))) (if 0≤i∧i<(f4.length:Int)then(lI ((rd (0,0,0,0,()) f4 i).1,())).bind fun y1=>cond (!y1.1) (ex2 false) (cond (decide (i>0)) (if 0≤(af (i - 1))∧(af (i - 1))<(f4.length:Int)then cond (decide ((rd (0,0,0,0,()) f4 i).1≤(rd (0,0,0,0,()) f4 (af (i - 1))).1)) (ex2 false) (cond ((rd (0,0,0,0,()) f4 i).2.1 != 0) ((jR (f,f3,f4,(rd (0,0,0,0,()) f4 i).2.1,())).bind fun y2=>cond (decide (y2.1<0)) (ex2 false) ((dZ ((rd (0,0,0,0,()) f4 i).2.2.1,())).bind fun y3=>cond (!y3.1) (ex2 false) ((gB ((rd (0,0,0,0,()) f4 i).2.2.2.1,())).bind fun y4=>cond (!y4.1) (ex2 false) (nx1 (af (i+1)) f f3 f4)))) ((dZ ((rd (0,0,0,0,()) f4 i).2.2.1,())).bind fun y5=>cond (!y5.1) (ex2 false) ((gB ((rd (0,0,0,0,()) f4 i).2.2.2.1,())).bind fun y6=>cond (!y6.1) (ex2 false) (nx1 (af (i+1)) f f3 f4))))else none) (cond ((rd (0,0,0,0,()) f4 i).2.1 != 0) ((jR (f,f3,f4,(rd (0,0,0,0,()) f4 i).2.1,())).bind fun y7=>cond (decide (y7.1<0)) (ex2 false) ((dZ ((rd (0,0,0,0,()) f4 i).2.2.1,())).bind fun y8=>cond (!y8.1) (ex2 false) ((gB ((rd (0,0,0,0,()) f4 i).2.2.2.1,())).bind fun y9=>cond (!y9.1) (ex2 false) (nx1 (af (i+1)) f f3 f4)))) ((dZ ((rd (0,0,0,0,()) f4 i).2.2.1,())).bind fun y10=>cond (!y10.1) (ex2 false) ((gB ((rd (0,0,0,0,()) f4 i).2.2.2.1,())).bind fun y11=>cond (!y11.1) (ex2 false) (nx1 (af (i+1)) f f3 f4)))))else none) (ex3 ())
def A0(f0:Int)(f1 f2:List U8)(t2x:Bool)(f:Int)(f3 f4:List U8):Option (Bool×Unit):=some (t2x,())
def A1(lo1:tX (Bool×Unit))(f0:Int)(f1 f2:List U8)(f:Int)(f3 f4:List U8):Option (Bool×Unit):=lo1 0 f f3 f4
def A2(f0:Int)(f1 f2:List U8)(t2x:Bool):Option (Bool×Unit):=some (t2x,())
def A3(f0:Int)(f1 f2:List U8)(_u:Unit):Option (Bool×Unit):=some (true,())
def T(lo0:tX (Bool×Unit))(f0:Int)(f1 f2:List U8):Option (Bool×Unit):=(dZ (f0,())).bind fun y1=>cond (!y1.1) (some (false,())) (cond (decide ((f1.length:Int)>30)) (some (false,())) (cond (decide ((f2.length:Int)>60)) (some (false,())) (lo0 0 f0 f1 f2)))
def K0{R:Type}(k0:Nat)(K:au R):au R:=bF 0 (bI (fun env ob=>zrc k0 [1,1,1] env ob (K)) (K))
def K1{R:Type}(k0:Nat)(K:au R):au R:=bF 2 (bI (fun env ob=>zrc k0 [1,1,1,1] env ob (K)) (K))
def L0:tX R:=fun i f f3 f4=>iter 0 [1,3] [1,2] (zrc k0 [1,1,0,1,0,0]) k [(1,.ptr 0 0 0 0),(3,.int .i64 i)] [.box [.int .i64 f,.sl aA f3,.sl aA f4]] K
def L1:tX R:=fun i f f3 f4=>iter 0 [1,5] [2] (zrc k0 [1,1,1,0,1,0,0]) k [(1,.ptr 0 0 0 0),(5,.int .i64 i)] [.box [.int .i64 f,.sl aA f3,.sl aA f4]] K
def H0:yY R:=fun t2x f f3 f4=>K .ret [(1,.ptr 0 0 0 0),(2,.bool t2x)] [.box [.int .i64 f,.sl aA f3,.sl aA f4]]
def H1:yX R:=fun f f3 f4=>K (.exit 0) [(1,.ptr 0 0 0 0),(2,.undef)] [.box [.int .i64 f,.sl aA f3,.sl aA f4]]
def H2:ji R:=fun t2x=>K .ret [(2,.bool t2x)] []
def H3:dY R:=fun _=>K (.exit 2) [(2,.undef)] []
theorem zs0:L0 k0 (k+1) K=R0 (L0 k0 k K) (H0 K) (H1 K):=by kernel_rfl
theorem zs1:L1 k0 (k+1) K=R1 (L1 k0 k K) (H2 K) (H3 K):=by kernel_rfl
def G0{R:Type}(k0:Nat)(hx0:yY R)(hx1:yX R):Nat→tX R
 |0=>fun _ _ _ _=>none
 |k+1=>R0 (G0 k0 hx0 hx1 k) hx0 hx1
theorem aS:∀ k,L0 k0 k K=G0 k0 (H0 K) (H1 K) k:=bK rfl fun k ih=>by rw[zs0,G0];(try simp only[ih]);try rfl
def G1{R:Type}(k0:Nat)(hx2:ji R)(hx3:dY R):Nat→tX R
 |0=>fun _ _ _ _=>none
 |k+1=>R1 (G1 k0 hx2 hx3 k) hx2 hx3
theorem dL:∀ k,L1 k0 k K=G1 k0 (H2 K) (H3 K) k:=bK rfl fun k ih=>by rw[zs1,G1];(try simp only[ih,aS]);try rfl
variable (f0:Int) (f1 f2:List U8)
def aB:au (Bool×Unit):=dm Tryz.prog [.tmp 2] I7 Iz (f0,f1,f2,())
theorem aZ:H0 (K0 k0 (aB f0 f1 f2))=A0 f0 f1 f2:=by kernel_rfl
theorem dw:H1 (K0 k0 (aB f0 f1 f2))=A1 (L1 k0 k0 (K1 k0 (aB f0 f1 f2))) f0 f1 f2:=by kernel_rfl
theorem lF:H2 (K1 k0 (aB f0 f1 f2))=A2 f0 f1 f2:=by kernel_rfl
theorem qU:H3 (K1 k0 (aB f0 f1 f2))=A3 f0 f1 f2:=by kernel_rfl
def FF:Option (Bool×Unit):=T (G0 k0 (A0 f0 f1 f2) (A1 (G1 k0 (A2 f0 f1 f2) (A3 f0 f1 f2) k0) f0 f1 f2) k0) f0 f1 f2
theorem aY:dB Tryz.prog (aW dF) aC k0 30 I7 Iz [] (f0,f1,f2,())=FF k0 f0 f1 f2:=Eq.trans (b:=T (L0 k0 k0 (K0 k0 (aB f0 f1 f2))) f0 f1 f2) (by kernel_rfl) (by rw[FF];(try simp only[aS,dL,aZ,dw,lF,qU]);try rfl)
def _root_.Go.Rv.zA:=fun x:U3=>FF (300+x.2.1.length+x.2.2.1.length) x.1 x.2.1 x.2.2.1
abbrev _root_.Go.Rv.C9:aG:=⟨I7,Iz,zA,[]⟩
theorem _root_.Go.Rv.Jo:aF Dr Tryz.prog 30 C9:=dJ mix (.c uo (.c zT (.c wJ (.c CQ .nil)))) (by kernel_rfl) fun x=>⟨aC,_,aY _ _ _ _⟩
end iO
def Sv.T(n:Int):Option (Bool×Unit):=cond (decide (n≥0)) (some ((decide (n≤1000000)),())) (some (false,()))
def Dv:=fun x:Int×Unit=>Sv.T x.1
abbrev aaM:aG:=⟨[.v false [CT.int .i64]],[(false,[CT.bool])],Dv,[]⟩
theorem aal:aF Dr Tryz.prog 97 aaM:=bg mix .nil (by kernel_rfl) fun x=>by kernel_rfl
def RQ.T(l0 l1 l2:Int):Option (Bool×Unit):=(lI (l0,())).bind fun y1=>cond y1.1 ((dZ (l1,())).bind fun y2=>cond y2.1 ((Dv (l2,())).bind fun y3=>some (y3.1,())) (some (false,()))) (some (false,()))
def zJ:=fun x:U9=>RQ.T x.1 x.2.1 x.2.2.1
abbrev zI:aG:=⟨[.v true ct0],[(false,[CT.bool])],zJ,[]⟩
theorem Qy:aF Dr Tryz.prog 67 zI:=bg mix (.c uo (.c zT (.c aal .nil))) (by kernel_rfl) fun x=>by kernel_rfl
abbrev Ii:Is:=[.v false [CT.sl ct0]]
abbrev Hu:Os:=[(false,[CT.bool])]
namespace kN
def aC:Nat→List Nat×List Nat:=fun k=>if k=4 then([0,3],[2])else([],[])
def zrc{R:Type}(k0:Nat)(p:List Nat):Env→List Ob→au R→Option R:=bJ Tryz.prog (aW [(67,[],zI)]) 37 0 aC k0 (cO p (dI Tryz.prog 31))
def R0{R:Type}(nx0:Gi R)(ex0:ji R)(ex1:dY R)(list2:List U9)(i:Int):Option R:=cond (decide (i<(list2.length:Int))) (if 0≤i∧i<(list2.length:Int)then(zJ ((rd (0,0,0,()) list2 i).1,(rd (0,0,0,()) list2 i).2.1,(rd (0,0,0,()) list2 i).2.2.1,())).bind fun y1=>cond (!y1.1) (ex0 false) (cond (decide (i>0)) (if 0≤i∧i<(list2.length:Int)then if 0≤(af (i - 1))∧(af (i - 1))<(list2.length:Int)then cond (decide ((rd (0,0,0,()) list2 i).1≤(rd (0,0,0,()) list2 (af (i - 1))).1)) (ex0 false) (nx0 list2 (af (i+1)))else none else none) (nx0 list2 (af (i+1))))else none) (ex1 ())
def A0(list:List U9)(t2x:Bool):Option (Bool×Unit):=some (t2x,())
def A1(list:List U9)(_u:Unit):Option (Bool×Unit):=some (true,())
def T(lo0:Gi (Bool×Unit))(list:List U9):Option (Bool×Unit):=cond (decide ((list.length:Int)>60)) (some (false,())) (lo0 list 0)
def K0{R:Type}(k0:Nat)(K:au R):au R:=bF 0 (bI (fun env ob=>zrc k0 [1,1,1] env ob (K)) (K))
def L0:Gi R:=fun list2 i=>iter 0 [0,3] [2] (zrc k0 [1,1,0,1,0,0]) k [(0,.sl ct0 list2),(3,.int .i64 i)] [] K
def H0:ji R:=fun t2x=>K .ret [(2,.bool t2x)] []
def H1:dY R:=fun _=>K (.exit 0) [(2,.undef)] []
theorem zs0:L0 k0 (k+1) K=R0 (L0 k0 k K) (H0 K) (H1 K):=by kernel_rfl
def G0{R:Type}(k0:Nat)(hx0:ji R)(hx1:dY R):Nat→Gi R
 |0=>fun _ _=>none
 |k+1=>R0 (G0 k0 hx0 hx1 k) hx0 hx1
theorem aS:∀ k,L0 k0 k K=G0 k0 (H0 K) (H1 K) k:=bK rfl fun k ih=>by rw[zs0,G0];(try simp only[ih]);try rfl
variable (list:List U9)
def aB:au (Bool×Unit):=dm Tryz.prog [.tmp 2] Ii Hu (list,())
theorem aZ:H0 (K0 k0 (aB list))=A0 list:=by kernel_rfl
theorem dw:H1 (K0 k0 (aB list))=A1 list:=by kernel_rfl
def FF:Option (Bool×Unit):=T (G0 k0 (A0 list) (A1 list) k0) list
theorem aY:dB Tryz.prog (aW [(67,[],zI)]) aC k0 31 Ii Hu [] (list,())=FF k0 list:=Eq.trans (b:=T (L0 k0 k0 (K0 k0 (aB list))) list) (by kernel_rfl) (by rw[FF];(try simp only[aS,aZ,dw]);try rfl)
def _root_.Go.Rv.wF:=fun x:(List U9)×Unit=>FF (300+x.1.length) x.1
abbrev _root_.Go.Rv.wE:aG:=⟨Ii,Hu,wF,[]⟩
theorem _root_.Go.Rv.Cc:aF Dr Tryz.prog 31 wE:=dJ mix (.c Qy .nil) (by kernel_rfl) fun x=>⟨aC,_,aY _ _⟩
end kN
abbrev Ih:Is:=[.v true jh]
abbrev Ht:Os:=[(false,[CT.bool])]
namespace kM
def dF:Tb:=[(29,[],QE),(30,[],C9),(31,[],wE)]
def aC:Nat→List Nat×List Nat:=fun k=>if k=4 then([1,3],[2])else([],[])
def zrc{R:Type}(k0:Nat)(p:List Nat):Env→List Ob→au R→Option R:=bJ Tryz.prog (aW dF) 93 0 aC k0 (cO p (dI Tryz.prog 8))
def R0{R:Type}(nx0:Gg R)(ex0:ji R)(ex1:dY R)(i s s7 s8 s9:Int)(s10 s11:List U8)(s12:List U9):Option R:=cond (decide (i<(s12.length:Int))) (if 0≤i∧i<(s12.length:Int)then if 0≤i∧i<(s11.length:Int)then cond ((rd (0,0,0,()) s12 i).1 != (rd (0,0,0,0,()) s11 i).1) (ex0 false) (if 0≤i∧i<(s12.length:Int)then cond (decide ((rd (0,0,0,()) s12 i).2.2.1≤s8)) (ex0 false) (if 0≤i∧i<(s12.length:Int)then cond (decide ((rd (0,0,0,()) s12 i).2.2.1>(af (s8+s)))) (ex0 false) (nx0 (af (i+1)) s s7 s8 s9 s10 s11 s12)else none)else none)else none else none) (ex1 ())
def A0(s0 s1 s2 s3:Int)(s4 s5:List U8)(s6:List U9)(t2x:Bool):Option (Bool×Unit):=some (t2x,())
def A1(s0 s1 s2 s3:Int)(s4 s5:List U8)(s6:List U9)(_u:Unit):Option (Bool×Unit):=some (true,())
def T(lo0:Gg (Bool×Unit))(s0 s1 s2 s3:Int)(s4 s5:List U8)(s6:List U9):Option (Bool×Unit):=(zu (s0,())).bind fun y1=>cond (!y1.1) (some (false,())) (cond (decide (s1<0)) (some (false,())) (cond (decide (s1>s2)) (some (false,())) (cond (decide (s2>999000)) (some (false,())) ((zA (s3,s4,s5,())).bind fun y2=>cond (!y2.1) (some (false,())) ((wF (s6,())).bind fun y3=>cond (!y3.1) (some (false,())) (cond ((s6.length:Int) != (s5.length:Int)) (some (false,())) (lo0 0 s0 s1 s2 s3 s4 s5 s6)))))))
def K0{R:Type}(k0:Nat)(K:au R):au R:=bF 0 (bI (fun env ob=>zrc k0 [1,1,1] env ob (K)) (K))
def L0:Gg R:=fun i s s7 s8 s9 s10 s11 s12=>iter 0 [1,3] [2] (zrc k0 [1,1,0,1,0,0]) k [(1,.ptr 0 0 0 0),(3,.int .i64 i)] [.box [.int .i64 s,.int .i64 s7,.int .i64 s8,.int .i64 s9,.sl aA s10,.sl aA s11,.sl ct0 s12]] K
def H0:ji R:=fun t2x=>K .ret [(2,.bool t2x)] []
def H1:dY R:=fun _=>K (.exit 0) [(2,.undef)] []
theorem zs0:L0 k0 (k+1) K=R0 (L0 k0 k K) (H0 K) (H1 K):=by kernel_rfl
def G0{R:Type}(k0:Nat)(hx0:ji R)(hx1:dY R):Nat→Gg R
 |0=>fun _ _ _ _ _ _ _ _=>none
 |k+1=>R0 (G0 k0 hx0 hx1 k) hx0 hx1
theorem aS:∀ k,L0 k0 k K=G0 k0 (H0 K) (H1 K) k:=bK rfl fun k ih=>by rw[zs0,G0];(try simp only[ih]);try rfl
variable (s0 s1 s2 s3:Int) (s4 s5:List U8) (s6:List U9)
def aB:au (Bool×Unit):=dm Tryz.prog [.tmp 2] Ih Ht (s0,s1,s2,s3,s4,s5,s6,())
theorem aZ:H0 (K0 k0 (aB s0 s1 s2 s3 s4 s5 s6))=A0 s0 s1 s2 s3 s4 s5 s6:=by kernel_rfl
theorem dw:H1 (K0 k0 (aB s0 s1 s2 s3 s4 s5 s6))=A1 s0 s1 s2 s3 s4 s5 s6:=by kernel_rfl
def FF:Option (Bool×Unit):=T (G0 k0 (A0 s0 s1 s2 s3 s4 s5 s6) (A1 s0 s1 s2 s3 s4 s5 s6) k0) s0 s1 s2 s3 s4 s5 s6
theorem aY:dB Tryz.prog (aW dF) aC k0 8 Ih Ht [] (s0,s1,s2,s3,s4,s5,s6,())=FF k0 s0 s1 s2 s3 s4 s5 s6:=Eq.trans (b:=T (L0 k0 k0 (K0 k0 (aB s0 s1 s2 s3 s4 s5 s6))) s0 s1 s2 s3 s4 s5 s6) (by kernel_rfl) (by rw[FF];(try simp only[aS,aZ,dw]);try rfl)
def _root_.Go.Rv.Cm:=fun x:U1=>FF (300+x.2.2.2.2.1.length+x.2.2.2.2.2.1.length+x.2.2.2.2.2.2.1.length) x.1 x.2.1 x.2.2.1 x.2.2.2.1 x.2.2.2.2.1 x.2.2.2.2.2.1 x.2.2.2.2.2.2.1
abbrev _root_.Go.Rv.Qc:aG:=⟨Ih,Ht,Cm,[]⟩
theorem _root_.Go.Rv.PU:aF Dr Tryz.prog 8 Qc:=dJ mix (.c Qk (.c Jo (.c Cc .nil))) (by kernel_rfl) fun x=>⟨aC,_,aY _ _ _ _ _ _ _ _⟩
end kM
def abb.T(o0 o1 o2 o3 o4:Int):Option (U6):=cond (o0==3) (some (8,o1,o2,o3,o4,())) (cond (o0==6) (some (6,o1,o2,o3,o4,())) (cond (o0==7) (some (7,o1,o2,o3,o4,())) (some (0,o1,o2,o3,o4,()))))
def oZ:=fun x:U6=>abb.T x.1 x.2.1 x.2.2.1 x.2.2.2.1 x.2.2.2.2.1
abbrev RD:aG:=⟨[.v true gy],[(true,gy)],oZ,[]⟩
theorem QO:aF Dr Tryz.prog 41 RD:=bg mix .nil (by kernel_rfl) fun x=>by kernel_rfl
def zM.T(e0 e1 e2 e3 e4:Int):Option (Bool×Unit):=(lI (e1,())).bind fun y1=>cond (!y1.1) (cond (e0==8) (cond (!(e1==0)) (some (false,())) (cond (e2 != 0) ((lI (e2,())).bind fun y2=>cond (!y2.1) (some (false,())) (cond (e0==1) ((dZ (e3,())).bind fun y3=>cond y3.1 ((gB (e4,())).bind fun y4=>some (y4.1,())) (some (false,()))) (cond (e0==6) ((dZ (e3,())).bind fun y5=>cond y5.1 ((gB (e4,())).bind fun y6=>some (y6.1,())) (some (false,()))) (cond (e0==2) (cond (e2==0) (cond (e3==0) (some ((e4==0),())) (some (false,()))) (some (false,()))) (cond (e0==7) (cond (e2==0) (cond (e3==0) (some ((e4==0),())) (some (false,()))) (some (false,()))) (cond (e0==3) (cond (e2==0) ((dZ (e3,())).bind fun y7=>cond y7.1 (some ((e4==0),())) (some (false,()))) (some (false,()))) (cond (e0==8) (cond (e2==0) ((dZ (e3,())).bind fun y8=>cond y8.1 (some ((e4==0),())) (some (false,()))) (some (false,()))) (cond (e0==4) (cond (e2==0) ((gB (e3,())).bind fun y9=>cond y9.1 (some ((e4==0),())) (some (false,()))) (some (false,()))) (cond (e0==5) (cond (e3==0) (some ((e4==0),())) (some (false,()))) (some (false,()))))))))))) (cond (e0==1) ((dZ (e3,())).bind fun y10=>cond y10.1 ((gB (e4,())).bind fun y11=>some (y11.1,())) (some (false,()))) (cond (e0==6) ((dZ (e3,())).bind fun y12=>cond y12.1 ((gB (e4,())).bind fun y13=>some (y13.1,())) (some (false,()))) (cond (e0==2) (cond (e2==0) (cond (e3==0) (some ((e4==0),())) (some (false,()))) (some (false,()))) (cond (e0==7) (cond (e2==0) (cond (e3==0) (some ((e4==0),())) (some (false,()))) (some (false,()))) (cond (e0==3) (cond (e2==0) ((dZ (e3,())).bind fun y14=>cond y14.1 (some ((e4==0),())) (some (false,()))) (some (false,()))) (cond (e0==8) (cond (e2==0) ((dZ (e3,())).bind fun y15=>cond y15.1 (some ((e4==0),())) (some (false,()))) (some (false,()))) (cond (e0==4) (cond (e2==0) ((gB (e3,())).bind fun y16=>cond y16.1 (some ((e4==0),())) (some (false,()))) (some (false,()))) (cond (e0==5) (cond (e3==0) (some ((e4==0),())) (some (false,()))) (some (false,())))))))))))) (some (false,()))) (cond (e2 != 0) ((lI (e2,())).bind fun y17=>cond (!y17.1) (some (false,())) (cond (e0==1) ((dZ (e3,())).bind fun y18=>cond y18.1 ((gB (e4,())).bind fun y19=>some (y19.1,())) (some (false,()))) (cond (e0==6) ((dZ (e3,())).bind fun y20=>cond y20.1 ((gB (e4,())).bind fun y21=>some (y21.1,())) (some (false,()))) (cond (e0==2) (cond (e2==0) (cond (e3==0) (some ((e4==0),())) (some (false,()))) (some (false,()))) (cond (e0==7) (cond (e2==0) (cond (e3==0) (some ((e4==0),())) (some (false,()))) (some (false,()))) (cond (e0==3) (cond (e2==0) ((dZ (e3,())).bind fun y22=>cond y22.1 (some ((e4==0),())) (some (false,()))) (some (false,()))) (cond (e0==8) (cond (e2==0) ((dZ (e3,())).bind fun y23=>cond y23.1 (some ((e4==0),())) (some (false,()))) (some (false,()))) (cond (e0==4) (cond (e2==0) ((gB (e3,())).bind fun y24=>cond y24.1 (some ((e4==0),())) (some (false,()))) (some (false,()))) (cond (e0==5) (cond (e3==0) (some ((e4==0),())) (some (false,()))) (some (false,()))))))))))) (cond (e0==1) ((dZ (e3,())).bind fun y25=>cond y25.1 ((gB (e4,())).bind fun y26=>some (y26.1,())) (some (false,()))) (cond (e0==6) ((dZ (e3,())).bind fun y27=>cond y27.1 ((gB (e4,())).bind fun y28=>some (y28.1,())) (some (false,()))) (cond (e0==2) (cond (e2==0) (cond (e3==0) (some ((e4==0),())) (some (false,()))) (some (false,()))) (cond (e0==7) (cond (e2==0) (cond (e3==0) (some ((e4==0),())) (some (false,()))) (some (false,()))) (cond (e0==3) (cond (e2==0) ((dZ (e3,())).bind fun y29=>cond y29.1 (some ((e4==0),())) (some (false,()))) (some (false,()))) (cond (e0==8) (cond (e2==0) ((dZ (e3,())).bind fun y30=>cond y30.1 (some ((e4==0),())) (some (false,()))) (some (false,()))) (cond (e0==4) (cond (e2==0) ((gB (e3,())).bind fun y31=>cond y31.1 (some ((e4==0),())) (some (false,()))) (some (false,()))) (cond (e0==5) (cond (e3==0) (some ((e4==0),())) (some (false,()))) (some (false,())))))))))))
def jQ:=fun x:U6=>zM.T x.1 x.2.1 x.2.2.1 x.2.2.2.1 x.2.2.2.2.1
abbrev aaj:aG:=⟨[.v true gy],[(false,[CT.bool])],jQ,[]⟩
theorem Ql:aF Dr Tryz.prog 81 aaj:=bg mix (.c uo (.c zT (.c CQ .nil))) (by kernel_rfl) fun x=>by kernel_rfl
def TL.T(o0 o1 o2 o3 o4:Int):Option (Bool×Unit):=cond (o0==1) ((lI (o1,())).bind fun y1=>cond y1.1 (cond (o2==0) ((dZ (o3,())).bind fun y2=>cond y2.1 ((gB (o4,())).bind fun y3=>some (y3.1,())) (some (false,()))) ((lI (o2,())).bind fun y4=>cond y4.1 ((dZ (o3,())).bind fun y5=>cond y5.1 ((gB (o4,())).bind fun y6=>some (y6.1,())) (some (false,()))) (some (false,())))) (some (false,()))) (cond (o0==2) ((lI (o1,())).bind fun y7=>cond y7.1 (cond (o2==0) (cond (o3==0) (some ((o4==0),())) (some (false,()))) (some (false,()))) (some (false,()))) (cond (o0==4) (cond (o1==0) (cond (o2==0) (cond (o3==0) (some ((o4==0),())) (some (false,()))) (some (false,()))) (some (false,()))) (cond (o0==5) (cond (o1==0) (cond (o2==0) (cond (o3==0) (some ((o4==0),())) (some (false,()))) (some (false,()))) (some (false,()))) (cond (o0==6) ((oZ (o0,o1,o2,o3,o4,())).bind fun y8=>(jQ (y8.1,y8.2.1,y8.2.2.1,y8.2.2.2.1,y8.2.2.2.2.1,())).bind fun y9=>cond y9.1 (some ((decide (o2<o1)),())) (some (false,()))) (cond (o0==3) ((oZ (o0,o1,o2,o3,o4,())).bind fun y10=>(jQ (y10.1,y10.2.1,y10.2.2.1,y10.2.2.2.1,y10.2.2.2.2.1,())).bind fun y11=>some (y11.1,())) (cond (o0==7) ((oZ (o0,o1,o2,o3,o4,())).bind fun y12=>(jQ (y12.1,y12.2.1,y12.2.2.1,y12.2.2.2.1,y12.2.2.2.2.1,())).bind fun y13=>some (y13.1,())) (some (false,()))))))))
def DW:=fun x:U6=>TL.T x.1 x.2.1 x.2.2.1 x.2.2.2.1 x.2.2.2.2.1
abbrev SS:aG:=⟨[.v true gy],[(false,[CT.bool])],DW,[]⟩
theorem aaZ:aF Dr Tryz.prog 35 SS:=bg mix (.c QO (.c uo (.c zT (.c CQ (.c Ql .nil))))) (by kernel_rfl) fun x=>by kernel_rfl
def aaW.T(code:Int):Option (U0):=some (0,0,0,0,[],[],[],0,0,code,())
def lZ:=fun x:Int×Unit=>aaW.T x.1
abbrev J8:aG:=⟨[.v false [CT.int .i64]],[(true,Fz)],lZ,[]⟩
theorem Qx:aF Dr Tryz.prog 36 J8:=bg mix .nil (by kernel_rfl) fun x=>by kernel_rfl
abbrev IY:Is:=[.v true gu,.v false [CT.int .i64]]
abbrev Iw:Os:=[(false,[CT.int .i64])]
namespace wP
def aC:Nat→List Nat×List Nat:=fun k=>if k=2 then([1,2,5],[4])else([],[])
def zrc{R:Type}(k0:Nat)(p:List Nat):Env→List Ob→au R→Option R:=bJ Tryz.prog (aW []) 22 0 aC k0 (cO p (dI Tryz.prog 38))
def R0{R:Type}(nx0:tY R)(ex0:Y2 R)(ex1:dY R)(id2 i f:Int)(f3 f4:List U8):Option R:=cond (decide (i<(f4.length:Int))) (if 0≤i∧i<(f4.length:Int)then cond ((rd (0,0,0,0,()) f4 i).1==id2) (ex0 i) (nx0 id2 (af (i+1)) f f3 f4)else none) (ex1 ())
def A0(f0:Int)(f1 f2:List U8)(id:Int)(t4x:Int):Option (Int×Unit):=some (t4x,())
def A1(f0:Int)(f1 f2:List U8)(id:Int)(_u:Unit):Option (Int×Unit):=some ((-1),())
def T(lo0:tY (Int×Unit))(f0:Int)(f1 f2:List U8)(id:Int):Option (Int×Unit):=lo0 id 0 f0 f1 f2
def K0{R:Type}(k0:Nat)(K:au R):au R:=bF 0 (bI (fun env ob=>zrc k0 [1,1] env ob (K)) (K))
def L0:tY R:=fun id2 i f f3 f4=>iter 0 [1,2,5] [4] (zrc k0 [1,0,1,0,0]) k [(1,.int .i64 id2),(2,.ptr 0 0 0 0),(5,.int .i64 i)] [.box [.int .i64 f,.sl aA f3,.sl aA f4]] K
def H0:Y2 R:=fun t4x=>K .ret [(4,.int .i64 t4x)] []
def H1:dY R:=fun _=>K (.exit 0) [(4,.undef)] []
theorem zs0:L0 k0 (k+1) K=R0 (L0 k0 k K) (H0 K) (H1 K):=by kernel_rfl
def G0{R:Type}(k0:Nat)(hx0:Y2 R)(hx1:dY R):Nat→tY R
 |0=>fun _ _ _ _ _=>none
 |k+1=>R0 (G0 k0 hx0 hx1 k) hx0 hx1
theorem aS:∀ k,L0 k0 k K=G0 k0 (H0 K) (H1 K) k:=bK rfl fun k ih=>by rw[zs0,G0];(try simp only[ih]);try rfl
variable (f0:Int) (f1 f2:List U8) (id:Int)
def aB:au (Int×Unit):=dm Tryz.prog [.tmp 4] IY Iw (f0,f1,f2,id,())
theorem aZ:H0 (K0 k0 (aB f0 f1 f2 id))=A0 f0 f1 f2 id:=by kernel_rfl
theorem dw:H1 (K0 k0 (aB f0 f1 f2 id))=A1 f0 f1 f2 id:=by kernel_rfl
def FF:Option (Int×Unit):=T (G0 k0 (A0 f0 f1 f2 id) (A1 f0 f1 f2 id) k0) f0 f1 f2 id
theorem aY:dB Tryz.prog (aW []) aC k0 38 IY Iw [] (f0,f1,f2,id,())=FF k0 f0 f1 f2 id:=Eq.trans (b:=T (L0 k0 k0 (K0 k0 (aB f0 f1 f2 id))) f0 f1 f2 id) (by kernel_rfl) (by rw[FF];(try simp only[aS,aZ,dw]);try rfl)
def _root_.Go.Rv.qo:=fun x:Int×(List U8)×(List U8)×Int×Unit=>FF (300+x.2.1.length+x.2.2.1.length) x.1 x.2.1 x.2.2.1 x.2.2.2.1
abbrev _root_.Go.Rv.CZ:aG:=⟨IY,Iw,qo,[]⟩
theorem _root_.Go.Rv.CP:aF Dr Tryz.prog 38 CZ:=dJ mix .nil (by kernel_rfl) fun x=>⟨aC,_,aY _ _ _ _ _⟩
end wP
def aaX.T(code:Int):Option (U2):=some (0,[],[],0,code,())
def jv:=fun x:Int×Unit=>aaX.T x.1
abbrev Dl:aG:=⟨[.v false [CT.int .i64]],[(true,BB)],jv,[]⟩
theorem CX:aF Dr Tryz.prog 87 Dl:=bg mix .nil (by kernel_rfl) fun x=>by kernel_rfl
def Sz.T(f0:Int)(f1 f2:List U8):Option (U3):=if([]:List U8).length+f1.length≤maxRow then if([]:List U8).length+f2.length≤maxRow then some (f0,(([]:List U8)++f1),(([]:List U8)++f2),())else none else none
def pq:=fun x:U3=>Sz.T x.1 x.2.1 x.2.2.1
abbrev Du:aG:=⟨[.v true gu],[(true,gu)],pq,[]⟩
theorem zH:aF Dr Tryz.prog 88 Du:=bg mix .nil (by kernel_rfl) fun x=>by kernel_rfl
abbrev JF:Is:=[.v true gu,.v true gy]
abbrev Jf:Os:=[(true,BB)]
namespace kQ
def dF:Tb:=[(38,[],CZ),(65,[],wM),(87,[],Dl),(88,[],Du)]
def aC:Nat→List Nat×List Nat:=fun k=>if k=11 then([2,3,4,5,6,7],[3,4,5,6])else([],[])
def zrc{R:Type}(k0:Nat)(p:List Nat):Env→List Ob→au R→Option R:=bJ Tryz.prog (aW dF) 96 0 aC k0 (cO p (dI Tryz.prog 89))
def R0{R:Type}(nx0:tV R)(ex0:yV R)(done:Bool)(i f:Int)(f3 f4:List U8)(e e5 e6 e7 e8 t4x t4x2 t4x3 out:Int)(o4 o5:List U8):Option R:=cond (decide (i<(f4.length:Int))) (cond (!done) (if 0≤i∧i<(f4.length:Int)then cond (decide ((rd (0,0,0,0,()) f4 i).1>e5)) (if o5.length+[(e5,e6,e7,e8,())].length≤maxRow then if 0≤i∧i<(f4.length:Int)then if(o5++[(e5,e6,e7,e8,())]).length+[((rd (0,0,0,0,()) f4 i).1,(rd (0,0,0,0,()) f4 i).2.1,(rd (0,0,0,0,()) f4 i).2.2.1,(rd (0,0,0,0,()) f4 i).2.2.2.1,())].length≤maxRow then nx0 true (af (i+1)) f f3 f4 e e5 e6 e7 e8 t4x t4x2 t4x3 out o4 ((o5++[(e5,e6,e7,e8,())])++[((rd (0,0,0,0,()) f4 i).1,(rd (0,0,0,0,()) f4 i).2.1,(rd (0,0,0,0,()) f4 i).2.2.1,(rd (0,0,0,0,()) f4 i).2.2.2.1,())])else none else none else none) (if 0≤i∧i<(f4.length:Int)then if o5.length+[((rd (0,0,0,0,()) f4 i).1,(rd (0,0,0,0,()) f4 i).2.1,(rd (0,0,0,0,()) f4 i).2.2.1,(rd (0,0,0,0,()) f4 i).2.2.2.1,())].length≤maxRow then nx0 done (af (i+1)) f f3 f4 e e5 e6 e7 e8 t4x t4x2 t4x3 out o4 (o5++[((rd (0,0,0,0,()) f4 i).1,(rd (0,0,0,0,()) f4 i).2.1,(rd (0,0,0,0,()) f4 i).2.2.1,(rd (0,0,0,0,()) f4 i).2.2.2.1,())])else none else none)else none) (if 0≤i∧i<(f4.length:Int)then if o5.length+[((rd (0,0,0,0,()) f4 i).1,(rd (0,0,0,0,()) f4 i).2.1,(rd (0,0,0,0,()) f4 i).2.2.1,(rd (0,0,0,0,()) f4 i).2.2.2.1,())].length≤maxRow then nx0 done (af (i+1)) f f3 f4 e e5 e6 e7 e8 t4x t4x2 t4x3 out o4 (o5++[((rd (0,0,0,0,()) f4 i).1,(rd (0,0,0,0,()) f4 i).2.1,(rd (0,0,0,0,()) f4 i).2.2.1,(rd (0,0,0,0,()) f4 i).2.2.2.1,())])else none else none)) (ex0 done e e5 e6 e7 e8 t4x t4x2 t4x3 out o4 o5)
def A0(f0:Int)(f1 f2:List U8)(e0 e1 e2 e3 e4:Int)(done:Bool)(e e5 e6 e7 e8 t4x t4x2 t4x3 out:Int)(o3 o4:List U8):Option (U2):=cond (!done) (if o4.length+[(e5,e6,e7,e8,())].length≤maxRow then some (out,o3,(o4++[(e5,e6,e7,e8,())]),0,0,())else none) (some (out,o3,o4,0,0,()))
def T(lo0:tV (U2))(f0:Int)(f1 f2:List U8)(e0 e1 e2 e3 e4:Int):Option (U2):=(qo (f0,f1,f2,e1,())).bind fun y1=>cond (decide (y1.1≥0)) ((jv (5,())).bind fun y2=>some (y2.1,y2.2.1,y2.2.2.1,y2.2.2.2.1,y2.2.2.2.2.1,())) (cond (e2 != 0) ((jR (f0,f1,f2,e2,())).bind fun y3=>cond (decide (y3.1<0)) ((jv (4,())).bind fun y4=>some (y4.1,y4.2.1,y4.2.2.1,y4.2.2.2.1,y4.2.2.2.2.1,())) (cond (decide ((f2.length:Int)≥60)) ((jv (6,())).bind fun y5=>some (y5.1,y5.2.1,y5.2.2.1,y5.2.2.2.1,y5.2.2.2.2.1,())) ((pq (f0,f1,f2,())).bind fun y6=>lo0 false 0 f0 f1 f2 e0 e1 e2 e3 e4 0 0 0 y6.1 y6.2.1 ([]:List U8)))) (cond (decide ((f2.length:Int)≥60)) ((jv (6,())).bind fun y7=>some (y7.1,y7.2.1,y7.2.2.1,y7.2.2.2.1,y7.2.2.2.2.1,())) ((pq (f0,f1,f2,())).bind fun y8=>lo0 false 0 f0 f1 f2 e0 e1 e2 e3 e4 0 0 0 y8.1 y8.2.1 ([]:List U8))))
def K0{R:Type}(k0:Nat)(K:au R):au R:=bF 0 (bI (fun env ob=>zrc k0 [1,1,1,1,1,1,1,1] env ob (K)) (K))
def L0:tV R:=fun done i f f3 f4 e e5 e6 e7 e8 t4x t4x2 t4x3 out o4 o5=>iter 0 [2,3,4,5,6,7] [3,4,5,6] (zrc k0 [1,1,1,1,1,1,1,0,1,0,0]) k [(2,.ptr 0 0 0 0),(3,.ptr 1 0 0 0),(4,.ptr 2 0 0 0),(5,.ptr 3 0 0 0),(6,.bool done),(7,.int .i64 i)] [.box [.int .i64 f,.sl aA f3,.sl aA f4],.box [.int .i64 e,.int .i64 e5,.int .i64 e6,.int .i64 e7,.int .i64 e8],.box [.int .i64 t4x,.nils,.nils,.int .i64 t4x2,.int .i64 t4x3],.box [.int .i64 out,.own 4,.own 5],.arr aA o4,.arr aA o5] K
def H0:yV R:=fun done e e5 e6 e7 e8 t4x t4x2 t4x3 out o3 o4=>K (.exit 0) [(3,.ptr 0 0 0 0),(4,.ptr 1 0 0 0),(5,.ptr 2 0 0 0),(6,.bool done)] [.box [.int .i64 e,.int .i64 e5,.int .i64 e6,.int .i64 e7,.int .i64 e8],.box [.int .i64 t4x,.nils,.nils,.int .i64 t4x2,.int .i64 t4x3],.box [.int .i64 out,.own 3,.own 4],.arr aA o3,.arr aA o4]
theorem zs0:L0 k0 (k+1) K=R0 (L0 k0 k K) (H0 K):=by kernel_rfl
def G0{R:Type}(k0:Nat)(hx0:yV R):Nat→tV R
 |0=>fun _ _ _ _ _ _ _ _ _ _ _ _ _ _ _ _=>none
 |k+1=>R0 (G0 k0 hx0 k) hx0
theorem aS:∀ k,L0 k0 k K=G0 k0 (H0 K) k:=bK rfl fun k ih=>by rw[zs0,G0];(try simp only[ih]);try rfl
variable (f0:Int) (f1 f2:List U8) (e0 e1 e2 e3 e4:Int)
def aB:au (U2):=dm Tryz.prog [.cell 4 81] JF Jf (f0,f1,f2,e0,e1,e2,e3,e4,())
theorem aZ:H0 (K0 k0 (aB f0 f1 f2 e0 e1 e2 e3 e4))=A0 f0 f1 f2 e0 e1 e2 e3 e4:=by kernel_rfl
def FF:Option (U2):=T (G0 k0 (A0 f0 f1 f2 e0 e1 e2 e3 e4) k0) f0 f1 f2 e0 e1 e2 e3 e4
theorem aY:dB Tryz.prog (aW dF) aC k0 89 JF Jf [] (f0,f1,f2,e0,e1,e2,e3,e4,())=FF k0 f0 f1 f2 e0 e1 e2 e3 e4:=Eq.trans (b:=T (L0 k0 k0 (K0 k0 (aB f0 f1 f2 e0 e1 e2 e3 e4))) f0 f1 f2 e0 e1 e2 e3 e4) (by kernel_rfl) (by rw[FF];(try simp only[aS,aZ]);try rfl)
def _root_.Go.Rv.Dw:=fun x:Int×(List U8)×(List U8)×U6=>FF (300+x.2.1.length+x.2.2.1.length) x.1 x.2.1 x.2.2.1 x.2.2.2.1 x.2.2.2.2.1 x.2.2.2.2.2.1 x.2.2.2.2.2.2.1 x.2.2.2.2.2.2.2.1
abbrev _root_.Go.Rv.aaN:aG:=⟨JF,Jf,Dw,[]⟩
theorem _root_.Go.Rv.aam:aF Dr Tryz.prog 89 aaN:=dJ mix (.c CP (.c wJ (.c CX (.c zH .nil)))) (by kernel_rfl) fun x=>⟨aC,_,aY _ _ _ _ _ _ _ _ _⟩
end kQ
abbrev Jp:Is:=[.v true gu,.v true gy]
abbrev IL:Os:=[(true,BB)]
namespace iW
def dF:Tb:=[(65,[],wM),(87,[],Dl),(88,[],Du)]
def aC:Nat→List Nat×List Nat:=fun k=>if k=13 then([2,3,4,5,6,7],[3,4,5,6])else([],[])
def zrc{R:Type}(k0:Nat)(p:List Nat):Env→List Ob→au R→Option R:=bJ Tryz.prog (aW dF) 102 0 aC k0 (cO p (dI Tryz.prog 90))
def R0{R:Type}(nx0:tV R)(ex0:yV R)(done:Bool)(i f:Int)(f3 f4:List U8)(e e5 e6 e7 e8 t4x t4x2 t4x3 out:Int)(o4 o5:List U8):Option R:=cond (decide (i<(f3.length:Int))) (cond (!done) (if 0≤i∧i<(f3.length:Int)then cond (decide ((rd (0,0,0,0,()) f3 i).1>e5)) (if o4.length+[(e5,e6,e7,e8,())].length≤maxRow then if 0≤i∧i<(f3.length:Int)then if(o4++[(e5,e6,e7,e8,())]).length+[((rd (0,0,0,0,()) f3 i).1,(rd (0,0,0,0,()) f3 i).2.1,(rd (0,0,0,0,()) f3 i).2.2.1,(rd (0,0,0,0,()) f3 i).2.2.2.1,())].length≤maxRow then nx0 true (af (i+1)) f f3 f4 e e5 e6 e7 e8 t4x t4x2 t4x3 out ((o4++[(e5,e6,e7,e8,())])++[((rd (0,0,0,0,()) f3 i).1,(rd (0,0,0,0,()) f3 i).2.1,(rd (0,0,0,0,()) f3 i).2.2.1,(rd (0,0,0,0,()) f3 i).2.2.2.1,())]) o5 else none else none else none) (if 0≤i∧i<(f3.length:Int)then if o4.length+[((rd (0,0,0,0,()) f3 i).1,(rd (0,0,0,0,()) f3 i).2.1,(rd (0,0,0,0,()) f3 i).2.2.1,(rd (0,0,0,0,()) f3 i).2.2.2.1,())].length≤maxRow then nx0 done (af (i+1)) f f3 f4 e e5 e6 e7 e8 t4x t4x2 t4x3 out (o4++[((rd (0,0,0,0,()) f3 i).1,(rd (0,0,0,0,()) f3 i).2.1,(rd (0,0,0,0,()) f3 i).2.2.1,(rd (0,0,0,0,()) f3 i).2.2.2.1,())]) o5 else none else none)else none) (if 0≤i∧i<(f3.length:Int)then if o4.length+[((rd (0,0,0,0,()) f3 i).1,(rd (0,0,0,0,()) f3 i).2.1,(rd (0,0,0,0,()) f3 i).2.2.1,(rd (0,0,0,0,()) f3 i).2.2.2.1,())].length≤maxRow then nx0 done (af (i+1)) f f3 f4 e e5 e6 e7 e8 t4x t4x2 t4x3 out (o4++[((rd (0,0,0,0,()) f3 i).1,(rd (0,0,0,0,()) f3 i).2.1,(rd (0,0,0,0,()) f3 i).2.2.1,(rd (0,0,0,0,()) f3 i).2.2.2.1,())]) o5 else none else none)) (ex0 done e e5 e6 e7 e8 t4x t4x2 t4x3 out o4 o5)
def A0(f0:Int)(f1 f2:List U8)(e0 e1 e2 e3 e4:Int)(done:Bool)(e e5 e6 e7 e8 t4x t4x2 t4x3 out:Int)(o3 o4:List U8):Option (U2):=cond (!done) (if o3.length+[(e5,e6,e7,e8,())].length≤maxRow then some (out,(o3++[(e5,e6,e7,e8,())]),o4,0,0,())else none) (some (out,o3,o4,0,0,()))
def T(lo0:tV (U2))(f0:Int)(f1 f2:List U8)(e0 e1 e2 e3 e4:Int):Option (U2):=cond (decide (e2≥e1)) ((jv (1,())).bind fun y1=>some (y1.1,y1.2.1,y1.2.2.1,y1.2.2.2.1,y1.2.2.2.2.1,())) ((jR (f0,f1,f2,e1,())).bind fun y2=>cond (decide (y2.1≥0)) ((jv (5,())).bind fun y3=>some (y3.1,y3.2.1,y3.2.2.1,y3.2.2.2.1,y3.2.2.2.2.1,())) (cond (e2 != 0) ((jR (f0,f1,f2,e2,())).bind fun y4=>cond (decide (y4.1<0)) ((jv (4,())).bind fun y5=>some (y5.1,y5.2.1,y5.2.2.1,y5.2.2.2.1,y5.2.2.2.2.1,())) (cond (decide ((f1.length:Int)≥30)) ((jv (6,())).bind fun y6=>some (y6.1,y6.2.1,y6.2.2.1,y6.2.2.2.1,y6.2.2.2.2.1,())) ((pq (f0,f1,f2,())).bind fun y7=>lo0 false 0 f0 f1 f2 e0 e1 e2 e3 e4 0 0 0 y7.1 ([]:List U8) y7.2.2.1))) (cond (decide ((f1.length:Int)≥30)) ((jv (6,())).bind fun y8=>some (y8.1,y8.2.1,y8.2.2.1,y8.2.2.2.1,y8.2.2.2.2.1,())) ((pq (f0,f1,f2,())).bind fun y9=>lo0 false 0 f0 f1 f2 e0 e1 e2 e3 e4 0 0 0 y9.1 ([]:List U8) y9.2.2.1))))
def K0{R:Type}(k0:Nat)(K:au R):au R:=bF 0 (bI (fun env ob=>zrc k0 [1,1,1,1,1,1,1,1,1] env ob (K)) (K))
def L0:tV R:=fun done i f f3 f4 e e5 e6 e7 e8 t4x t4x2 t4x3 out o4 o5=>iter 0 [2,3,4,5,6,7] [3,4,5,6] (zrc k0 [1,1,1,1,1,1,1,1,0,1,0,0]) k [(2,.ptr 0 0 0 0),(3,.ptr 1 0 0 0),(4,.ptr 2 0 0 0),(5,.ptr 3 0 0 0),(6,.bool done),(7,.int .i64 i)] [.box [.int .i64 f,.sl aA f3,.sl aA f4],.box [.int .i64 e,.int .i64 e5,.int .i64 e6,.int .i64 e7,.int .i64 e8],.box [.int .i64 t4x,.nils,.nils,.int .i64 t4x2,.int .i64 t4x3],.box [.int .i64 out,.own 4,.own 5],.arr aA o4,.arr aA o5] K
def H0:yV R:=fun done e e5 e6 e7 e8 t4x t4x2 t4x3 out o3 o4=>K (.exit 0) [(3,.ptr 0 0 0 0),(4,.ptr 1 0 0 0),(5,.ptr 2 0 0 0),(6,.bool done)] [.box [.int .i64 e,.int .i64 e5,.int .i64 e6,.int .i64 e7,.int .i64 e8],.box [.int .i64 t4x,.nils,.nils,.int .i64 t4x2,.int .i64 t4x3],.box [.int .i64 out,.own 3,.own 4],.arr aA o3,.arr aA o4]
theorem zs0:L0 k0 (k+1) K=R0 (L0 k0 k K) (H0 K):=by kernel_rfl
def G0{R:Type}(k0:Nat)(hx0:yV R):Nat→tV R
 |0=>fun _ _ _ _ _ _ _ _ _ _ _ _ _ _ _ _=>none
 |k+1=>R0 (G0 k0 hx0 k) hx0
theorem aS:∀ k,L0 k0 k K=G0 k0 (H0 K) k:=bK rfl fun k ih=>by rw[zs0,G0];(try simp only[ih]);try rfl
variable (f0:Int) (f1 f2:List U8) (e0 e1 e2 e3 e4:Int)
def aB:au (U2):=dm Tryz.prog [.cell 4 81] Jp IL (f0,f1,f2,e0,e1,e2,e3,e4,())
theorem aZ:H0 (K0 k0 (aB f0 f1 f2 e0 e1 e2 e3 e4))=A0 f0 f1 f2 e0 e1 e2 e3 e4:=by kernel_rfl
def FF:Option (U2):=T (G0 k0 (A0 f0 f1 f2 e0 e1 e2 e3 e4) k0) f0 f1 f2 e0 e1 e2 e3 e4
theorem aY:dB Tryz.prog (aW dF) aC k0 90 Jp IL [] (f0,f1,f2,e0,e1,e2,e3,e4,())=FF k0 f0 f1 f2 e0 e1 e2 e3 e4:=Eq.trans (b:=T (L0 k0 k0 (K0 k0 (aB f0 f1 f2 e0 e1 e2 e3 e4))) f0 f1 f2 e0 e1 e2 e3 e4) (by kernel_rfl) (by rw[FF];(try simp only[aS,aZ]);try rfl)
def _root_.Go.Rv.uw:=fun x:Int×(List U8)×(List U8)×U6=>FF (300+x.2.1.length+x.2.2.1.length) x.1 x.2.1 x.2.2.1 x.2.2.2.1 x.2.2.2.2.1 x.2.2.2.2.2.1 x.2.2.2.2.2.2.1 x.2.2.2.2.2.2.2.1
abbrev _root_.Go.Rv.aaB:aG:=⟨Jp,IL,uw,[]⟩
theorem _root_.Go.Rv.Z7:aF Dr Tryz.prog 90 aaB:=dJ mix (.c wJ (.c CX (.c zH .nil))) (by kernel_rfl) fun x=>⟨aC,_,aY _ _ _ _ _ _ _ _ _⟩
end iW
abbrev JG:Is:=[.v true gu,.v true gy]
abbrev Jg:Os:=[(true,BB)]
namespace iY
def dF:Tb:=[(65,[],wM),(87,[],Dl),(88,[],Du)]
def aC:Nat→List Nat×List Nat:=fun k=>if k=5 then([2,3,4,5,6],[2,3,4,5])else if k=10 then([2,3,4,5,7],[2,4,5])else([],[])
def zrc{R:Type}(k0:Nat)(p:List Nat):Env→List Ob→au R→Option R:=bJ Tryz.prog (aW dF) 67 0 aC k0 (cO p (dI Tryz.prog 91))
def R0{R:Type}(nx0:tN R)(ex0:Pg R)(ex1:Pe R)(atx i f:Int)(f3 f4:List U8)(e e5 e6 e7 e8 t4x t4x2 t4x3:Int):Option R:=cond (decide (i<(f3.length:Int))) (if 0≤i∧i<(f3.length:Int)then cond ((rd (0,0,0,0,()) f3 i).2.1==e5) ((jv (9,())).bind fun y1=>ex0 atx f f3 f4 e e5 e6 e7 e8 y1.1 y1.2.2.2.1 y1.2.2.2.2.1 y1.2.1 y1.2.2.1) (nx0 atx (af (i+1)) f f3 f4 e e5 e6 e7 e8 t4x t4x2 t4x3)else none) (ex1 atx f f3 f4 e e5 e6 e7 e8 t4x t4x2 t4x3)
def R1{R:Type}(nx1:tN R)(ex2:O9 R)(ex3:O8 R)(atx i f:Int)(f3 f4:List U8)(e e5 e6 e7 e8 t4x t4x2 t4x3:Int):Option R:=cond (decide (i<(f4.length:Int))) (if 0≤i∧i<(f4.length:Int)then cond ((rd (0,0,0,0,()) f4 i).2.1==e5) ((jv (9,())).bind fun y1=>ex2 atx f f3 f4 y1.1 y1.2.2.2.1 y1.2.2.2.2.1 y1.2.1 y1.2.2.1) (nx1 atx (af (i+1)) f f3 f4 e e5 e6 e7 e8 t4x t4x2 t4x3)else none) (ex3 atx f f3 f4 t4x t4x2 t4x3)
def A0(f0:Int)(f1 f2:List U8)(e0 e1 e2 e3 e4:Int)(atx f:Int)(f3 f4:List U8)(e e5 e6 e7 e8 t4x t4x2 t4x3:Int)(o3 o4:List U8):Option (U2):=some (t4x,o3,o4,t4x2,t4x3,())
def A1(lo1:tN (U2))(f0:Int)(f1 f2:List U8)(e0 e1 e2 e3 e4:Int)(atx f:Int)(f3 f4:List U8)(e e5 e6 e7 e8 t4x t4x2 t4x3:Int):Option (U2):=lo1 atx 0 f f3 f4 e e5 e6 e7 e8 t4x t4x2 t4x3
def A2(f0:Int)(f1 f2:List U8)(e0 e1 e2 e3 e4:Int)(atx f:Int)(f3 f4:List U8)(t4x t4x2 t4x3:Int)(o2 o3:List U8):Option (U2):=some (t4x,o2,o3,t4x2,t4x3,())
def A3(f0:Int)(f1 f2:List U8)(e0 e1 e2 e3 e4:Int)(atx f:Int)(f3 f4:List U8)(t4x t4x2 t4x3:Int):Option (U2):=(pq (f,f3,f4,())).bind fun y1=>if 0≤atx∧atx≤(f3.length:Int)then if([]:List U8).length+(f3.take (atx.toNat)).length≤maxRow then if 0≤(af (atx+1))∧(af (atx+1))≤(f3.length:Int)then if(([]:List U8)++(f3.take (atx.toNat))).length+(f3.drop ((af (atx+1)).toNat)).length≤maxRow then some (y1.1,((([]:List U8)++(f3.take (atx.toNat)))++(f3.drop ((af (atx+1)).toNat))),y1.2.2.1,0,0,())else none else none else none else none
def T(lo0:tN (U2))(f0:Int)(f1 f2:List U8)(e0 e1 e2 e3 e4:Int):Option (U2):=(jR (f0,f1,f2,e1,())).bind fun y1=>cond (decide (y1.1<0)) ((jv (4,())).bind fun y2=>some (y2.1,y2.2.1,y2.2.2.1,y2.2.2.2.1,y2.2.2.2.2.1,())) (lo0 y1.1 0 f0 f1 f2 e0 e1 e2 e3 e4 0 0 0)
def K0{R:Type}(k0:Nat)(K:au R):au R:=bF 0 (bI (fun env ob=>zrc k0 [1,1,1,1] env ob (K)) (K))
def K1{R:Type}(k0:Nat)(K:au R):au R:=bF 2 (bI (fun env ob=>zrc k0 [1,1,1,1,1] env ob (K)) (K))
def L0:tN R:=fun atx i f f3 f4 e e5 e6 e7 e8 t4x t4x2 t4x3=>iter 0 [2,3,4,5,6] [2,3,4,5] (zrc k0 [1,1,1,0,1,0,0]) k [(2,.ptr 0 0 0 0),(3,.ptr 1 0 0 0),(4,.ptr 2 0 0 0),(5,.int .i64 atx),(6,.int .i64 i)] [.box [.int .i64 f,.sl aA f3,.sl aA f4],.box [.int .i64 e,.int .i64 e5,.int .i64 e6,.int .i64 e7,.int .i64 e8],.box [.int .i64 t4x,.nils,.nils,.int .i64 t4x2,.int .i64 t4x3]] K
def L1:tN R:=fun atx i f f3 f4 e e5 e6 e7 e8 t4x t4x2 t4x3=>iter 0 [2,3,4,5,7] [2,4,5] (zrc k0 [1,1,1,1,0,1,0,0]) k [(2,.ptr 0 0 0 0),(3,.ptr 1 0 0 0),(4,.ptr 2 0 0 0),(5,.int .i64 atx),(7,.int .i64 i)] [.box [.int .i64 f,.sl aA f3,.sl aA f4],.box [.int .i64 e,.int .i64 e5,.int .i64 e6,.int .i64 e7,.int .i64 e8],.box [.int .i64 t4x,.nils,.nils,.int .i64 t4x2,.int .i64 t4x3]] K
def H0:Pg R:=fun atx f f3 f4 e e5 e6 e7 e8 t4x t4x2 t4x3 o3 o4=>K .ret [(2,.ptr 0 0 0 0),(3,.ptr 1 0 0 0),(4,.ptr 2 0 0 0),(5,.int .i64 atx)] [.box [.int .i64 f,.sl aA f3,.sl aA f4],.box [.int .i64 e,.int .i64 e5,.int .i64 e6,.int .i64 e7,.int .i64 e8],.box [.int .i64 t4x,.own 3,.own 4,.int .i64 t4x2,.int .i64 t4x3],.arr aA o3,.arr aA o4]
def H1:Pe R:=fun atx f f3 f4 e e5 e6 e7 e8 t4x t4x2 t4x3=>K (.exit 0) [(2,.ptr 0 0 0 0),(3,.ptr 1 0 0 0),(4,.ptr 2 0 0 0),(5,.int .i64 atx)] [.box [.int .i64 f,.sl aA f3,.sl aA f4],.box [.int .i64 e,.int .i64 e5,.int .i64 e6,.int .i64 e7,.int .i64 e8],.box [.int .i64 t4x,.nils,.nils,.int .i64 t4x2,.int .i64 t4x3]]
def H2:O9 R:=fun atx f f3 f4 t4x t4x2 t4x3 o2 o3=>K .ret [(2,.ptr 0 0 0 0),(4,.ptr 1 0 0 0),(5,.int .i64 atx)] [.box [.int .i64 f,.sl aA f3,.sl aA f4],.box [.int .i64 t4x,.own 2,.own 3,.int .i64 t4x2,.int .i64 t4x3],.arr aA o2,.arr aA o3]
def H3:O8 R:=fun atx f f3 f4 t4x t4x2 t4x3=>K (.exit 2) [(2,.ptr 0 0 0 0),(4,.ptr 1 0 0 0),(5,.int .i64 atx)] [.box [.int .i64 f,.sl aA f3,.sl aA f4],.box [.int .i64 t4x,.nils,.nils,.int .i64 t4x2,.int .i64 t4x3]]
theorem zs0:L0 k0 (k+1) K=R0 (L0 k0 k K) (H0 K) (H1 K):=by kernel_rfl
theorem zs1:L1 k0 (k+1) K=R1 (L1 k0 k K) (H2 K) (H3 K):=by kernel_rfl
def G0{R:Type}(k0:Nat)(hx0:Pg R)(hx1:Pe R):Nat→tN R
 |0=>fun _ _ _ _ _ _ _ _ _ _ _ _ _=>none
 |k+1=>R0 (G0 k0 hx0 hx1 k) hx0 hx1
theorem aS:∀ k,L0 k0 k K=G0 k0 (H0 K) (H1 K) k:=bK rfl fun k ih=>by rw[zs0,G0];(try simp only[ih]);try rfl
def G1{R:Type}(k0:Nat)(hx2:O9 R)(hx3:O8 R):Nat→tN R
 |0=>fun _ _ _ _ _ _ _ _ _ _ _ _ _=>none
 |k+1=>R1 (G1 k0 hx2 hx3 k) hx2 hx3
theorem dL:∀ k,L1 k0 k K=G1 k0 (H2 K) (H3 K) k:=bK rfl fun k ih=>by rw[zs1,G1];(try simp only[ih,aS]);try rfl
variable (f0:Int) (f1 f2:List U8) (e0 e1 e2 e3 e4:Int)
def aB:au (U2):=dm Tryz.prog [.cell 4 81] JG Jg (f0,f1,f2,e0,e1,e2,e3,e4,())
theorem aZ:H0 (K0 k0 (aB f0 f1 f2 e0 e1 e2 e3 e4))=A0 f0 f1 f2 e0 e1 e2 e3 e4:=by kernel_rfl
theorem dw:H1 (K0 k0 (aB f0 f1 f2 e0 e1 e2 e3 e4))=A1 (L1 k0 k0 (K1 k0 (aB f0 f1 f2 e0 e1 e2 e3 e4))) f0 f1 f2 e0 e1 e2 e3 e4:=by kernel_rfl
theorem lF:H2 (K1 k0 (aB f0 f1 f2 e0 e1 e2 e3 e4))=A2 f0 f1 f2 e0 e1 e2 e3 e4:=by kernel_rfl
theorem qU:H3 (K1 k0 (aB f0 f1 f2 e0 e1 e2 e3 e4))=A3 f0 f1 f2 e0 e1 e2 e3 e4:=by kernel_rfl
def FF:Option (U2):=T (G0 k0 (A0 f0 f1 f2 e0 e1 e2 e3 e4) (A1 (G1 k0 (A2 f0 f1 f2 e0 e1 e2 e3 e4) (A3 f0 f1 f2 e0 e1 e2 e3 e4) k0) f0 f1 f2 e0 e1 e2 e3 e4) k0) f0 f1 f2 e0 e1 e2 e3 e4
theorem aY:dB Tryz.prog (aW dF) aC k0 91 JG Jg [] (f0,f1,f2,e0,e1,e2,e3,e4,())=FF k0 f0 f1 f2 e0 e1 e2 e3 e4:=Eq.trans (b:=T (L0 k0 k0 (K0 k0 (aB f0 f1 f2 e0 e1 e2 e3 e4))) f0 f1 f2 e0 e1 e2 e3 e4) (by kernel_rfl) (by rw[FF];(try simp only[aS,dL,aZ,dw,lF,qU]);try rfl)
def _root_.Go.Rv.wR:=fun x:Int×(List U8)×(List U8)×U6=>FF (300+x.2.1.length+x.2.2.1.length) x.1 x.2.1 x.2.2.1 x.2.2.2.1 x.2.2.2.2.1 x.2.2.2.2.2.1 x.2.2.2.2.2.2.1 x.2.2.2.2.2.2.2.1
abbrev _root_.Go.Rv.aaO:aG:=⟨JG,Jg,wR,[]⟩
theorem _root_.Go.Rv.aan:aF Dr Tryz.prog 91 aaO:=dJ mix (.c wJ (.c CX (.c zH .nil))) (by kernel_rfl) fun x=>⟨aC,_,aY _ _ _ _ _ _ _ _ _⟩
end iY
def wW.T(f0:Int)(f1 f2:List U8)(e0 e1 e2 e3 e4:Int):Option (U2):=(zA (f0,f1,f2,())).bind fun y1=>cond (!y1.1) ((jv (1,())).bind fun y2=>some (y2.1,y2.2.1,y2.2.2.1,y2.2.2.2.1,y2.2.2.2.2.1,())) ((jQ (e0,e1,e2,e3,e4,())).bind fun y3=>cond (!y3.1) ((jv (1,())).bind fun y4=>some (y4.1,y4.2.1,y4.2.2.1,y4.2.2.2.1,y4.2.2.2.2.1,())) ((pq (f0,f1,f2,())).bind fun y5=>cond (e0==1) ((Dw (f0,f1,f2,e0,e1,e2,e3,e4,())).bind fun y6=>some (y6.1,y6.2.1,y6.2.2.1,y6.2.2.2.1,y6.2.2.2.2.1,())) (cond (e0==6) ((uw (f0,f1,f2,e0,e1,e2,e3,e4,())).bind fun y7=>some (y7.1,y7.2.1,y7.2.2.1,y7.2.2.2.1,y7.2.2.2.2.1,())) (cond (e0==7) ((wR (f0,f1,f2,e0,e1,e2,e3,e4,())).bind fun y8=>some (y8.1,y8.2.1,y8.2.2.1,y8.2.2.2.1,y8.2.2.2.2.1,())) (cond (e0==8) (cond (e1==0) (some (e3,y5.2.1,y5.2.2.1,0,0,())) ((jR (f0,f1,f2,e1,())).bind fun y9=>cond (decide (y9.1<0)) ((jv (4,())).bind fun y10=>some (y10.1,y10.2.1,y10.2.2.1,y10.2.2.2.1,y10.2.2.2.2.1,())) (if 0≤y9.1∧y9.1<(y5.2.1.length:Int)then some (y5.1,(y5.2.1.set ((y9.1).toNat) ((y5.2.1.getD ((y9.1).toNat) (0,0,0,0,())).1,(y5.2.1.getD ((y9.1).toNat) (0,0,0,0,())).2.1,e3,(y5.2.1.getD ((y9.1).toNat) (0,0,0,0,())).2.2.2.1,())),y5.2.2.1,0,0,())else none))) ((qo (f0,f1,f2,e1,())).bind fun y11=>cond (decide (y11.1<0)) ((jv (4,())).bind fun y12=>some (y12.1,y12.2.1,y12.2.2.1,y12.2.2.2.1,y12.2.2.2.2.1,())) (cond (e2 != 0) ((jR (f0,f1,f2,e2,())).bind fun y13=>cond (decide (y13.1<0)) ((jv (4,())).bind fun y14=>some (y14.1,y14.2.1,y14.2.2.1,y14.2.2.2.1,y14.2.2.2.2.1,())) (cond (e0==2) (if 0≤y11.1∧y11.1≤(f2.length:Int)then if([]:List U8).length+(f2.take (y11.1.toNat)).length≤maxRow then if 0≤(af (y11.1+1))∧(af (y11.1+1))≤(f2.length:Int)then if(([]:List U8)++(f2.take (y11.1.toNat))).length+(f2.drop ((af (y11.1+1)).toNat)).length≤maxRow then some (y5.1,y5.2.1,((([]:List U8)++(f2.take (y11.1.toNat)))++(f2.drop ((af (y11.1+1)).toNat))),0,0,())else none else none else none else none) (cond (e0==3) (if 0≤y11.1∧y11.1<(y5.2.2.1.length:Int)then some (y5.1,y5.2.1,(y5.2.2.1.set ((y11.1).toNat) ((y5.2.2.1.getD ((y11.1).toNat) (0,0,0,0,())).1,(y5.2.2.1.getD ((y11.1).toNat) (0,0,0,0,())).2.1,e3,(y5.2.2.1.getD ((y11.1).toNat) (0,0,0,0,())).2.2.2.1,())),0,0,())else none) (cond (e0==4) (if 0≤y11.1∧y11.1<(y5.2.2.1.length:Int)then some (y5.1,y5.2.1,(y5.2.2.1.set ((y11.1).toNat) ((y5.2.2.1.getD ((y11.1).toNat) (0,0,0,0,())).1,(y5.2.2.1.getD ((y11.1).toNat) (0,0,0,0,())).2.1,(y5.2.2.1.getD ((y11.1).toNat) (0,0,0,0,())).2.2.1,e3,())),0,0,())else none) (if 0≤y11.1∧y11.1<(y5.2.2.1.length:Int)then some (y5.1,y5.2.1,(y5.2.2.1.set ((y11.1).toNat) ((y5.2.2.1.getD ((y11.1).toNat) (0,0,0,0,())).1,e2,(y5.2.2.1.getD ((y11.1).toNat) (0,0,0,0,())).2.2.1,(y5.2.2.1.getD ((y11.1).toNat) (0,0,0,0,())).2.2.2.1,())),0,0,())else none))))) (cond (e0==2) (if 0≤y11.1∧y11.1≤(f2.length:Int)then if([]:List U8).length+(f2.take (y11.1.toNat)).length≤maxRow then if 0≤(af (y11.1+1))∧(af (y11.1+1))≤(f2.length:Int)then if(([]:List U8)++(f2.take (y11.1.toNat))).length+(f2.drop ((af (y11.1+1)).toNat)).length≤maxRow then some (y5.1,y5.2.1,((([]:List U8)++(f2.take (y11.1.toNat)))++(f2.drop ((af (y11.1+1)).toNat))),0,0,())else none else none else none else none) (cond (e0==3) (if 0≤y11.1∧y11.1<(y5.2.2.1.length:Int)then some (y5.1,y5.2.1,(y5.2.2.1.set ((y11.1).toNat) ((y5.2.2.1.getD ((y11.1).toNat) (0,0,0,0,())).1,(y5.2.2.1.getD ((y11.1).toNat) (0,0,0,0,())).2.1,e3,(y5.2.2.1.getD ((y11.1).toNat) (0,0,0,0,())).2.2.2.1,())),0,0,())else none) (cond (e0==4) (if 0≤y11.1∧y11.1<(y5.2.2.1.length:Int)then some (y5.1,y5.2.1,(y5.2.2.1.set ((y11.1).toNat) ((y5.2.2.1.getD ((y11.1).toNat) (0,0,0,0,())).1,(y5.2.2.1.getD ((y11.1).toNat) (0,0,0,0,())).2.1,(y5.2.2.1.getD ((y11.1).toNat) (0,0,0,0,())).2.2.1,e3,())),0,0,())else none) (if 0≤y11.1∧y11.1<(y5.2.2.1.length:Int)then some (y5.1,y5.2.1,(y5.2.2.1.set ((y11.1).toNat) ((y5.2.2.1.getD ((y11.1).toNat) (0,0,0,0,())).1,e2,(y5.2.2.1.getD ((y11.1).toNat) (0,0,0,0,())).2.2.1,(y5.2.2.1.getD ((y11.1).toNat) (0,0,0,0,())).2.2.2.1,())),0,0,())else none)))))))))))
def kz:=fun x:Int×(List U8)×(List U8)×U6=>wW.T x.1 x.2.1 x.2.2.1 x.2.2.2.1 x.2.2.2.2.1 x.2.2.2.2.2.1 x.2.2.2.2.2.2.1 x.2.2.2.2.2.2.2.1
abbrev Ko:aG:=⟨[.v true gu,.v true gy],[(true,BB)],kz,[]⟩
theorem QA:aF Dr Tryz.prog 40 Ko:=bg mix (.c Jo (.c CP (.c wJ (.c Ql (.c CX (.c zH (.c aam (.c Z7 (.c aan .nil))))))))) (by kernel_rfl) fun x=>by kernel_rfl
def Sr.T(s0 s1 s2 s3:Int)(s4 s5:List U8)(s6:List U9):Option (U1):=(pq (s3,s4,s5,())).bind fun y1=>if([]:List U9).length+s6.length≤maxRow then some (s0,s1,s2,y1.1,y1.2.1,y1.2.2.1,(([]:List U9)++s6),())else none
def nX:=fun x:U1=>Sr.T x.1 x.2.1 x.2.2.1 x.2.2.2.1 x.2.2.2.2.1 x.2.2.2.2.2.1 x.2.2.2.2.2.2.1
abbrev uD:aG:=⟨[.v true jh],[(true,jh)],nX,[]⟩
theorem zG:aF Dr Tryz.prog 42 uD:=bg mix (.c zH .nil) (by kernel_rfl) fun x=>by kernel_rfl
def KR.T(a b:Int):Option (Int×Unit):=cond (decide (a<b)) (some (a,())) (some (b,()))
def uJ:=fun x:aK=>KR.T x.1 x.2.1
abbrev DK:aG:=⟨[.v false [CT.int .i64],.v false [CT.int .i64]],[(false,[CT.int .i64])],uJ,[]⟩
theorem Ru:aF Dr Tryz.prog 83 DK:=bg mix .nil (by kernel_rfl) fun x=>by kernel_rfl
abbrev Jq:Is:=[.v true gu]
abbrev IQ:Os:=[(false,[CT.sl [CT.int .i64]])]
namespace gK
def aC:Nat→List Nat×List Nat:=fun k=>if k=3 then([1,3,4],[3])else if k=7 then([1,3,4,5,6],[1,3,4,5])else if k=12 then([1,3,4,5,7],[1,3,4,5])else([],[])
def zrc{R:Type}(k0:Nat)(p:List Nat):Env→List Ob→au R→Option R:=bJ Tryz.prog (aW [(83,[],DK)]) 88 0 aC k0 (cO p (dI Tryz.prog 148))
def R0{R:Type}(ex0:yU R)(lo1:tK R)(i f:Int)(f3 f4:List U8)(out:List (Int×Unit)):Option R:=cond (decide (i≥0)) (lo1 i 0 (af (i+1)) f f3 f4 out) (ex0 out)
def R1{R:Type}(nx1:tK R)(ex1:yT R)(i sum kx f:Int)(f3 f4:List U8)(out:List (Int×Unit)):Option R:=cond (decide (kx<(f3.length:Int))) (if 0≤kx∧kx<(f3.length:Int)then if 0≤i∧i<(f3.length:Int)then cond ((rd (0,0,0,0,()) f3 kx).2.1==(rd (0,0,0,0,()) f3 i).1) (if 0≤kx∧kx<(out.length:Int)then nx1 i (af (sum+(out.getD kx.toNat (0,())).1)) (af (kx+1)) f f3 f4 out else none) (nx1 i sum (af (kx+1)) f f3 f4 out)else none else none) (ex1 i sum f f3 f4 out)
def R2{R:Type}(nx2:tK R)(ex2:yT R)(i sum kx f:Int)(f3 f4:List U8)(out:List (Int×Unit)):Option R:=cond (decide (kx<(f4.length:Int))) (if 0≤kx∧kx<(f4.length:Int)then if 0≤i∧i<(f3.length:Int)then cond ((rd (0,0,0,0,()) f4 kx).2.1==(rd (0,0,0,0,()) f3 i).1) (if 0≤kx∧kx<(f4.length:Int)then nx2 i (af (sum+(rd (0,0,0,0,()) f4 kx).2.2.1)) (af (kx+1)) f f3 f4 out else none) (nx2 i sum (af (kx+1)) f f3 f4 out)else none else none) (ex2 i sum f f3 f4 out)
def A0(f0:Int)(f1 f2:List U8)(out:List (Int×Unit)):Option ((List (Int×Unit))×Unit):=some (out,())
def A1{R:Type}(lo2:tK R)(i sum f:Int)(f3 f4:List U8)(out:List (Int×Unit)):Option R:=lo2 i sum 0 f f3 f4 out
def A2{R:Type}(nx0:Gf R)(i sum f:Int)(f3 f4:List U8)(out:List (Int×Unit)):Option R:=if 0≤i∧i<(f3.length:Int)then(uJ (sum,(rd (0,0,0,0,()) f3 i).2.2.1,())).bind fun y1=>if 0≤i∧i<(out.length:Int)then nx0 (af (i - 1)) f f3 f4 (out.set i.toNat (y1.1,()))else none else none
def T(lo0:Gf ((List (Int×Unit))×Unit))(f0:Int)(f1 f2:List U8):Option ((List (Int×Unit))×Unit):=if 0≤(f1.length:Int)∧(8:Int)*(f1.length:Int)≤281474976710656∧(f1.length:Int)≤9223372036854775807 then lo0 (af ((f1.length:Int) - 1)) f0 f1 f2 (List.replicate (((f1.length:Int):Int)).toNat (0,()))else none
def K0{R:Type}(k0:Nat)(K:au R):au R:=bF 0 (bI (fun env ob=>zrc k0 [1,1,1] env ob (K)) (K))
def K1{R:Type}(k0:Nat)(K:au R):au R:=bF 2 (bI (fun env ob=>zrc k0 [1,1,0,1,0,0,1,0,0,1,1] env ob (bF 1 (bI (fun env ob=>zrc k0 [1,1,0,1,0,0,1,1] env ob (K)) (K)))) (bF 1 (bI (fun env ob=>zrc k0 [1,1,0,1,0,0,1,1] env ob (K)) (K))))
def K2{R:Type}(k0:Nat)(K:au R):au R:=bF 4 (bI (fun env ob=>zrc k0 [1,1,0,1,0,0,1,0,0,1,1,1] env ob (bF 1 (bI (fun env ob=>zrc k0 [1,1,0,1,0,0,1,1] env ob (K)) (K)))) (bF 1 (bI (fun env ob=>zrc k0 [1,1,0,1,0,0,1,1] env ob (K)) (K))))
def P0:au R:=vM 0 [1,3,4] [3] (fun env ob=>iter 0 [1,3,4] [3] (zrc k0 [1,1,0,1,0,0]) k env ob K) K
def L0:Gf R:=fun i f f3 f4 out=>iter 0 [1,3,4] [3] (zrc k0 [1,1,0,1,0,0]) k [(1,.ptr 0 0 0 0),(3,.own 1),(4,.int .i64 i)] [.box [.int .i64 f,.sl aA f3,.sl aA f4],.arr [CT.int .i64] out] K
def L1:tK R:=fun i sum kx f f3 f4 out=>iter 0 [1,3,4,5,6] [1,3,4,5] (zrc k0 [1,1,0,1,0,0,1,0,0,1,0,1,0,0]) k [(1,.ptr 0 0 0 0),(3,.own 1),(4,.int .i64 i),(5,.int .i64 sum),(6,.int .i64 kx)] [.box [.int .i64 f,.sl aA f3,.sl aA f4],.arr [CT.int .i64] out] K
def L2:tK R:=fun i sum kx f f3 f4 out=>iter 0 [1,3,4,5,7] [1,3,4,5] (zrc k0 [1,1,0,1,0,0,1,0,0,1,1,0,1,0,0]) k [(1,.ptr 0 0 0 0),(3,.own 1),(4,.int .i64 i),(5,.int .i64 sum),(7,.int .i64 kx)] [.box [.int .i64 f,.sl aA f3,.sl aA f4],.arr [CT.int .i64] out] K
def H0:yU R:=fun out=>K (.exit 0) [(3,.own 0)] [.arr [CT.int .i64] out]
def H1:yT R:=fun i sum f f3 f4 out=>K (.exit 2) [(1,.ptr 0 0 0 0),(3,.own 1),(4,.int .i64 i),(5,.int .i64 sum)] [.box [.int .i64 f,.sl aA f3,.sl aA f4],.arr [CT.int .i64] out]
def H2:yT R:=fun i sum f f3 f4 out=>K (.exit 4) [(1,.ptr 0 0 0 0),(3,.own 1),(4,.int .i64 i),(5,.int .i64 sum)] [.box [.int .i64 f,.sl aA f3,.sl aA f4],.arr [CT.int .i64] out]
theorem zs0:L0 k0 (k+1) K=R0 (H0 K) (L1 k0 k0 (K1 k0 (P0 k0 k K))):=by kernel_rfl
theorem zs1:L1 k0 (k+1) K=R1 (L1 k0 k K) (H1 K):=by kernel_rfl
theorem zs2:L2 k0 (k+1) K=R2 (L2 k0 k K) (H2 K):=by kernel_rfl
theorem dw:H1 (K1 k0 (P0 k0 k K))=A1 (L2 k0 k0 (K2 k0 (P0 k0 k K))):=by kernel_rfl
theorem lF:H2 (K2 k0 (P0 k0 k K))=A2 (L0 k0 k K):=by kernel_rfl
def G1{R:Type}(k0:Nat)(hx1:yT R):Nat→tK R
 |0=>fun _ _ _ _ _ _ _=>none
 |k+1=>R1 (G1 k0 hx1 k) hx1
theorem dL:∀ k,L1 k0 k K=G1 k0 (H1 K) k:=bK rfl fun k ih=>by rw[zs1,G1];(try simp only[ih]);try rfl
def G2{R:Type}(k0:Nat)(hx2:yT R):Nat→tK R
 |0=>fun _ _ _ _ _ _ _=>none
 |k+1=>R2 (G2 k0 hx2 k) hx2
theorem lD:∀ k,L2 k0 k K=G2 k0 (H2 K) k:=bK rfl fun k ih=>by rw[zs2,G2];(try simp only[ih,dL]);try rfl
def G0{R:Type}(k0:Nat)(hx0:yU R):Nat→Gf R
 |0=>fun _ _ _ _ _=>none
 |k+1=>R0 hx0 (G1 k0 (A1 (G2 k0 (A2 (G0 k0 hx0 k)) k0)) k0)
theorem aS:∀ k,L0 k0 k K=G0 k0 (H0 K) k:=bK rfl fun k ih=>by rw[zs0,G0];(try simp only[ih,dL,lD,dw,lF]);try rfl
variable (f0:Int) (f1 f2:List U8)
def aB:au ((List (Int×Unit))×Unit):=dm Tryz.prog [.tmp 2] Jq IQ (f0,f1,f2,())
theorem aZ:H0 (K0 k0 (aB f0 f1 f2))=A0 f0 f1 f2:=by kernel_rfl
def FF:Option ((List (Int×Unit))×Unit):=T (G0 k0 (A0 f0 f1 f2) k0) f0 f1 f2
theorem aY:dB Tryz.prog (aW [(83,[],DK)]) aC k0 148 Jq IQ [] (f0,f1,f2,())=FF k0 f0 f1 f2:=Eq.trans (b:=T (L0 k0 k0 (K0 k0 (aB f0 f1 f2))) f0 f1 f2) (by kernel_rfl) (by rw[FF];(try simp only[dL,lD,aS,aZ]);try rfl)
def _root_.Go.Rv.Dn:=fun x:U3=>FF (300+x.2.1.length+x.2.2.1.length) x.1 x.2.1 x.2.2.1
abbrev _root_.Go.Rv.J9:aG:=⟨Jq,IQ,Dn,[]⟩
theorem _root_.Go.Rv.Z8:aF Dr Tryz.prog 148 J9:=dJ mix (.c Ru .nil) (by kernel_rfl) fun x=>⟨aC,_,aY _ _ _ _⟩
end gK
abbrev JH:Is:=[.v true gu,.v false [CT.int .i64]]
abbrev Jh:Os:=[(false,[CT.sl dX]),(false,[CT.sl ct0])]
namespace iZ
def aC:Nat→List Nat×List Nat:=fun k=>if k=5 then([1,2,6,7,8,9],[1,2,7,8])else if k=11 then([1,2,7,8,10],[7,8])else([],[])
def zrc{R:Type}(k0:Nat)(p:List Nat):Env→List Ob→au R→Option R:=bJ Tryz.prog (aW [(148,[],J9)]) 91 0 aC k0 (cO p (dI Tryz.prog 132))
def R0{R:Type}(nx0:F9 R)(ex0:O7 R)(group2 i f:Int)(f3 f4:List U8)(wants:List (Int×Unit))(kids:List aK)(items:List U9):Option R:=cond (decide (i<(f3.length:Int))) (if 0≤i∧i<(f3.length:Int)then cond ((rd (0,0,0,0,()) f3 i).2.1==group2) (if kids.length+[(i,(-1),())].length≤maxRow then if 0≤i∧i<(wants.length:Int)then if 0≤i∧i<(f3.length:Int)then if items.length+([(((kids++[(i,(-1),())]).length:Int),(wants.getD i.toNat (0,())).1,(rd (0,0,0,0,()) f3 i).2.2.2.1,())]).length≤maxRow then nx0 group2 (af (i+1)) f f3 f4 wants (kids++[(i,(-1),())]) (items++[(((kids++[(i,(-1),())]).length:Int),(wants.getD i.toNat (0,())).1,(rd (0,0,0,0,()) f3 i).2.2.2.1,())])else none else none else none else none) (nx0 group2 (af (i+1)) f f3 f4 wants kids items)else none) (ex0 group2 f f3 f4 kids items)
def R1{R:Type}(nx1:F8 R)(ex1:O6 R)(group2 i f:Int)(f3 f4:List U8)(kids:List aK)(items:List U9):Option R:=cond (decide (i<(f4.length:Int))) (if 0≤i∧i<(f4.length:Int)then cond ((rd (0,0,0,0,()) f4 i).2.1==group2) (if kids.length+[((-1),i,())].length≤maxRow then if 0≤i∧i<(f4.length:Int)then if 0≤i∧i<(f4.length:Int)then if items.length+([(((kids++[((-1),i,())]).length:Int),(rd (0,0,0,0,()) f4 i).2.2.1,(rd (0,0,0,0,()) f4 i).2.2.2.1,())]).length≤maxRow then nx1 group2 (af (i+1)) f f3 f4 (kids++[((-1),i,())]) (items++[(((kids++[((-1),i,())]).length:Int),(rd (0,0,0,0,()) f4 i).2.2.1,(rd (0,0,0,0,()) f4 i).2.2.2.1,())])else none else none else none else none) (nx1 group2 (af (i+1)) f f3 f4 kids items)else none) (ex1 kids items)
def A0(lo1:F8 ((List aK)×(List U9)×Unit))(f0:Int)(f1 f2:List U8)(group:Int)(group2 f:Int)(f3 f4:List U8)(kids:List aK)(items:List U9):Option ((List aK)×(List U9)×Unit):=lo1 group2 0 f f3 f4 kids items
def A1(f0:Int)(f1 f2:List U8)(group:Int)(kids:List aK)(items:List U9):Option ((List aK)×(List U9)×Unit):=some (kids,items,())
def T(lo0:F9 ((List aK)×(List U9)×Unit))(f0:Int)(f1 f2:List U8)(group:Int):Option ((List aK)×(List U9)×Unit):=(Dn (f0,f1,f2,())).bind fun y1=>lo0 group 0 f0 f1 f2 y1.1 ([]:List aK) ([]:List U9)
def K0{R:Type}(k0:Nat)(K:au R):au R:=bF 0 (bI (fun env ob=>zrc k0 [1,1,1,1,1] env ob (K)) (K))
def K1{R:Type}(k0:Nat)(K:au R):au R:=bF 2 (bI (fun env ob=>zrc k0 [1,1,1,1,1,1] env ob (K)) (K))
def L0:F9 R:=fun group2 i f f3 f4 wants kids items=>iter 0 [1,2,6,7,8,9] [1,2,7,8] (zrc k0 [1,1,1,1,0,1,0,0]) k [(1,.int .i64 group2),(2,.ptr 0 0 0 0),(6,.own 1),(7,.own 2),(8,.own 3),(9,.int .i64 i)] [.box [.int .i64 f,.sl aA f3,.sl aA f4],.arr [CT.int .i64] wants,.arr dX kids,.arr ct0 items] K
def L1:F8 R:=fun group2 i f f3 f4 kids items=>iter 0 [1,2,7,8,10] [7,8] (zrc k0 [1,1,1,1,1,0,1,0,0]) k [(1,.int .i64 group2),(2,.ptr 0 0 0 0),(7,.own 1),(8,.own 2),(10,.int .i64 i)] [.box [.int .i64 f,.sl aA f3,.sl aA f4],.arr dX kids,.arr ct0 items] K
def H0:O7 R:=fun group2 f f3 f4 kids items=>K (.exit 0) [(1,.int .i64 group2),(2,.ptr 0 0 0 0),(7,.own 1),(8,.own 2)] [.box [.int .i64 f,.sl aA f3,.sl aA f4],.arr dX kids,.arr ct0 items]
def H1:O6 R:=fun kids items=>K (.exit 2) [(7,.own 0),(8,.own 1)] [.arr dX kids,.arr ct0 items]
theorem zs0:L0 k0 (k+1) K=R0 (L0 k0 k K) (H0 K):=by kernel_rfl
theorem zs1:L1 k0 (k+1) K=R1 (L1 k0 k K) (H1 K):=by kernel_rfl
def G0{R:Type}(k0:Nat)(hx0:O7 R):Nat→F9 R
 |0=>fun _ _ _ _ _ _ _ _=>none
 |k+1=>R0 (G0 k0 hx0 k) hx0
theorem aS:∀ k,L0 k0 k K=G0 k0 (H0 K) k:=bK rfl fun k ih=>by rw[zs0,G0];(try simp only[ih]);try rfl
def G1{R:Type}(k0:Nat)(hx1:O6 R):Nat→F8 R
 |0=>fun _ _ _ _ _ _ _=>none
 |k+1=>R1 (G1 k0 hx1 k) hx1
theorem dL:∀ k,L1 k0 k K=G1 k0 (H1 K) k:=bK rfl fun k ih=>by rw[zs1,G1];(try simp only[ih,aS]);try rfl
variable (f0:Int) (f1 f2:List U8) (group:Int)
def aB:au ((List aK)×(List U9)×Unit):=dm Tryz.prog [.tmp 4,.tmp 5] JH Jh (f0,f1,f2,group,())
theorem aZ:H0 (K0 k0 (aB f0 f1 f2 group))=A0 (L1 k0 k0 (K1 k0 (aB f0 f1 f2 group))) f0 f1 f2 group:=by kernel_rfl
theorem dw:H1 (K1 k0 (aB f0 f1 f2 group))=A1 f0 f1 f2 group:=by kernel_rfl
def FF:Option ((List aK)×(List U9)×Unit):=T (G0 k0 (A0 (G1 k0 (A1 f0 f1 f2 group) k0) f0 f1 f2 group) k0) f0 f1 f2 group
theorem aY:dB Tryz.prog (aW [(148,[],J9)]) aC k0 132 JH Jh [] (f0,f1,f2,group,())=FF k0 f0 f1 f2 group:=Eq.trans (b:=T (L0 k0 k0 (K0 k0 (aB f0 f1 f2 group))) f0 f1 f2 group) (by kernel_rfl) (by rw[FF];(try simp only[aS,dL,aZ,dw]);try rfl)
def _root_.Go.Rv.zQ:=fun x:Int×(List U8)×(List U8)×Int×Unit=>FF (300+x.2.1.length+x.2.2.1.length) x.1 x.2.1 x.2.2.1 x.2.2.2.1
abbrev _root_.Go.Rv.Kw:aG:=⟨JH,Jh,zQ,[]⟩
theorem _root_.Go.Rv.aao:aF Dr Tryz.prog 132 Kw:=dJ mix (.c Z8 .nil) (by kernel_rfl) fun x=>⟨aC,_,aY _ _ _ _ _⟩
end iZ
def SE.T(a0 a1 b0 b1:Int):Option (U7):=cond (decide ((IntKind.u64.wrap (a1+b1))<a1)) (cond (decide ((IntKind.u64.wrap (a0+b0))<a0)) (some ((IntKind.u64.wrap ((IntKind.u64.wrap (a0+b0))+1)),(IntKind.u64.wrap (a1+b1)),true,0,())) (some ((IntKind.u64.wrap ((IntKind.u64.wrap (a0+b0))+1)),(IntKind.u64.wrap (a1+b1)),(decide ((IntKind.u64.wrap ((IntKind.u64.wrap (a0+b0))+1))<(IntKind.u64.wrap (a0+b0)))),0,()))) (cond (decide ((IntKind.u64.wrap (a0+b0))<a0)) (some ((IntKind.u64.wrap ((IntKind.u64.wrap (a0+b0))+0)),(IntKind.u64.wrap (a1+b1)),true,0,())) (some ((IntKind.u64.wrap ((IntKind.u64.wrap (a0+b0))+0)),(IntKind.u64.wrap (a1+b1)),(decide ((IntKind.u64.wrap ((IntKind.u64.wrap (a0+b0))+0))<(IntKind.u64.wrap (a0+b0)))),0,())))
def uH:=fun x:U8=>SE.T x.1 x.2.1 x.2.2.1 x.2.2.2.1
abbrev wQ:aG:=⟨[.v true ct1,.v true ct1],[(true,X4)],uH,[]⟩
theorem JX:aF Dr Tryz.prog 165 wQ:=bg mix .nil (by kernel_rfl) fun x=>by kernel_rfl
abbrev JK:Is:=[.v true ct1,.v false [CT.int .i64]]
abbrev Jk:Os:=[(true,ct1)]
namespace rq
def aC:Nat→List Nat×List Nat:=fun k=>if k=3 then([1,2,4],[2,4])else([],[])
def zrc{R:Type}(k0:Nat)(p:List Nat):Env→List Ob→au R→Option R:=bJ Tryz.prog (aW [(165,[],wQ)]) 21 0 aC k0 (cO p (dI Tryz.prog 168))
def R0{R:Type}(nx0:tJ R)(ex0:qX R)(n2 a a2 t4x t4x2:Int):Option R:=cond (decide (n2>0)) ((uH (a,a2,a,a2,())).bind fun y1=>nx0 (af (n2 - 1)) y1.1 y1.2.1 t4x t4x2) (ex0 a a2 t4x t4x2)
def A0(a0 a1 n:Int)(a a2 t4x t4x2:Int):Option (aK):=some (a,a2,())
def T(lo0:tJ (aK))(a0 a1 n:Int):Option (aK):=cond (decide (n<0)) (some (0,0,())) (cond (decide (n>127)) (some (0,0,())) (lo0 n a0 a1 0 0))
def K0{R:Type}(k0:Nat)(K:au R):au R:=bF 0 (bI (fun env ob=>zrc k0 [1,1,1] env ob (K)) (K))
def L0:tJ R:=fun n2 a a2 t4x t4x2=>iter 0 [1,2,4] [2,4] (zrc k0 [1,1,0,0,0]) k [(1,.int .i64 n2),(2,.ptr 0 0 0 0),(4,.ptr 1 0 0 0)] [.box [.int .u64 a,.int .u64 a2],.box [.int .u64 t4x,.int .u64 t4x2]] K
def H0:qX R:=fun a a2 t4x t4x2=>K (.exit 0) [(2,.ptr 0 0 0 0),(4,.ptr 1 0 0 0)] [.box [.int .u64 a,.int .u64 a2],.box [.int .u64 t4x,.int .u64 t4x2]]
theorem zs0:L0 k0 (k+1) K=R0 (L0 k0 k K) (H0 K):=by kernel_rfl
def G0{R:Type}(k0:Nat)(hx0:qX R):Nat→tJ R
 |0=>fun _ _ _ _ _=>none
 |k+1=>R0 (G0 k0 hx0 k) hx0
theorem aS:∀ k,L0 k0 k K=G0 k0 (H0 K) k:=bK rfl fun k ih=>by rw[zs0,G0];(try simp only[ih]);try rfl
variable (a0 a1 n:Int)
def aB:au (aK):=dm Tryz.prog [.cell 4 181] JK Jk (a0,a1,n,())
theorem aZ:H0 (K0 k0 (aB a0 a1 n))=A0 a0 a1 n:=by kernel_rfl
def FF:Option (aK):=T (G0 k0 (A0 a0 a1 n) k0) a0 a1 n
theorem aY:dB Tryz.prog (aW [(165,[],wQ)]) aC k0 168 JK Jk [] (a0,a1,n,())=FF k0 a0 a1 n:=Eq.trans (b:=T (L0 k0 k0 (K0 k0 (aB a0 a1 n))) a0 a1 n) (by kernel_rfl) (by rw[FF];(try simp only[aS,aZ]);try rfl)
def _root_.Go.Rv.Dz:=fun x:U9=>FF (300) x.1 x.2.1 x.2.2.1
abbrev _root_.Go.Rv.Kz:aG:=⟨JK,Jk,Dz,[]⟩
theorem _root_.Go.Rv.aas:aF Dr Tryz.prog 168 Kz:=dJ mix (.c JX .nil) (by kernel_rfl) fun x=>⟨aC,_,aY _ _ _ _⟩
end rq
abbrev JL:Is:=[.v false [CT.int .u64],.v false [CT.int .u64]]
abbrev Jl:Os:=[(true,ct1)]
namespace qw
def aC:Nat→List Nat×List Nat:=fun k=>if k=3 then([0,1,4,5,6],[4,5])else([],[])
def zrc{R:Type}(k0:Nat)(p:List Nat):Env→List Ob→au R→Option R:=bJ Tryz.prog (aW [(165,[],wQ),(168,[],Kz)]) 26 0 aC k0 (cO p (dI Tryz.prog 152))
def R0{R:Type}(nx0:F7 R)(ex0:qX R)(a2 b2 kx t4x t4x2 sum sum2:Int):Option R:=cond (decide (kx<64)) (if(IntKind.u64.wrap (kx))<0 then none else cond ((IntKind.u64.wrap (((BitVec.ofInt 64 (Int.fdiv b2 (2 ^ (min (((IntKind.u64.wrap (kx)):Int)).toNat 64)))) &&& (BitVec.ofInt 64 1)).toNat))==1) ((Dz (0,a2,kx,())).bind fun y1=>(uH (sum,sum2,y1.1,y1.2.1,())).bind fun y2=>nx0 a2 b2 (af (kx+1)) t4x t4x2 y2.1 y2.2.1) (nx0 a2 b2 (af (kx+1)) t4x t4x2 sum sum2)) (ex0 t4x t4x2 sum sum2)
def A0(a b:Int)(t4x t4x2 sum sum2:Int):Option (aK):=some (sum,sum2,())
def T(lo0:F7 (aK))(a b:Int):Option (aK):=lo0 a b 0 0 0 0 0
def K0{R:Type}(k0:Nat)(K:au R):au R:=bF 0 (bI (fun env ob=>zrc k0 [1,1,1] env ob (K)) (K))
def L0:F7 R:=fun a2 b2 kx t4x t4x2 sum sum2=>iter 0 [0,1,4,5,6] [4,5] (zrc k0 [1,1,0,1,0,0]) k [(0,.int .u64 a2),(1,.int .u64 b2),(4,.ptr 0 0 0 0),(5,.ptr 1 0 0 0),(6,.int .i64 kx)] [.box [.int .u64 t4x,.int .u64 t4x2],.box [.int .u64 sum,.int .u64 sum2]] K
def H0:qX R:=fun t4x t4x2 sum sum2=>K (.exit 0) [(4,.ptr 0 0 0 0),(5,.ptr 1 0 0 0)] [.box [.int .u64 t4x,.int .u64 t4x2],.box [.int .u64 sum,.int .u64 sum2]]
theorem zs0:L0 k0 (k+1) K=R0 (L0 k0 k K) (H0 K):=by kernel_rfl
def G0{R:Type}(k0:Nat)(hx0:qX R):Nat→F7 R
 |0=>fun _ _ _ _ _ _ _=>none
 |k+1=>R0 (G0 k0 hx0 k) hx0
theorem aS:∀ k,L0 k0 k K=G0 k0 (H0 K) k:=bK rfl fun k ih=>by rw[zs0,G0];(try simp only[ih]);try rfl
variable (a b:Int)
def aB:au (aK):=dm Tryz.prog [.cell 4 181] JL Jl (a,b,())
theorem aZ:H0 (K0 k0 (aB a b))=A0 a b:=by kernel_rfl
def FF:Option (aK):=T (G0 k0 (A0 a b) k0) a b
theorem aY:dB Tryz.prog (aW [(165,[],wQ),(168,[],Kz)]) aC k0 152 JL Jl [] (a,b,())=FF k0 a b:=Eq.trans (b:=T (L0 k0 k0 (K0 k0 (aB a b))) a b) (by kernel_rfl) (by rw[FF];(try simp only[aS,aZ]);try rfl)
def _root_.Go.Rv.uF:=fun x:aK=>FF (300) x.1 x.2.1
abbrev _root_.Go.Rv.RI:aG:=⟨JL,Jl,uF,[]⟩
theorem _root_.Go.Rv.QR:aF Dr Tryz.prog 152 RI:=dJ mix (.c JX (.c aas .nil)) (by kernel_rfl) fun x=>⟨aC,_,aY _ _ _⟩
end qw
def SC.T(a0 a1 b0 b1:Int):Option (Int×Unit):=cond (a0 != b0) (cond (decide (a0<b0)) (some ((-1),())) (some (1,()))) (cond (decide (a1<b1)) (some ((-1),())) (cond (decide (a1>b1)) (some (1,())) (some (0,()))))
def uG:=fun x:U8=>SC.T x.1 x.2.1 x.2.2.1 x.2.2.2.1
abbrev RN:aG:=⟨[.v true ct1,.v true ct1],[(false,[CT.int .i64])],uG,[]⟩
theorem JW:aF Dr Tryz.prog 164 RN:=bg mix .nil (by kernel_rfl) fun x=>by kernel_rfl
def RS.T(a b c d:Int):Option (Int×Unit):=(uF ((IntKind.u64.wrap (a)),(IntKind.u64.wrap (b)),())).bind fun y1=>(uF ((IntKind.u64.wrap (c)),(IntKind.u64.wrap (d)),())).bind fun y2=>(uG (y1.1,y1.2.1,y2.1,y2.2.1,())).bind fun y3=>some (y3.1,())
def wO:=fun x:U8=>RS.T x.1 x.2.1 x.2.2.1 x.2.2.2.1
abbrev Q5:aG:=⟨[.v false [CT.int .i64],.v false [CT.int .i64],.v false [CT.int .i64],.v false [CT.int .i64]],[(false,[CT.int .i64])],wO,[]⟩
theorem Qz:aF Dr Tryz.prog 150 Q5:=bg mix (.c QR (.c JW .nil)) (by kernel_rfl) fun x=>by kernel_rfl
def Rt.T(a0 a1 a2:Int):Option (Bool×Unit):=(lI (a0,())).bind fun y1=>cond y1.1 ((dZ (a1,())).bind fun y2=>cond y2.1 ((gB (a2,())).bind fun y3=>some (y3.1,())) (some (false,()))) (some (false,()))
def zy:=fun x:U9=>Rt.T x.1 x.2.1 x.2.2.1
abbrev aai:aG:=⟨[.v true ct0],[(false,[CT.bool])],zy,[]⟩
theorem ZJ:aF Dr Tryz.prog 163 aai:=bg mix (.c uo (.c zT (.c CQ .nil))) (by kernel_rfl) fun x=>by kernel_rfl
def RV.T(a0 a1 a2 b0 b1 b2:Int):Option (Int×Unit):=(zy (a0,a1,a2,())).bind fun y1=>cond (!y1.1) (some (0,())) ((zy (b0,b1,b2,())).bind fun y2=>cond (!y2.1) (some (0,())) ((wO (a1,b2,b1,a2,())).bind fun y3=>cond (y3.1 != 0) (some (y3.1,())) (cond (decide (a0<b0)) (some ((-1),())) (cond (decide (a0>b0)) (some (1,())) (some (0,()))))))
def Dp:=fun x:Int×U6=>RV.T x.1 x.2.1 x.2.2.1 x.2.2.2.1 x.2.2.2.2.1 x.2.2.2.2.2.1
abbrev Q8:aG:=⟨[.v true ct0,.v true ct0],[(false,[CT.int .i64])],Dp,[]⟩
theorem Z9:aF Dr Tryz.prog 149 Q8:=bg mix (.c Qz (.c ZJ .nil)) (by kernel_rfl) fun x=>by kernel_rfl
abbrev JJ:Is:=[.v true ct1,.v false [CT.int .i64]]
abbrev Jj:Os:=[(true,ct1)]
namespace rf
def aC:Nat→List Nat×List Nat:=fun k=>if k=3 then([1,2,4],[2,4])else([],[])
def zrc{R:Type}(k0:Nat)(p:List Nat):Env→List Ob→au R→Option R:=bJ Tryz.prog (aW []) 29 0 aC k0 (cO p (dI Tryz.prog 178))
def R0{R:Type}(nx0:tJ R)(ex0:qX R)(n2 a a2 t4x t4x2:Int):Option R:=cond (decide (n2>0)) (if 2=0 then none else if 2=0 then none else if 2=0 then none else nx0 (af (n2 - 1)) (IntKind.u64.wrap (Int.tdiv a 2)) (IntKind.u64.wrap ((IntKind.u64.wrap (Int.tdiv a2 2))+(IntKind.u64.wrap ((Int.tmod a 2)*9223372036854775808)))) t4x t4x2) (ex0 a a2 t4x t4x2)
def A0(a0 a1 n:Int)(a a2 t4x t4x2:Int):Option (aK):=some (a,a2,())
def T(lo0:tJ (aK))(a0 a1 n:Int):Option (aK):=cond (decide (n<0)) (some (0,0,())) (cond (decide (n>127)) (some (0,0,())) (lo0 n a0 a1 0 0))
def K0{R:Type}(k0:Nat)(K:au R):au R:=bF 0 (bI (fun env ob=>zrc k0 [1,1,1] env ob (K)) (K))
def L0:tJ R:=fun n2 a a2 t4x t4x2=>iter 0 [1,2,4] [2,4] (zrc k0 [1,1,0,0,0]) k [(1,.int .i64 n2),(2,.ptr 0 0 0 0),(4,.ptr 1 0 0 0)] [.box [.int .u64 a,.int .u64 a2],.box [.int .u64 t4x,.int .u64 t4x2]] K
def H0:qX R:=fun a a2 t4x t4x2=>K (.exit 0) [(2,.ptr 0 0 0 0),(4,.ptr 1 0 0 0)] [.box [.int .u64 a,.int .u64 a2],.box [.int .u64 t4x,.int .u64 t4x2]]
theorem zs0:L0 k0 (k+1) K=R0 (L0 k0 k K) (H0 K):=by kernel_rfl
def G0{R:Type}(k0:Nat)(hx0:qX R):Nat→tJ R
 |0=>fun _ _ _ _ _=>none
 |k+1=>R0 (G0 k0 hx0 k) hx0
theorem aS:∀ k,L0 k0 k K=G0 k0 (H0 K) k:=bK rfl fun k ih=>by rw[zs0,G0];(try simp only[ih]);try rfl
variable (a0 a1 n:Int)
def aB:au (aK):=dm Tryz.prog [.cell 4 181] JJ Jj (a0,a1,n,())
theorem aZ:H0 (K0 k0 (aB a0 a1 n))=A0 a0 a1 n:=by kernel_rfl
def FF:Option (aK):=T (G0 k0 (A0 a0 a1 n) k0) a0 a1 n
theorem aY:dB Tryz.prog (aW []) aC k0 178 JJ Jj [] (a0,a1,n,())=FF k0 a0 a1 n:=Eq.trans (b:=T (L0 k0 k0 (K0 k0 (aB a0 a1 n))) a0 a1 n) (by kernel_rfl) (by rw[FF];(try simp only[aS,aZ]);try rfl)
def _root_.Go.Rv.Dy:=fun x:U9=>FF (300) x.1 x.2.1 x.2.2.1
abbrev _root_.Go.Rv.aaP:aG:=⟨JJ,Jj,Dy,[]⟩
theorem _root_.Go.Rv.aar:aF Dr Tryz.prog 178 aaP:=dJ mix .nil (by kernel_rfl) fun x=>⟨aC,_,aY _ _ _ _⟩
end rf
def Td.T(a0 a1 ak:Int):Option (Int×Unit):=(Dy (a0,a1,ak,())).bind fun y1=>some ((IntKind.u64.wrap (((BitVec.ofInt 64 y1.2.1) &&& (BitVec.ofInt 64 1)).toNat)),())
def DR:=fun x:U9=>Td.T x.1 x.2.1 x.2.2.1
abbrev Si:aG:=⟨[.v true ct1,.v false [CT.int .i64]],[(false,[CT.int .u64])],DR,[]⟩
theorem aaI:aF Dr Tryz.prog 166 Si:=bg mix (.c aar .nil) (by kernel_rfl) fun x=>by kernel_rfl
def SB.T(a0 a1 b0 b1:Int):Option (U7):=cond (decide (a1<b1)) ((uG (a0,a1,b0,b1,())).bind fun y1=>some ((IntKind.u64.wrap ((IntKind.u64.wrap (a0 - b0)) - 1)),(IntKind.u64.wrap (a1 - b1)),(decide (y1.1<0)),0,())) ((uG (a0,a1,b0,b1,())).bind fun y2=>some ((IntKind.u64.wrap (a0 - b0)),(IntKind.u64.wrap (a1 - b1)),(decide (y2.1<0)),0,()))
def Dx:=fun x:U8=>SB.T x.1 x.2.1 x.2.2.1 x.2.2.2.1
abbrev RH:aG:=⟨[.v true ct1,.v true ct1],[(true,X4)],Dx,[]⟩
theorem aaq:aF Dr Tryz.prog 167 RH:=bg mix (.c JW .nil) (by kernel_rfl) fun x=>by kernel_rfl
abbrev JM:Is:=[.v true ct1,.v false [CT.int .u64]]
abbrev Jm:Os:=[(true,X9)]
namespace pz
def dF:Tb:=[(164,[],RN),(165,[],wQ),(166,[],Si),(167,[],RH)]
def aC:Nat→List Nat×List Nat:=fun k=>if k=6 then([1,2,4,5,6,7],[4,5,6])else([],[])
def zrc{R:Type}(k0:Nat)(p:List Nat):Env→List Ob→au R→Option R:=bJ Tryz.prog (aW dF) 55 0 aC k0 (cO p (dI Tryz.prog 151))
def R0{R:Type}(nx0:F6 R)(ex0:zh R)(d2 kx a a2 t4x t4x2 t4x3 out out2 out3 rem rem2:Int):Option R:=cond (decide (kx≥0)) ((uH (rem,rem2,rem,rem2,())).bind fun y1=>(DR (a,a2,kx,())).bind fun y2=>(uH (out,out2,out,out2,())).bind fun y3=>(uG (y1.1,(IntKind.u64.wrap (y1.2.1+y2.1)),0,d2,())).bind fun y4=>cond (decide (y4.1≥0)) ((Dx (y1.1,(IntKind.u64.wrap (y1.2.1+y2.1)),0,d2,())).bind fun y5=>nx0 d2 (af (kx - 1)) a a2 t4x t4x2 t4x3 y3.1 (IntKind.u64.wrap (y3.2.1+1)) out3 y5.1 y5.2.1) (nx0 d2 (af (kx - 1)) a a2 t4x t4x2 t4x3 y3.1 y3.2.1 out3 y1.1 (IntKind.u64.wrap (y1.2.1+y2.1)))) (ex0 t4x t4x2 t4x3 out out2 out3 rem rem2)
def A0(a0 a1 d:Int)(t4x t4x2 t4x3 out out2 out3 rem rem2:Int):Option (U9):=some (out,out2,rem2,())
def T(lo0:F6 (U9))(a0 a1 d:Int):Option (U9):=cond (d==0) (some (0,0,0,())) (lo0 d 127 a0 a1 0 0 0 0 0 0 0 0)
def K0{R:Type}(k0:Nat)(K:au R):au R:=bF 0 (bI (fun env ob=>zrc k0 [1,1,1,1,1] env ob (K)) (K))
def L0:F6 R:=fun d2 kx a a2 t4x t4x2 t4x3 out out2 out3 rem rem2=>iter 0 [1,2,4,5,6,7] [4,5,6] (zrc k0 [1,1,1,1,0,1,0,0]) k [(1,.int .u64 d2),(2,.ptr 0 0 0 0),(4,.ptr 1 0 0 0),(5,.ptr 2 0 0 0),(6,.ptr 3 0 0 0),(7,.int .i64 kx)] [.box [.int .u64 a,.int .u64 a2],.box [.int .u64 t4x,.int .u64 t4x2,.int .u64 t4x3],.box [.int .u64 out,.int .u64 out2,.int .u64 out3],.box [.int .u64 rem,.int .u64 rem2]] K
def H0:zh R:=fun t4x t4x2 t4x3 out out2 out3 rem rem2=>K (.exit 0) [(4,.ptr 0 0 0 0),(5,.ptr 1 0 0 0),(6,.ptr 2 0 0 0)] [.box [.int .u64 t4x,.int .u64 t4x2,.int .u64 t4x3],.box [.int .u64 out,.int .u64 out2,.int .u64 out3],.box [.int .u64 rem,.int .u64 rem2]]
theorem zs0:L0 k0 (k+1) K=R0 (L0 k0 k K) (H0 K):=by kernel_rfl
def G0{R:Type}(k0:Nat)(hx0:zh R):Nat→F6 R
 |0=>fun _ _ _ _ _ _ _ _ _ _ _ _=>none
 |k+1=>R0 (G0 k0 hx0 k) hx0
theorem aS:∀ k,L0 k0 k K=G0 k0 (H0 K) k:=bK rfl fun k ih=>by rw[zs0,G0];(try simp only[ih]);try rfl
variable (a0 a1 d:Int)
def aB:au (U9):=dm Tryz.prog [.cell 4 183] JM Jm (a0,a1,d,())
theorem aZ:H0 (K0 k0 (aB a0 a1 d))=A0 a0 a1 d:=by kernel_rfl
def FF:Option (U9):=T (G0 k0 (A0 a0 a1 d) k0) a0 a1 d
theorem aY:dB Tryz.prog (aW dF) aC k0 151 JM Jm [] (a0,a1,d,())=FF k0 a0 a1 d:=Eq.trans (b:=T (L0 k0 k0 (K0 k0 (aB a0 a1 d))) a0 a1 d) (by kernel_rfl) (by rw[FF];(try simp only[aS,aZ]);try rfl)
def _root_.Go.Rv.zS:=fun x:U9=>FF (300) x.1 x.2.1 x.2.2.1
abbrev _root_.Go.Rv.RJ:aG:=⟨JM,Jm,zS,[]⟩
theorem _root_.Go.Rv.aau:aF Dr Tryz.prog 151 RJ:=dJ mix (.c JW (.c JX (.c aaI (.c aaq .nil)))) (by kernel_rfl) fun x=>⟨aC,_,aY _ _ _ _⟩
end pz
abbrev JI:Is:=[.v false [CT.int .i64],.v false [CT.sl ct0]]
abbrev Ji:Os:=[(false,[CT.sl [CT.int .i64]])]
namespace di
def dF:Tb:=[(149,[],Q8),(150,[],Q5),(151,[],RJ),(152,[],RI)]
def aC:Nat→List Nat×List Nat:=fun k=>if k=6 then([1,5,6,7,8,9],[1,5,6,7,8])else if k=9 then([1,5,6,7,8],[1,4,5,6,7,8])else if k=11 then([1,5,6,7,8,10,11],[1,5,6,7,8,10])else if k=24 then([1,5,6,7,8,12,13],[1,5,6,12])else if k=30 then([1,5,6,12,14],[5])else([],[])
def zrc{R:Type}(k0:Nat)(p:List Nat):Env→List Ob→au R→Option R:=bJ Tryz.prog (aW dF) 167 0 aC k0 (cO p (dI Tryz.prog 133))
def R0{R:Type}(nx0:vT R)(ex0:lW R)(list2:List U9)(rest all i:Int)(out:List (Int×Unit))(done:List (Bool×Unit)):Option R:=cond (decide (i<(list2.length:Int))) (if 0≤i∧i<(list2.length:Int)then nx0 list2 rest (af (all+(rd (0,0,0,()) list2 i).2.2.1)) (af (i+1)) out done else none) (ex0 list2 rest all out done)
def R1{R:Type}(lo2:tH R)(list2:List U9)(rest all:Int)(out:List (Int×Unit))(done:List (Bool×Unit)):Option R:=lo2 list2 rest all (-1) 0 out done
def R2{R:Type}(nx2:tH R)(ex1:vT R)(list2:List U9)(rest all next i:Int)(out:List (Int×Unit))(done:List (Bool×Unit)):Option R:=cond (decide (i<(list2.length:Int))) (if 0≤i∧i<(done.length:Int)then cond (!(done.getD i.toNat (false,())).1) (cond (decide (next<0)) (nx2 list2 rest all i (af (i+1)) out done) (if 0≤i∧i<(list2.length:Int)then if 0≤next∧next<(list2.length:Int)then(Dp ((rd (0,0,0,()) list2 i).1,(rd (0,0,0,()) list2 i).2.1,(rd (0,0,0,()) list2 i).2.2.1,(rd (0,0,0,()) list2 next).1,(rd (0,0,0,()) list2 next).2.1,(rd (0,0,0,()) list2 next).2.2.1,())).bind fun y1=>cond (decide (y1.1<0)) (nx2 list2 rest all i (af (i+1)) out done) (nx2 list2 rest all next (af (i+1)) out done)else none else none)) (nx2 list2 rest all next (af (i+1)) out done)else none) (ex1 list2 rest all next out done)
def R3{R:Type}(nx3:tH R)(qV:O5 R)(list2:List U9)(rest all left i:Int)(out:List (Int×Unit))(done:List (Bool×Unit)):Option R:=cond (decide (i<(list2.length:Int))) (if 0≤i∧i<(done.length:Int)then cond (!(done.getD i.toNat (false,())).1) (if 0≤i∧i<(list2.length:Int)then(uF ((IntKind.u64.wrap (rest)),(IntKind.u64.wrap ((rd (0,0,0,()) list2 i).2.2.1)),())).bind fun y1=>(zS (y1.1,y1.2.1,(IntKind.u64.wrap (all)),())).bind fun y2=>if 0≤i∧i<(out.length:Int)then if 0≤i∧i<((out.set i.toNat ((af (y2.2.1)),())).length:Int)then nx3 list2 rest all (af (left - ((out.set i.toNat ((af (y2.2.1)),())).getD i.toNat (0,())).1)) (af (i+1)) (out.set i.toNat ((af (y2.2.1)),())) done else none else none else none) (nx3 list2 rest all left (af (i+1)) out done)else none) (qV list2 left out done)
def R4{R:Type}(nx4:lW R)(ex5:yU R)(list2:List U9)(left i:Int)(out:List (Int×Unit))(done:List (Bool×Unit)):Option R:=cond (decide (i<(list2.length:Int))) (cond (decide (left>0)) (if 0≤i∧i<(done.length:Int)then cond (!(done.getD i.toNat (false,())).1) (if 0≤i∧i<(out.length:Int)then if 0≤i∧i<(out.length:Int)then nx4 list2 (af (left - 1)) (af (i+1)) (out.set i.toNat ((af ((out.getD i.toNat (0,())).1+1)),())) done else none else none) (nx4 list2 left (af (i+1)) out done)else none) (ex5 out)) (ex5 out)
def A0(lo1:lW ((List (Int×Unit))×Unit))(amount:Int)(list:List U9)(list2:List U9)(rest all:Int)(out:List (Int×Unit))(done:List (Bool×Unit)):Option ((List (Int×Unit))×Unit):=lo1 list2 rest all out done
def A1{R:Type}(nx1 ex2 ex3:lW R)(list2:List U9)(rest all next:Int)(out:List (Int×Unit))(done:List (Bool×Unit)):Option R:=cond (decide (next<0)) (ex2 list2 rest all out done) (if 0≤next∧next<(list2.length:Int)then if 0≤next∧next<(list2.length:Int)then(wO ((rd (0,0,0,()) list2 next).2.1,all,rest,(rd (0,0,0,()) list2 next).2.2.1,())).bind fun y1=>cond (decide (y1.1>0)) (ex3 list2 rest all out done) (if 0≤next∧next<(done.length:Int)then if 0≤next∧next<(list2.length:Int)then if 0≤next∧next<(out.length:Int)then if 0≤next∧next<(list2.length:Int)then if 0≤next∧next<(list2.length:Int)then nx1 list2 (af (rest - (rd (0,0,0,()) list2 next).2.1)) (af (all - (rd (0,0,0,()) list2 next).2.2.1)) (out.set next.toNat ((rd (0,0,0,()) list2 next).2.1,())) (done.set next.toNat (true,()))else none else none else none else none else none)else none else none)
def A2(amount:Int)(list:List U9)(list2:List U9)(rest all:Int)(t4x:List (Int×Unit))(done:List (Bool×Unit)):Option ((List (Int×Unit))×Unit):=some (t4x,())
def A3(lo3:tH ((List (Int×Unit))×Unit))(amount:Int)(list:List U9)(list2:List U9)(rest all:Int)(out:List (Int×Unit))(done:List (Bool×Unit)):Option ((List (Int×Unit))×Unit):=lo3 list2 rest all rest 0 out done
def A4(lo4:lW ((List (Int×Unit))×Unit))(amount:Int)(list:List U9)(list2:List U9)(left:Int)(out:List (Int×Unit))(done:List (Bool×Unit)):Option ((List (Int×Unit))×Unit):=lo4 list2 left 0 out done
def A5(amount:Int)(list:List U9)(out:List (Int×Unit)):Option ((List (Int×Unit))×Unit):=some (out,())
def T(lo0:vT ((List (Int×Unit))×Unit))(amount:Int)(list:List U9):Option ((List (Int×Unit))×Unit):=if 0≤(list.length:Int)∧(8:Int)*(list.length:Int)≤281474976710656∧(list.length:Int)≤9223372036854775807 then if 0≤(list.length:Int)∧(1:Int)*(list.length:Int)≤281474976710656∧(list.length:Int)≤9223372036854775807 then lo0 list amount 0 0 (List.replicate (((list.length:Int):Int)).toNat (0,())) (List.replicate (((list.length:Int):Int)).toNat (false,()))else none else none
def K0{R:Type}(k0:Nat)(K:au R):au R:=bF 0 (bI (fun env ob=>zrc k0 [1,1,1,1,1,1] env ob (K)) (K))
def K1{R:Type}(k0:Nat)(K:au R):au R:=bF 2 (bI (fun env ob=>zrc k0 [1,1,1,1,1,1,1] env ob (K)) (K))
def K2{R:Type}(k0:Nat)(K:au R):au R:=bF 4 (bI (fun env ob=>zrc k0 [1,1,1,1,1,1,0,0,0,0,1,1] env ob (bF 3 (K))) (bF 3 (K)))
def K3{R:Type}(k0:Nat)(K:au R):au R:=bF 6 (bI (fun env ob=>zrc k0 [1,1,1,1,1,1,1,1,1] env ob (K)) (K))
def K4{R:Type}(k0:Nat)(K:au R):au R:=bF 8 (bI (fun env ob=>zrc k0 [1,1,1,1,1,1,1,1,1,1] env ob (K)) (K))
def P1:au R:=vM 0 [1,5,6,7,8] [1,4,5,6,7,8] (fun env ob=>iter 0 [1,5,6,7,8] [1,4,5,6,7,8] (zrc k0 [1,1,1,1,1,1,0,0,0]) k env ob K) K
def L0:vT R:=fun list2 rest all i out done=>iter 0 [1,5,6,7,8,9] [1,5,6,7,8] (zrc k0 [1,1,1,1,1,0,1,0,0]) k [(1,.sl ct0 list2),(5,.own 0),(6,.own 1),(7,.int .i64 rest),(8,.int .i64 all),(9,.int .i64 i)] [.arr [CT.int .i64] out,.arr [CT.bool] done] K
def L1:lW R:=fun list2 rest all out done=>iter 0 [1,5,6,7,8] [1,4,5,6,7,8] (zrc k0 [1,1,1,1,1,1,0,0,0]) k [(1,.sl ct0 list2),(5,.own 0),(6,.own 1),(7,.int .i64 rest),(8,.int .i64 all)] [.arr [CT.int .i64] out,.arr [CT.bool] done] K
def L2:tH R:=fun list2 rest all next i out done=>iter 0 [1,5,6,7,8,10,11] [1,5,6,7,8,10] (zrc k0 [1,1,1,1,1,1,0,0,0,0,1,0,1,0,0]) k [(1,.sl ct0 list2),(5,.own 0),(6,.own 1),(7,.int .i64 rest),(8,.int .i64 all),(10,.int .i64 next),(11,.int .i64 i)] [.arr [CT.int .i64] out,.arr [CT.bool] done] K
def L3:tH R:=fun list2 rest all left i out done=>iter 0 [1,5,6,7,8,12,13] [1,5,6,12] (zrc k0 [1,1,1,1,1,1,1,1,0,1,0,0]) k [(1,.sl ct0 list2),(5,.own 0),(6,.own 1),(7,.int .i64 rest),(8,.int .i64 all),(12,.int .i64 left),(13,.int .i64 i)] [.arr [CT.int .i64] out,.arr [CT.bool] done] K
def L4:lW R:=fun list2 left i out done=>iter 0 [1,5,6,12,14] [5] (zrc k0 [1,1,1,1,1,1,1,1,1,0,1,0,0]) k [(1,.sl ct0 list2),(5,.own 0),(6,.own 1),(12,.int .i64 left),(14,.int .i64 i)] [.arr [CT.int .i64] out,.arr [CT.bool] done] K
def H0:lW R:=fun list2 rest all out done=>K (.exit 0) [(1,.sl ct0 list2),(5,.own 0),(6,.own 1),(7,.int .i64 rest),(8,.int .i64 all)] [.arr [CT.int .i64] out,.arr [CT.bool] done]
def H1:vT R:=fun list2 rest all next out done=>K (.exit 4) [(1,.sl ct0 list2),(5,.own 0),(6,.own 1),(7,.int .i64 rest),(8,.int .i64 all),(10,.int .i64 next)] [.arr [CT.int .i64] out,.arr [CT.bool] done]
def H2:lW R:=fun list2 rest all t4x done=>K .ret [(1,.sl ct0 list2),(4,.own 0),(5,.own 0),(6,.own 1),(7,.int .i64 rest),(8,.int .i64 all)] [.arr [CT.int .i64] t4x,.arr [CT.bool] done]
def H3:lW R:=fun list2 rest all out done=>K (.exit 2) [(1,.sl ct0 list2),(4,.undef),(5,.own 0),(6,.own 1),(7,.int .i64 rest),(8,.int .i64 all)] [.arr [CT.int .i64] out,.arr [CT.bool] done]
def H4:O5 R:=fun list2 left out done=>K (.exit 6) [(1,.sl ct0 list2),(5,.own 0),(6,.own 1),(12,.int .i64 left)] [.arr [CT.int .i64] out,.arr [CT.bool] done]
def H5:yU R:=fun out=>K (.exit 8) [(5,.own 0)] [.arr [CT.int .i64] out]
theorem zs0:L0 k0 (k+1) K=R0 (L0 k0 k K) (H0 K):=by kernel_rfl
theorem zs1:L1 k0 (k+1) K=R1 (L2 k0 k0 (K2 k0 (P1 k0 k K))):=by kernel_rfl
theorem zs2:L2 k0 (k+1) K=R2 (L2 k0 k K) (H1 K):=by kernel_rfl
theorem OH:L3 k0 (k+1) K=R3 (L3 k0 k K) (H4 K):=by kernel_rfl
theorem OG:L4 k0 (k+1) K=R4 (L4 k0 k K) (H5 K):=by kernel_rfl
theorem dw:H1 (K2 k0 (P1 k0 k K))=A1 (L1 k0 k K) (H2 K) (H3 K):=by kernel_rfl
def G0{R:Type}(k0:Nat)(hx0:lW R):Nat→vT R
 |0=>fun _ _ _ _ _ _=>none
 |k+1=>R0 (G0 k0 hx0 k) hx0
theorem aS:∀ k,L0 k0 k K=G0 k0 (H0 K) k:=bK rfl fun k ih=>by rw[zs0,G0];(try simp only[ih]);try rfl
def G2{R:Type}(k0:Nat)(hx1:vT R):Nat→tH R
 |0=>fun _ _ _ _ _ _ _=>none
 |k+1=>R2 (G2 k0 hx1 k) hx1
theorem lD:∀ k,L2 k0 k K=G2 k0 (H1 K) k:=bK rfl fun k ih=>by rw[zs2,G2];(try simp only[ih,aS]);try rfl
def G1{R:Type}(k0:Nat)(hx2 hx3:lW R):Nat→lW R
 |0=>fun _ _ _ _ _=>none
 |k+1=>R1 (G2 k0 (A1 (G1 k0 hx2 hx3 k) hx2 hx3) k0)
theorem dL:∀ k,L1 k0 k K=G1 k0 (H2 K) (H3 K) k:=bK rfl fun k ih=>by rw[zs1,G1];(try simp only[ih,aS,lD,dw]);try rfl
def G3{R:Type}(k0:Nat)(hx4:O5 R):Nat→tH R
 |0=>fun _ _ _ _ _ _ _=>none
 |k+1=>R3 (G3 k0 hx4 k) hx4
theorem yN:∀ k,L3 k0 k K=G3 k0 (H4 K) k:=bK rfl fun k ih=>by rw[OH,G3];(try simp only[ih,aS,lD,dL]);try rfl
def G4{R:Type}(k0:Nat)(hx5:yU R):Nat→lW R
 |0=>fun _ _ _ _ _=>none
 |k+1=>R4 (G4 k0 hx5 k) hx5
theorem OI:∀ k,L4 k0 k K=G4 k0 (H5 K) k:=bK rfl fun k ih=>by rw[OG,G4];(try simp only[ih,aS,lD,dL,yN]);try rfl
variable (amount:Int) (list:List U9)
def aB:au ((List (Int×Unit))×Unit):=dm Tryz.prog [.tmp 4] JI Ji (amount,list,())
theorem aZ:H0 (K0 k0 (aB amount list))=A0 (L1 k0 k0 (K1 k0 (aB amount list))) amount list:=by kernel_rfl
theorem lF:H2 (K1 k0 (aB amount list))=A2 amount list:=by kernel_rfl
theorem qU:H3 (K1 k0 (aB amount list))=A3 (L3 k0 k0 (K3 k0 (aB amount list))) amount list:=by kernel_rfl
theorem OJ:H4 (K3 k0 (aB amount list))=A4 (L4 k0 k0 (K4 k0 (aB amount list))) amount list:=by kernel_rfl
theorem za5:H5 (K4 k0 (aB amount list))=A5 amount list:=by kernel_rfl
def FF:Option ((List (Int×Unit))×Unit):=T (G0 k0 (A0 (G1 k0 (A2 amount list) (A3 (G3 k0 (A4 (G4 k0 (A5 amount list) k0) amount list) k0) amount list) k0) amount list) k0) amount list
theorem aY:dB Tryz.prog (aW dF) aC k0 133 JI Ji [] (amount,list,())=FF k0 amount list:=Eq.trans (b:=T (L0 k0 k0 (K0 k0 (aB amount list))) amount list) (by kernel_rfl) (by rw[FF];(try simp only[aS,lD,dL,yN,OI,aZ,lF,qU,OJ,za5]);try rfl)
def _root_.Go.Rv.wS:=fun x:Int×(List U9)×Unit=>FF (300+x.2.1.length) x.1 x.2.1
abbrev _root_.Go.Rv.Ky:aG:=⟨JI,Ji,wS,[]⟩
theorem _root_.Go.Rv.aap:aF Dr Tryz.prog 133 Ky:=dJ mix (.c Z9 (.c Qz (.c aau (.c QR .nil)))) (by kernel_rfl) fun x=>⟨aC,_,aY _ _ _⟩
end di
abbrev J3:Is:=[.v true gu]
abbrev JB:Os:=[(false,[CT.sl [CT.int .i64]]),(false,[CT.sl [CT.int .i64]])]
namespace gU
def aC:Nat→List Nat×List Nat:=fun k=>if k=4 then([1,4,5,6],[4,5])else if k=14 then([1,4,5,6,9,11,12],[1,4,5,6])else([],[])
def zrc{R:Type}(k0:Nat)(p:List Nat):Env→List Ob→au R→Option R:=bJ Tryz.prog (aW [(132,[],Kw),(133,[],Ky)]) 87 0 aC k0 (cO p (dI Tryz.prog 114))
def R0{R:Type}(ex0:O4 R)(lo1:F5 R)(g f:Int)(f3 f4:List U8)(groups members:List (Int×Unit)):Option R:=cond (decide (g<(f3.length:Int))) (cond (decide (g≥0)) (if 0≤g∧g<(f3.length:Int)then if 0≤g∧g<(groups.length:Int)then(zQ (f,f3,f4,(rd (0,0,0,0,()) f3 g).1,())).bind fun y1=>(wS ((groups.getD g.toNat (0,())).1,y1.2.1,())).bind fun y2=>lo1 g 0 f f3 f4 groups members y1.1 y2.1 else none else none) ((zQ (f,f3,f4,0,())).bind fun y3=>(wS (f,y3.2.1,())).bind fun y4=>lo1 g 0 f f3 f4 groups members y3.1 y4.1)) (ex0 groups members)
def R1{R:Type}(nx1:F5 R)(ex1:vS R)(g i f:Int)(f3 f4:List U8)(groups members:List (Int×Unit))(kids:List aK)(parts:List (Int×Unit)):Option R:=cond (decide (i<(kids.length:Int))) (if 0≤i∧i<(kids.length:Int)then cond (decide ((kids.getD i.toNat (0,0,())).1≥0)) (if 0≤i∧i<(kids.length:Int)then if 0≤i∧i<(parts.length:Int)then if 0≤(kids.getD i.toNat (0,0,())).1∧(kids.getD i.toNat (0,0,())).1<(groups.length:Int)then nx1 g (af (i+1)) f f3 f4 (groups.set (((kids.getD i.toNat (0,0,())).1).toNat) ((parts.getD i.toNat (0,())).1,())) members kids parts else none else none else none) (if 0≤i∧i<(kids.length:Int)then if 0≤i∧i<(parts.length:Int)then if 0≤(kids.getD i.toNat (0,0,())).2.1∧(kids.getD i.toNat (0,0,())).2.1<(members.length:Int)then nx1 g (af (i+1)) f f3 f4 groups (members.set (((kids.getD i.toNat (0,0,())).2.1).toNat) ((parts.getD i.toNat (0,())).1,())) kids parts else none else none else none)else none) (ex1 g f f3 f4 groups members)
def A0(f0:Int)(f1 f2:List U8)(groups members:List (Int×Unit)):Option ((List (Int×Unit))×(List (Int×Unit))×Unit):=some (groups,members,())
def A1{R:Type}(nx0:vS R)(g f:Int)(f3 f4:List U8)(groups members:List (Int×Unit)):Option R:=nx0 (af (g+1)) f f3 f4 groups members
def T(lo0:vS ((List (Int×Unit))×(List (Int×Unit))×Unit))(f0:Int)(f1 f2:List U8):Option ((List (Int×Unit))×(List (Int×Unit))×Unit):=if 0≤(f1.length:Int)∧(8:Int)*(f1.length:Int)≤281474976710656∧(f1.length:Int)≤9223372036854775807 then if 0≤(f2.length:Int)∧(8:Int)*(f2.length:Int)≤281474976710656∧(f2.length:Int)≤9223372036854775807 then lo0 (-1) f0 f1 f2 (List.replicate (((f1.length:Int):Int)).toNat (0,())) (List.replicate (((f2.length:Int):Int)).toNat (0,()))else none else none
def K0{R:Type}(k0:Nat)(K:au R):au R:=bF 0 (bI (fun env ob=>zrc k0 [1,1,1,1] env ob (K)) (K))
def K1{R:Type}(k0:Nat)(K:au R):au R:=bF 2 (bF 1 (bI (fun env ob=>zrc k0 [1,1,1,0,1,0,0,1,1] env ob (K)) (K)))
def P0:au R:=vM 0 [1,4,5,6] [4,5] (fun env ob=>iter 0 [1,4,5,6] [4,5] (zrc k0 [1,1,1,0,1,0,0]) k env ob K) K
def L0:vS R:=fun g f f3 f4 groups members=>iter 0 [1,4,5,6] [4,5] (zrc k0 [1,1,1,0,1,0,0]) k [(1,.ptr 0 0 0 0),(4,.own 1),(5,.own 2),(6,.int .i64 g)] [.box [.int .i64 f,.sl aA f3,.sl aA f4],.arr [CT.int .i64] groups,.arr [CT.int .i64] members] K
def L1:F5 R:=fun g i f f3 f4 groups members kids parts=>iter 0 [1,4,5,6,9,11,12] [1,4,5,6] (zrc k0 [1,1,1,0,1,0,0,1,0,0,1,1,1,1,1,1,0,0]) k [(1,.ptr 0 0 0 0),(4,.own 1),(5,.own 2),(6,.int .i64 g),(9,.own 3),(11,.own 4),(12,.int .i64 i)] [.box [.int .i64 f,.sl aA f3,.sl aA f4],.arr [CT.int .i64] groups,.arr [CT.int .i64] members,.arr dX kids,.arr [CT.int .i64] parts] K
def H0:O4 R:=fun groups members=>K (.exit 0) [(4,.own 0),(5,.own 1)] [.arr [CT.int .i64] groups,.arr [CT.int .i64] members]
def H1:vS R:=fun g f f3 f4 groups members=>K (.exit 2) [(1,.ptr 0 0 0 0),(4,.own 1),(5,.own 2),(6,.int .i64 g)] [.box [.int .i64 f,.sl aA f3,.sl aA f4],.arr [CT.int .i64] groups,.arr [CT.int .i64] members]
theorem zs0:L0 k0 (k+1) K=R0 (H0 K) (L1 k0 k0 (K1 k0 (P0 k0 k K))):=by kernel_rfl
theorem zs1:L1 k0 (k+1) K=R1 (L1 k0 k K) (H1 K):=by kernel_rfl
theorem dw:H1 (K1 k0 (P0 k0 k K))=A1 (L0 k0 k K):=by kernel_rfl
def G1{R:Type}(k0:Nat)(hx1:vS R):Nat→F5 R
 |0=>fun _ _ _ _ _ _ _ _ _=>none
 |k+1=>R1 (G1 k0 hx1 k) hx1
theorem dL:∀ k,L1 k0 k K=G1 k0 (H1 K) k:=bK rfl fun k ih=>by rw[zs1,G1];(try simp only[ih]);try rfl
def G0{R:Type}(k0:Nat)(hx0:O4 R):Nat→vS R
 |0=>fun _ _ _ _ _ _=>none
 |k+1=>R0 hx0 (G1 k0 (A1 (G0 k0 hx0 k)) k0)
theorem aS:∀ k,L0 k0 k K=G0 k0 (H0 K) k:=bK rfl fun k ih=>by rw[zs0,G0];(try simp only[ih,dL,dw]);try rfl
variable (f0:Int) (f1 f2:List U8)
def aB:au ((List (Int×Unit))×(List (Int×Unit))×Unit):=dm Tryz.prog [.tmp 2,.tmp 3] J3 JB (f0,f1,f2,())
theorem aZ:H0 (K0 k0 (aB f0 f1 f2))=A0 f0 f1 f2:=by kernel_rfl
def FF:Option ((List (Int×Unit))×(List (Int×Unit))×Unit):=T (G0 k0 (A0 f0 f1 f2) k0) f0 f1 f2
theorem aY:dB Tryz.prog (aW [(132,[],Kw),(133,[],Ky)]) aC k0 114 J3 JB [] (f0,f1,f2,())=FF k0 f0 f1 f2:=Eq.trans (b:=T (L0 k0 k0 (K0 k0 (aB f0 f1 f2))) f0 f1 f2) (by kernel_rfl) (by rw[FF];(try simp only[dL,aS,aZ]);try rfl)
def _root_.Go.Rv.DN:=fun x:U3=>FF (300+x.2.1.length+x.2.2.1.length) x.1 x.2.1 x.2.2.1
abbrev _root_.Go.Rv.KG:aG:=⟨J3,JB,DN,[]⟩
theorem _root_.Go.Rv.aaG:aF Dr Tryz.prog 114 KG:=dJ mix (.c aao (.c aap .nil)) (by kernel_rfl) fun x=>⟨aC,_,aY _ _ _ _⟩
end gU
abbrev IG:Is:=[.v true gu]
abbrev Ie:Os:=[(false,[CT.sl dX])]
namespace mX
def aC:Nat→List Nat×List Nat:=fun k=>if k=6 then([1,3,5,6],[3])else([],[])
def zrc{R:Type}(k0:Nat)(p:List Nat):Env→List Ob→au R→Option R:=bJ Tryz.prog (aW [(30,[],C9),(114,[],KG)]) 39 0 aC k0 (cO p (dI Tryz.prog 82))
def R0{R:Type}(nx0:FZ R)(ex0:O3 R)(i f:Int)(f3 f4:List U8)(out:List aK)(members:List (Int×Unit)):Option R:=cond (decide (i<(f4.length:Int))) (if 0≤i∧i<(f4.length:Int)then if 0≤i∧i<(members.length:Int)then if out.length+[((rd (0,0,0,0,()) f4 i).1,(members.getD i.toNat (0,())).1,())].length≤maxRow then nx0 (af (i+1)) f f3 f4 (out++[((rd (0,0,0,0,()) f4 i).1,(members.getD i.toNat (0,())).1,())]) members else none else none else none) (ex0 out)
def A0(f0:Int)(f1 f2:List U8)(out:List aK):Option ((List aK)×Unit):=some (out,())
def T(lo0:FZ ((List aK)×Unit))(f0:Int)(f1 f2:List U8):Option ((List aK)×Unit):=(zA (f0,f1,f2,())).bind fun y1=>cond (!y1.1) (some (([]:List aK),())) ((DN (f0,f1,f2,())).bind fun y2=>lo0 0 f0 f1 f2 ([]:List aK) y2.2.1)
def K0{R:Type}(k0:Nat)(K:au R):au R:=bF 0 (bI (fun env ob=>zrc k0 [1,1,1,1,1] env ob (K)) (K))
def L0:FZ R:=fun i f f3 f4 out members=>iter 0 [1,3,5,6] [3] (zrc k0 [1,1,1,1,0,1,0,0]) k [(1,.ptr 0 0 0 0),(3,.own 1),(5,.own 2),(6,.int .i64 i)] [.box [.int .i64 f,.sl aA f3,.sl aA f4],.arr dX out,.arr [CT.int .i64] members] K
def H0:O3 R:=fun out=>K (.exit 0) [(3,.own 0)] [.arr dX out]
theorem zs0:L0 k0 (k+1) K=R0 (L0 k0 k K) (H0 K):=by kernel_rfl
def G0{R:Type}(k0:Nat)(hx0:O3 R):Nat→FZ R
 |0=>fun _ _ _ _ _ _=>none
 |k+1=>R0 (G0 k0 hx0 k) hx0
theorem aS:∀ k,L0 k0 k K=G0 k0 (H0 K) k:=bK rfl fun k ih=>by rw[zs0,G0];(try simp only[ih]);try rfl
variable (f0:Int) (f1 f2:List U8)
def aB:au ((List aK)×Unit):=dm Tryz.prog [.tmp 2] IG Ie (f0,f1,f2,())
theorem aZ:H0 (K0 k0 (aB f0 f1 f2))=A0 f0 f1 f2:=by kernel_rfl
def FF:Option ((List aK)×Unit):=T (G0 k0 (A0 f0 f1 f2) k0) f0 f1 f2
theorem aY:dB Tryz.prog (aW [(30,[],C9),(114,[],KG)]) aC k0 82 IG Ie [] (f0,f1,f2,())=FF k0 f0 f1 f2:=Eq.trans (b:=T (L0 k0 k0 (K0 k0 (aB f0 f1 f2))) f0 f1 f2) (by kernel_rfl) (by rw[FF];(try simp only[aS,aZ]);try rfl)
def _root_.Go.Rv.wG:=fun x:U3=>FF (300+x.2.1.length+x.2.2.1.length) x.1 x.2.1 x.2.2.1
abbrev _root_.Go.Rv.Qs:aG:=⟨IG,Ie,wG,[]⟩
theorem _root_.Go.Rv.Zo:aF Dr Tryz.prog 82 Qs:=dJ mix (.c Jo (.c aaG .nil)) (by kernel_rfl) fun x=>⟨aC,_,aY _ _ _ _⟩
end mX
def KT.T(a b:Int):Option (Int×Unit):=cond (decide (a>b)) (some (a,())) (some (b,()))
def qZ:=fun x:aK=>KT.T x.1 x.2.1
abbrev aa5:aG:=⟨[.v false [CT.int .i64],.v false [CT.int .i64]],[(false,[CT.int .i64])],qZ,[]⟩
theorem Rw:aF Dr Tryz.prog 55 aa5:=bg mix .nil (by kernel_rfl) fun x=>by kernel_rfl
abbrev Ij:Is:=[.v false [CT.sl ct0],.v false [CT.int .i64],.v false [CT.int .i64]]
abbrev Hw:Os:=[(false,[CT.int .i64])]
namespace mQ
def aC:Nat→List Nat×List Nat:=fun k=>if k=5 then([0,1,2,7,8],[7])else([],[])
def zrc{R:Type}(k0:Nat)(p:List Nat):Env→List Ob→au R→Option R:=bJ Tryz.prog (aW [(31,[],wE)]) 43 0 aC k0 (cO p (dI Tryz.prog 95))
def R0{R:Type}(nx0:uf R)(ex0:Y2 R)(list2:List U9)(now2 id2 sum i:Int):Option R:=cond (decide (i<(list2.length:Int))) (if 0≤i∧i<(list2.length:Int)then cond (decide ((rd (0,0,0,()) list2 i).2.2.1>now2)) (if 0≤i∧i<(list2.length:Int)then cond ((rd (0,0,0,()) list2 i).1 != id2) (if 0≤i∧i<(list2.length:Int)then nx0 list2 now2 id2 (af (sum+(rd (0,0,0,()) list2 i).2.1)) (af (i+1))else none) (nx0 list2 now2 id2 sum (af (i+1)))else none) (nx0 list2 now2 id2 sum (af (i+1)))else none) (ex0 sum)
def A0(list:List U9)(now id:Int)(sum:Int):Option (Int×Unit):=some (sum,())
def T(lo0:uf (Int×Unit))(list:List U9)(now id:Int):Option (Int×Unit):=(wF (list,())).bind fun y1=>cond (!y1.1) (some (0,())) (lo0 list now id 0 0)
def K0{R:Type}(k0:Nat)(K:au R):au R:=bF 0 (bI (fun env ob=>zrc k0 [1,1,1,1] env ob (K)) (K))
def L0:uf R:=fun list2 now2 id2 sum i=>iter 0 [0,1,2,7,8] [7] (zrc k0 [1,1,1,0,1,0,0]) k [(0,.sl ct0 list2),(1,.int .i64 now2),(2,.int .i64 id2),(7,.int .i64 sum),(8,.int .i64 i)] [] K
def H0:Y2 R:=fun sum=>K (.exit 0) [(7,.int .i64 sum)] []
theorem zs0:L0 k0 (k+1) K=R0 (L0 k0 k K) (H0 K):=by kernel_rfl
def G0{R:Type}(k0:Nat)(hx0:Y2 R):Nat→uf R
 |0=>fun _ _ _ _ _=>none
 |k+1=>R0 (G0 k0 hx0 k) hx0
theorem aS:∀ k,L0 k0 k K=G0 k0 (H0 K) k:=bK rfl fun k ih=>by rw[zs0,G0];(try simp only[ih]);try rfl
variable (list:List U9) (now id:Int)
def aB:au (Int×Unit):=dm Tryz.prog [.tmp 6] Ij Hw (list,now,id,())
theorem aZ:H0 (K0 k0 (aB list now id))=A0 list now id:=by kernel_rfl
def FF:Option (Int×Unit):=T (G0 k0 (A0 list now id) k0) list now id
theorem aY:dB Tryz.prog (aW [(31,[],wE)]) aC k0 95 Ij Hw [] (list,now,id,())=FF k0 list now id:=Eq.trans (b:=T (L0 k0 k0 (K0 k0 (aB list now id))) list now id) (by kernel_rfl) (by rw[FF];(try simp only[aS,aZ]);try rfl)
def _root_.Go.Rv.Jd:=fun x:(List U9)×aK=>FF (300+x.1.length) x.1 x.2.1 x.2.2.1
abbrev _root_.Go.Rv.ZA:aG:=⟨Ij,Hw,Jd,[]⟩
theorem _root_.Go.Rv.Zg:aF Dr Tryz.prog 95 ZA:=dJ mix (.c Cc .nil) (by kernel_rfl) fun x=>⟨aC,_,aY _ _ _ _⟩
end mQ
def Rq.T(list:List U9)(now id cap:Int):Option (Int×Unit):=(wF (list,())).bind fun y1=>cond (!y1.1) (some (0,())) ((dZ (cap,())).bind fun y2=>cond (!y2.1) (some (0,())) ((Jd (list,now,id,())).bind fun y3=>(qZ (0,(af (cap - y3.1)),())).bind fun y4=>some (y4.1,())))
def Dh:=fun x:(List U9)×U9=>Rq.T x.1 x.2.1 x.2.2.1 x.2.2.2.1
abbrev QI:aG:=⟨[.v false [CT.sl ct0],.v false [CT.int .i64],.v false [CT.int .i64],.v false [CT.int .i64]],[(false,[CT.int .i64])],Dh,[]⟩
theorem ZI:aF Dr Tryz.prog 84 QI:=bg mix (.c Cc (.c Rw (.c uo (.c Zg .nil)))) (by kernel_rfl) fun x=>by kernel_rfl
abbrev Jt:Is:=[.v false [CT.sl ct0],.v true ct0]
abbrev IW:Os:=[(false,[CT.sl ct0])]
namespace kD
def aC:Nat→List Nat×List Nat:=fun k=>if k=9 then([0,3,5,6,7,8],[3,5,6,7])else([],[])
def zrc{R:Type}(k0:Nat)(p:List Nat):Env→List Ob→au R→Option R:=bJ Tryz.prog (aW [(31,[],wE),(67,[],zI)]) 74 0 aC k0 (cO p (dI Tryz.prog 85))
def R0{R:Type}(nx0:FY R)(ex0:O1 R)(list2:List U9)(done:Bool)(i l l3 l4:Int)(same out:List U9):Option R:=cond (decide (i<(list2.length:Int))) (cond (!done) (if 0≤i∧i<(list2.length:Int)then cond (decide ((rd (0,0,0,()) list2 i).1≥l)) (if out.length+[(l,l3,l4,())].length≤maxRow then if 0≤i∧i<(list2.length:Int)then cond ((rd (0,0,0,()) list2 i).1 != l) (if 0≤i∧i<(list2.length:Int)then if(out++[(l,l3,l4,())]).length+[((rd (0,0,0,()) list2 i).1,(rd (0,0,0,()) list2 i).2.1,(rd (0,0,0,()) list2 i).2.2.1,())].length≤maxRow then nx0 list2 true (af (i+1)) l l3 l4 same ((out++[(l,l3,l4,())])++[((rd (0,0,0,()) list2 i).1,(rd (0,0,0,()) list2 i).2.1,(rd (0,0,0,()) list2 i).2.2.1,())])else none else none) (nx0 list2 true (af (i+1)) l l3 l4 same (out++[(l,l3,l4,())]))else none else none) (if 0≤i∧i<(list2.length:Int)then cond ((rd (0,0,0,()) list2 i).1 != l) (if 0≤i∧i<(list2.length:Int)then if out.length+[((rd (0,0,0,()) list2 i).1,(rd (0,0,0,()) list2 i).2.1,(rd (0,0,0,()) list2 i).2.2.1,())].length≤maxRow then nx0 list2 done (af (i+1)) l l3 l4 same (out++[((rd (0,0,0,()) list2 i).1,(rd (0,0,0,()) list2 i).2.1,(rd (0,0,0,()) list2 i).2.2.1,())])else none else none) (nx0 list2 done (af (i+1)) l l3 l4 same out)else none)else none) (if 0≤i∧i<(list2.length:Int)then cond ((rd (0,0,0,()) list2 i).1 != l) (if 0≤i∧i<(list2.length:Int)then if out.length+[((rd (0,0,0,()) list2 i).1,(rd (0,0,0,()) list2 i).2.1,(rd (0,0,0,()) list2 i).2.2.1,())].length≤maxRow then nx0 list2 done (af (i+1)) l l3 l4 same (out++[((rd (0,0,0,()) list2 i).1,(rd (0,0,0,()) list2 i).2.1,(rd (0,0,0,()) list2 i).2.2.1,())])else none else none) (nx0 list2 done (af (i+1)) l l3 l4 same out)else none)) (ex0 done l l3 l4 same out)
def A0(list:List U9)(l0 l1 l2:Int)(done:Bool)(l l3 l4:Int)(same out:List U9):Option ((List U9)×Unit):=cond (!done) (if out.length+[(l,l3,l4,())].length≤maxRow then cond (decide (((out++[(l,l3,l4,())]).length:Int)>60)) (some (same,())) (some ((out++[(l,l3,l4,())]),()))else none) (cond (decide ((out.length:Int)>60)) (some (same,())) (some (out,())))
def T(lo0:FY ((List U9)×Unit))(list:List U9)(l0 l1 l2:Int):Option ((List U9)×Unit):=cond (decide ((list.length:Int)>400)) (some (([]:List U9),())) (if([]:List U9).length+list.length≤maxRow then(wF (list,())).bind fun y1=>cond (!y1.1) (some ((([]:List U9)++list),())) ((zJ (l0,l1,l2,())).bind fun y2=>cond (!y2.1) (some ((([]:List U9)++list),())) (lo0 list false 0 l0 l1 l2 (([]:List U9)++list) ([]:List U9)))else none)
def K0{R:Type}(k0:Nat)(K:au R):au R:=bF 0 (bI (fun env ob=>zrc k0 [1,1,1,1,1,1,1] env ob (K)) (K))
def L0:FY R:=fun list2 done i l l3 l4 same out=>iter 0 [0,3,5,6,7,8] [3,5,6,7] (zrc k0 [1,1,1,1,1,1,0,1,0,0]) k [(0,.sl ct0 list2),(3,.ptr 0 0 0 0),(5,.own 1),(6,.own 2),(7,.bool done),(8,.int .i64 i)] [.box [.int .i64 l,.int .i64 l3,.int .i64 l4],.arr ct0 same,.arr ct0 out] K
def H0:O1 R:=fun done l l3 l4 same out=>K (.exit 0) [(3,.ptr 0 0 0 0),(5,.own 1),(6,.own 2),(7,.bool done)] [.box [.int .i64 l,.int .i64 l3,.int .i64 l4],.arr ct0 same,.arr ct0 out]
theorem zs0:L0 k0 (k+1) K=R0 (L0 k0 k K) (H0 K):=by kernel_rfl
def G0{R:Type}(k0:Nat)(hx0:O1 R):Nat→FY R
 |0=>fun _ _ _ _ _ _ _ _=>none
 |k+1=>R0 (G0 k0 hx0 k) hx0
theorem aS:∀ k,L0 k0 k K=G0 k0 (H0 K) k:=bK rfl fun k ih=>by rw[zs0,G0];(try simp only[ih]);try rfl
variable (list:List U9) (l0 l1 l2:Int)
def aB:au ((List U9)×Unit):=dm Tryz.prog [.tmp 4] Jt IW (list,l0,l1,l2,())
theorem aZ:H0 (K0 k0 (aB list l0 l1 l2))=A0 list l0 l1 l2:=by kernel_rfl
def FF:Option ((List U9)×Unit):=T (G0 k0 (A0 list l0 l1 l2) k0) list l0 l1 l2
theorem aY:dB Tryz.prog (aW [(31,[],wE),(67,[],zI)]) aC k0 85 Jt IW [] (list,l0,l1,l2,())=FF k0 list l0 l1 l2:=Eq.trans (b:=T (L0 k0 k0 (K0 k0 (aB list l0 l1 l2))) list l0 l1 l2) (by kernel_rfl) (by rw[FF];(try simp only[aS,aZ]);try rfl)
def _root_.Go.Rv.zK:=fun x:(List U9)×U9=>FF (300+x.1.length) x.1 x.2.1 x.2.2.1 x.2.2.2.1
abbrev _root_.Go.Rv.Q9:aG:=⟨Jt,IW,zK,[]⟩
theorem _root_.Go.Rv.aac:aF Dr Tryz.prog 85 Q9:=dJ mix (.c Cc (.c Qy .nil)) (by kernel_rfl) fun x=>⟨aC,_,aY _ _ _ _ _⟩
end kD
abbrev JY:Is:=[.v true jh,.v true gy]
abbrev Jz:Os:=[(true,Fz)]
namespace jo
def dF:Tb:=[(36,[],J8),(38,[],CZ),(40,[],Ko),(42,[],uD),(65,[],wM),(82,[],Qs),(83,[],DK),(84,[],QI),(85,[],Q9)]
def aC:Nat→List Nat×List Nat:=fun k=>if k=16 then([2,3,4,5,8,9,10],[2,3,4,5,8])else([],[])
def zrc{R:Type}(k0:Nat)(p:List Nat):Env→List Ob→au R→Option R:=bJ Tryz.prog (aW dF) 132 0 aC k0 (cO p (dI Tryz.prog 37))
def R0{R:Type}(nx0:FX R)(ex0:O0 R)(share i s s7 s8 s9:Int)(s10 s11:List U8)(s12:List U9)(o o5 o6 o7 o8 t4x t4x2 t4x3 t4x4 t4x5 t4x6 t4x7 out out2 out3 out4:Int)(parts:List aK)(o52 o62:List U8)(o72:List U9):Option R:=cond (decide (i<(parts.length:Int))) (if 0≤i∧i<(parts.length:Int)then cond ((parts.getD i.toNat (0,0,())).1==o5) (if 0≤i∧i<(parts.length:Int)then nx0 ((parts.getD i.toNat (0,0,())).2.1) (af (i+1)) s s7 s8 s9 s10 s11 s12 o o5 o6 o7 o8 t4x t4x2 t4x3 t4x4 t4x5 t4x6 t4x7 out out2 out3 out4 parts o52 o62 o72 else none) (nx0 share (af (i+1)) s s7 s8 s9 s10 s11 s12 o o5 o6 o7 o8 t4x t4x2 t4x3 t4x4 t4x5 t4x6 t4x7 out out2 out3 out4 parts o52 o62 o72)else none) (ex0 share s s7 s8 s9 s10 s11 s12 o o5 o6 o7 o8 t4x t4x2 t4x3 t4x4 t4x5 t4x6 t4x7 out out2 out3 out4 o52 o62 o72)
def A0(s0 s1 s2 s3:Int)(s4 s5:List U8)(s6:List U9)(o0 o1 o2 o3 o4:Int)(share s s7 s8 s9:Int)(s10 s11:List U8)(s12:List U9)(o o5 o6 o7 o8 t4x t4x2 t4x3 t4x4 t4x5 t4x6 t4x7 out out2 out3 out4:Int)(o42 o52:List U8)(o62:List U9):Option (U0):=(Dh (s12,s8,o5,s9,())).bind fun y1=>(uJ (share,y1.1,())).bind fun y2=>(zK (s12,o5,y2.1,(af (s8+s)),())).bind fun y3=>some (out,out2,out3,out4,o42,o52,y3.1,y2.1,(af (s8+s)),0,())
def T(lo0:FX (U0))(s0 s1 s2 s3:Int)(s4 s5:List U8)(s6:List U9)(o0 o1 o2 o3 o4:Int):Option (U0):=cond (decide (s2<(af (s1+s0)))) ((lZ (7,())).bind fun y1=>some (y1.1,y1.2.1,y1.2.2.1,y1.2.2.2.1,y1.2.2.2.2.1,y1.2.2.2.2.2.1,y1.2.2.2.2.2.2.1,y1.2.2.2.2.2.2.2.1,y1.2.2.2.2.2.2.2.2.1,y1.2.2.2.2.2.2.2.2.2.1,())) (cond (o2 != 0) ((jR (s3,s4,s5,o2,())).bind fun y2=>cond (decide (y2.1<0)) ((lZ (4,())).bind fun y3=>some (y3.1,y3.2.1,y3.2.2.1,y3.2.2.2.1,y3.2.2.2.2.1,y3.2.2.2.2.2.1,y3.2.2.2.2.2.2.1,y3.2.2.2.2.2.2.2.1,y3.2.2.2.2.2.2.2.2.1,y3.2.2.2.2.2.2.2.2.2.1,())) ((nX (s0,s1,s2,s3,s4,s5,s6,())).bind fun y4=>(qo (s3,s4,s5,o1,())).bind fun y5=>cond (decide (y5.1<0)) ((kz (s3,s4,s5,1,o1,o2,o3,o4,())).bind fun y6=>cond (y6.2.2.2.2.1 != 0) ((lZ (y6.2.2.2.2.1,())).bind fun y7=>some (y7.1,y7.2.1,y7.2.2.1,y7.2.2.2.1,y7.2.2.2.2.1,y7.2.2.2.2.2.1,y7.2.2.2.2.2.2.1,y7.2.2.2.2.2.2.2.1,y7.2.2.2.2.2.2.2.2.1,y7.2.2.2.2.2.2.2.2.2.1,())) ((wG (y6.1,y6.2.1,y6.2.2.1,())).bind fun y8=>lo0 0 0 s0 s1 s2 s3 s4 s5 s6 o0 o1 o2 o3 o4 0 0 0 0 0 0 0 y4.1 y4.2.1 y4.2.2.1 y6.1 y8.1 y6.2.1 y6.2.2.1 y4.2.2.2.2.2.2.1)) (if 0≤y5.1∧y5.1<(y4.2.2.2.2.2.1.length:Int)then(wG (y4.2.2.2.1,y4.2.2.2.2.1,(y4.2.2.2.2.2.1.set ((y5.1).toNat) (o1,o2,o3,o4,())),())).bind fun y9=>lo0 0 0 s0 s1 s2 s3 s4 s5 s6 o0 o1 o2 o3 o4 0 0 0 0 0 0 0 y4.1 y4.2.1 y4.2.2.1 y4.2.2.2.1 y9.1 y4.2.2.2.2.1 (y4.2.2.2.2.2.1.set ((y5.1).toNat) (o1,o2,o3,o4,())) y4.2.2.2.2.2.2.1 else none))) ((nX (s0,s1,s2,s3,s4,s5,s6,())).bind fun y10=>(qo (s3,s4,s5,o1,())).bind fun y11=>cond (decide (y11.1<0)) ((kz (s3,s4,s5,1,o1,o2,o3,o4,())).bind fun y12=>cond (y12.2.2.2.2.1 != 0) ((lZ (y12.2.2.2.2.1,())).bind fun y13=>some (y13.1,y13.2.1,y13.2.2.1,y13.2.2.2.1,y13.2.2.2.2.1,y13.2.2.2.2.2.1,y13.2.2.2.2.2.2.1,y13.2.2.2.2.2.2.2.1,y13.2.2.2.2.2.2.2.2.1,y13.2.2.2.2.2.2.2.2.2.1,())) ((wG (y12.1,y12.2.1,y12.2.2.1,())).bind fun y14=>lo0 0 0 s0 s1 s2 s3 s4 s5 s6 o0 o1 o2 o3 o4 0 0 0 0 0 0 0 y10.1 y10.2.1 y10.2.2.1 y12.1 y14.1 y12.2.1 y12.2.2.1 y10.2.2.2.2.2.2.1)) (if 0≤y11.1∧y11.1<(y10.2.2.2.2.2.1.length:Int)then(wG (y10.2.2.2.1,y10.2.2.2.2.1,(y10.2.2.2.2.2.1.set ((y11.1).toNat) (o1,o2,o3,o4,())),())).bind fun y15=>lo0 0 0 s0 s1 s2 s3 s4 s5 s6 o0 o1 o2 o3 o4 0 0 0 0 0 0 0 y10.1 y10.2.1 y10.2.2.1 y10.2.2.2.1 y15.1 y10.2.2.2.2.1 (y10.2.2.2.2.2.1.set ((y11.1).toNat) (o1,o2,o3,o4,())) y10.2.2.2.2.2.2.1 else none)))
def K0{R:Type}(k0:Nat)(K:au R):au R:=bF 0 (bI (fun env ob=>zrc k0 [1,1,1,1,1,1,1,1,1] env ob (K)) (K))
def L0:FX R:=fun share i s s7 s8 s9 s10 s11 s12 o o5 o6 o7 o8 t4x t4x2 t4x3 t4x4 t4x5 t4x6 t4x7 out out2 out3 out4 parts o52 o62 o72=>iter 0 [2,3,4,5,8,9,10] [2,3,4,5,8] (zrc k0 [1,1,1,1,1,1,1,1,0,1,0,0]) k [(2,.ptr 0 0 0 0),(3,.ptr 1 0 0 0),(4,.ptr 2 0 0 0),(5,.ptr 3 0 0 0),(8,.int .i64 share),(9,.own 4),(10,.int .i64 i)] [.box [.int .i64 s,.int .i64 s7,.int .i64 s8,.int .i64 s9,.sl aA s10,.sl aA s11,.sl ct0 s12],.box [.int .i64 o,.int .i64 o5,.int .i64 o6,.int .i64 o7,.int .i64 o8],.box [.int .i64 t4x,.int .i64 t4x2,.int .i64 t4x3,.int .i64 t4x4,.nils,.nils,.nils,.int .i64 t4x5,.int .i64 t4x6,.int .i64 t4x7],.box [.int .i64 out,.int .i64 out2,.int .i64 out3,.int .i64 out4,.own 5,.own 6,.own 7],.arr dX parts,.arr aA o52,.arr aA o62,.arr ct0 o72] K
def H0:O0 R:=fun share s s7 s8 s9 s10 s11 s12 o o5 o6 o7 o8 t4x t4x2 t4x3 t4x4 t4x5 t4x6 t4x7 out out2 out3 out4 o42 o52 o62=>K (.exit 0) [(2,.ptr 0 0 0 0),(3,.ptr 1 0 0 0),(4,.ptr 2 0 0 0),(5,.ptr 3 0 0 0),(8,.int .i64 share)] [.box [.int .i64 s,.int .i64 s7,.int .i64 s8,.int .i64 s9,.sl aA s10,.sl aA s11,.sl ct0 s12],.box [.int .i64 o,.int .i64 o5,.int .i64 o6,.int .i64 o7,.int .i64 o8],.box [.int .i64 t4x,.int .i64 t4x2,.int .i64 t4x3,.int .i64 t4x4,.nils,.nils,.nils,.int .i64 t4x5,.int .i64 t4x6,.int .i64 t4x7],.box [.int .i64 out,.int .i64 out2,.int .i64 out3,.int .i64 out4,.own 4,.own 5,.own 6],.arr aA o42,.arr aA o52,.arr ct0 o62]
theorem zs0:L0 k0 (k+1) K=R0 (L0 k0 k K) (H0 K):=by kernel_rfl
def G0{R:Type}(k0:Nat)(hx0:O0 R):Nat→FX R
 |0=>fun _ _ _ _ _ _ _ _ _ _ _ _ _ _ _ _ _ _ _ _ _ _ _ _ _ _ _ _ _=>none
 |k+1=>R0 (G0 k0 hx0 k) hx0
theorem aS:∀ k,L0 k0 k K=G0 k0 (H0 K) k:=bK rfl fun k ih=>by rw[zs0,G0];(try simp only[ih]);try rfl
variable (s0 s1 s2 s3:Int) (s4 s5:List U8) (s6:List U9) (o0 o1 o2 o3 o4:Int)
def aB:au (U0):=dm Tryz.prog [.cell 4 37] JY Jz (s0,s1,s2,s3,s4,s5,s6,o0,o1,o2,o3,o4,())
theorem aZ:H0 (K0 k0 (aB s0 s1 s2 s3 s4 s5 s6 o0 o1 o2 o3 o4))=A0 s0 s1 s2 s3 s4 s5 s6 o0 o1 o2 o3 o4:=by kernel_rfl
def FF:Option (U0):=T (G0 k0 (A0 s0 s1 s2 s3 s4 s5 s6 o0 o1 o2 o3 o4) k0) s0 s1 s2 s3 s4 s5 s6 o0 o1 o2 o3 o4
theorem aY:dB Tryz.prog (aW dF) aC k0 37 JY Jz [] (s0,s1,s2,s3,s4,s5,s6,o0,o1,o2,o3,o4,())=FF k0 s0 s1 s2 s3 s4 s5 s6 o0 o1 o2 o3 o4:=Eq.trans (b:=T (L0 k0 k0 (K0 k0 (aB s0 s1 s2 s3 s4 s5 s6 o0 o1 o2 o3 o4))) s0 s1 s2 s3 s4 s5 s6 o0 o1 o2 o3 o4) (by kernel_rfl) (by rw[FF];(try simp only[aS,aZ]);try rfl)
def _root_.Go.Rv.DL:=fun x:Int×Int×Int×Int×(List U8)×(List U8)×(List U9)×U6=>FF (300+x.2.2.2.2.1.length+x.2.2.2.2.2.1.length+x.2.2.2.2.2.2.1.length) x.1 x.2.1 x.2.2.1 x.2.2.2.1 x.2.2.2.2.1 x.2.2.2.2.2.1 x.2.2.2.2.2.2.1 x.2.2.2.2.2.2.2.1 x.2.2.2.2.2.2.2.2.1 x.2.2.2.2.2.2.2.2.2.1 x.2.2.2.2.2.2.2.2.2.2.1 x.2.2.2.2.2.2.2.2.2.2.2.1
abbrev _root_.Go.Rv.RZ:aG:=⟨JY,Jz,DL,[]⟩
theorem _root_.Go.Rv.aaE:aF Dr Tryz.prog 37 RZ:=dJ mix (.c Qx (.c CP (.c QA (.c zG (.c wJ (.c Zo (.c Ru (.c ZI (.c aac .nil))))))))) (by kernel_rfl) fun x=>⟨aC,_,aY _ _ _ _ _ _ _ _ _ _ _ _ _⟩
end jo
abbrev J4:Is:=[.v false [CT.sl [CT.int .i64]],.v false [CT.int .i64]]
abbrev JC:Os:=[(false,[CT.bool])]
namespace nY
def aC:Nat→List Nat×List Nat:=fun k=>if k=2 then([0,1,5],[4])else([],[])
def zrc{R:Type}(k0:Nat)(p:List Nat):Env→List Ob→au R→Option R:=bJ Tryz.prog (aW []) 18 0 aC k0 (cO p (dI Tryz.prog 86))
def R0{R:Type}(nx0:FW R)(ex0:ji R)(ex1:dY R)(l2:List (Int×Unit))(n2 i:Int):Option R:=cond (decide (i<(l2.length:Int))) (if 0≤i∧i<(l2.length:Int)then cond ((rd (0,()) l2 i).1==n2) (ex0 true) (nx0 l2 n2 (af (i+1)))else none) (ex1 ())
def A0(l:List (Int×Unit))(n:Int)(t4x:Bool):Option (Bool×Unit):=some (t4x,())
def A1(l:List (Int×Unit))(n:Int)(_u:Unit):Option (Bool×Unit):=some (false,())
def T(lo0:FW (Bool×Unit))(l:List (Int×Unit))(n:Int):Option (Bool×Unit):=lo0 l n 0
def K0{R:Type}(k0:Nat)(K:au R):au R:=bF 0 (bI (fun env ob=>zrc k0 [1,1] env ob (K)) (K))
def L0:FW R:=fun l2 n2 i=>iter 0 [0,1,5] [4] (zrc k0 [1,0,1,0,0]) k [(0,.sl [CT.int .i64] l2),(1,.int .i64 n2),(5,.int .i64 i)] [] K
def H0:ji R:=fun t4x=>K .ret [(4,.bool t4x)] []
def H1:dY R:=fun _=>K (.exit 0) [(4,.undef)] []
theorem zs0:L0 k0 (k+1) K=R0 (L0 k0 k K) (H0 K) (H1 K):=by kernel_rfl
def G0{R:Type}(k0:Nat)(hx0:ji R)(hx1:dY R):Nat→FW R
 |0=>fun _ _ _=>none
 |k+1=>R0 (G0 k0 hx0 hx1 k) hx0 hx1
theorem aS:∀ k,L0 k0 k K=G0 k0 (H0 K) (H1 K) k:=bK rfl fun k ih=>by rw[zs0,G0];(try simp only[ih]);try rfl
variable (l:List (Int×Unit)) (n:Int)
def aB:au (Bool×Unit):=dm Tryz.prog [.tmp 4] J4 JC (l,n,())
theorem aZ:H0 (K0 k0 (aB l n))=A0 l n:=by kernel_rfl
theorem dw:H1 (K0 k0 (aB l n))=A1 l n:=by kernel_rfl
def FF:Option (Bool×Unit):=T (G0 k0 (A0 l n) (A1 l n) k0) l n
theorem aY:dB Tryz.prog (aW []) aC k0 86 J4 JC [] (l,n,())=FF k0 l n:=Eq.trans (b:=T (L0 k0 k0 (K0 k0 (aB l n))) l n) (by kernel_rfl) (by rw[FF];(try simp only[aS,aZ,dw]);try rfl)
def _root_.Go.Rv.KJ:=fun x:(List (Int×Unit))×Int×Unit=>FF (300+x.1.length) x.1 x.2.1
abbrev _root_.Go.Rv.KH:aG:=⟨J4,JC,KJ,[]⟩
theorem _root_.Go.Rv.aaH:aF Dr Tryz.prog 86 KH:=dJ mix .nil (by kernel_rfl) fun x=>⟨aC,_,aY _ _ _⟩
end nY
abbrev IE:Is:=[.v true jh,.v false [CT.sl [CT.int .i64]]]
abbrev Ic:Os:=[(true,jh)]
namespace oW
def aC:Nat→List Nat×List Nat:=fun k=>if k=5 then([1,2,4,5,6],[4,5])else([],[])
def zrc{R:Type}(k0:Nat)(p:List Nat):Env→List Ob→au R→Option R:=bJ Tryz.prog (aW [(42,[],uD),(86,[],KH)]) 54 0 aC k0 (cO p (dI Tryz.prog 39))
def R0{R:Type}(nx0:FV R)(ex0:OZ R)(gone2:List (Int×Unit))(i s s7 s8 s9:Int)(s10 s11:List U8)(s12:List U9)(t4x t4x2 t4x3 t4x4 out out2 out3 out4:Int)(o3 o4:List U8)(o5:List U9):Option R:=cond (decide (i<(s12.length:Int))) (if 0≤i∧i<(s12.length:Int)then(KJ (gone2,(rd (0,0,0,()) s12 i).1,())).bind fun y1=>cond (!y1.1) (if 0≤i∧i<(s12.length:Int)then if o5.length+[((rd (0,0,0,()) s12 i).1,(rd (0,0,0,()) s12 i).2.1,(rd (0,0,0,()) s12 i).2.2.1,())].length≤maxRow then if 0≤i∧i<(s11.length:Int)then if o4.length+[((rd (0,0,0,0,()) s11 i).1,(rd (0,0,0,0,()) s11 i).2.1,(rd (0,0,0,0,()) s11 i).2.2.1,(rd (0,0,0,0,()) s11 i).2.2.2.1,())].length≤maxRow then nx0 gone2 (af (i+1)) s s7 s8 s9 s10 s11 s12 t4x t4x2 t4x3 t4x4 out out2 out3 out4 o3 (o4++[((rd (0,0,0,0,()) s11 i).1,(rd (0,0,0,0,()) s11 i).2.1,(rd (0,0,0,0,()) s11 i).2.2.1,(rd (0,0,0,0,()) s11 i).2.2.2.1,())]) (o5++[((rd (0,0,0,()) s12 i).1,(rd (0,0,0,()) s12 i).2.1,(rd (0,0,0,()) s12 i).2.2.1,())])else none else none else none else none) (nx0 gone2 (af (i+1)) s s7 s8 s9 s10 s11 s12 t4x t4x2 t4x3 t4x4 out out2 out3 out4 o3 o4 o5)else none) (ex0 t4x t4x2 t4x3 t4x4 out out2 out3 out4 o3 o4 o5)
def A0(s0 s1 s2 s3:Int)(s4 s5:List U8)(s6:List U9)(gone:List (Int×Unit))(t4x t4x2 t4x3 t4x4 out out2 out3 out4:Int)(o2 o3:List U8)(o4:List U9):Option (U1):=some (out,out2,out3,out4,o2,o3,o4,())
def T(lo0:FV (U1))(s0 s1 s2 s3:Int)(s4 s5:List U8)(s6:List U9)(gone:List (Int×Unit)):Option (U1):=(nX (s0,s1,s2,s3,s4,s5,s6,())).bind fun y1=>lo0 gone 0 s0 s1 s2 s3 s4 s5 s6 0 0 0 0 y1.1 y1.2.1 y1.2.2.1 y1.2.2.2.1 y1.2.2.2.2.1 ([]:List U8) ([]:List U9)
def K0{R:Type}(k0:Nat)(K:au R):au R:=bF 0 (bI (fun env ob=>zrc k0 [1,1,1,1,1] env ob (K)) (K))
def L0:FV R:=fun gone2 i s s7 s8 s9 s10 s11 s12 t4x t4x2 t4x3 t4x4 out out2 out3 out4 o3 o4 o5=>iter 0 [1,2,4,5,6] [4,5] (zrc k0 [1,1,1,1,0,1,0,0]) k [(1,.sl [CT.int .i64] gone2),(2,.ptr 0 0 0 0),(4,.ptr 1 0 0 0),(5,.ptr 2 0 0 0),(6,.int .i64 i)] [.box [.int .i64 s,.int .i64 s7,.int .i64 s8,.int .i64 s9,.sl aA s10,.sl aA s11,.sl ct0 s12],.box [.int .i64 t4x,.int .i64 t4x2,.int .i64 t4x3,.int .i64 t4x4,.nils,.nils,.nils],.box [.int .i64 out,.int .i64 out2,.int .i64 out3,.int .i64 out4,.own 3,.own 4,.own 5],.arr aA o3,.arr aA o4,.arr ct0 o5] K
def H0:OZ R:=fun t4x t4x2 t4x3 t4x4 out out2 out3 out4 o2 o3 o4=>K (.exit 0) [(4,.ptr 0 0 0 0),(5,.ptr 1 0 0 0)] [.box [.int .i64 t4x,.int .i64 t4x2,.int .i64 t4x3,.int .i64 t4x4,.nils,.nils,.nils],.box [.int .i64 out,.int .i64 out2,.int .i64 out3,.int .i64 out4,.own 2,.own 3,.own 4],.arr aA o2,.arr aA o3,.arr ct0 o4]
theorem zs0:L0 k0 (k+1) K=R0 (L0 k0 k K) (H0 K):=by kernel_rfl
def G0{R:Type}(k0:Nat)(hx0:OZ R):Nat→FV R
 |0=>fun _ _ _ _ _ _ _ _ _ _ _ _ _ _ _ _ _ _ _ _=>none
 |k+1=>R0 (G0 k0 hx0 k) hx0
theorem aS:∀ k,L0 k0 k K=G0 k0 (H0 K) k:=bK rfl fun k ih=>by rw[zs0,G0];(try simp only[ih]);try rfl
variable (s0 s1 s2 s3:Int) (s4 s5:List U8) (s6:List U9) (gone:List (Int×Unit))
def aB:au (U1):=dm Tryz.prog [.cell 4 29] IE Ic (s0,s1,s2,s3,s4,s5,s6,gone,())
theorem aZ:H0 (K0 k0 (aB s0 s1 s2 s3 s4 s5 s6 gone))=A0 s0 s1 s2 s3 s4 s5 s6 gone:=by kernel_rfl
def FF:Option (U1):=T (G0 k0 (A0 s0 s1 s2 s3 s4 s5 s6 gone) k0) s0 s1 s2 s3 s4 s5 s6 gone
theorem aY:dB Tryz.prog (aW [(42,[],uD),(86,[],KH)]) aC k0 39 IE Ic [] (s0,s1,s2,s3,s4,s5,s6,gone,())=FF k0 s0 s1 s2 s3 s4 s5 s6 gone:=Eq.trans (b:=T (L0 k0 k0 (K0 k0 (aB s0 s1 s2 s3 s4 s5 s6 gone))) s0 s1 s2 s3 s4 s5 s6 gone) (by kernel_rfl) (by rw[FF];(try simp only[aS,aZ]);try rfl)
def _root_.Go.Rv.zq:=fun x:Int×Int×Int×Int×(List U8)×(List U8)×(List U9)×(List (Int×Unit))×Unit=>FF (300+x.2.2.2.2.1.length+x.2.2.2.2.2.1.length+x.2.2.2.2.2.2.1.length+x.2.2.2.2.2.2.2.1.length) x.1 x.2.1 x.2.2.1 x.2.2.2.1 x.2.2.2.2.1 x.2.2.2.2.2.1 x.2.2.2.2.2.2.1 x.2.2.2.2.2.2.2.1
abbrev _root_.Go.Rv.Qq:aG:=⟨IE,Ic,zq,[]⟩
theorem _root_.Go.Rv.Zn:aF Dr Tryz.prog 39 Qq:=dJ mix (.c zG (.c aaH .nil)) (by kernel_rfl) fun x=>⟨aC,_,aY _ _ _ _ _ _ _ _ _⟩
end oW
abbrev Js:Is:=[.v true jh,.v true gy]
abbrev IV:Os:=[(true,Fz)]
namespace fF
def dF:Tb:=[(8,[],Qc),(35,[],SS),(36,[],J8),(37,[],RZ),(38,[],CZ),(39,[],Qq),(40,[],Ko),(41,[],RD),(42,[],uD)]
def aC:Nat→List Nat×List Nat:=fun k=>if k=15 then([2,4,5,6],[2,4,5])else if k=24 then([2,4,5,8],[2,4,5])else([],[])
def zrc{R:Type}(k0:Nat)(p:List Nat):Env→List Ob→au R→Option R:=bJ Tryz.prog (aW dF) 129 0 aC k0 (cO p (dI Tryz.prog 11))
def R0{R:Type}(nx0:vP R)(ex0:yS R)(i s s7 s8 s9:Int)(s10 s11:List U8)(s12:List U9)(t4x t4x2 t4x3 t4x4 t4x5 t4x6 t4x7:Int)(gone:List (Int×Unit)):Option R:=cond (decide (i<(s12.length:Int))) (if 0≤i∧i<(s12.length:Int)then cond (decide ((rd (0,0,0,()) s12 i).2.2.1≤(af (s8+1)))) (if 0≤i∧i<(s12.length:Int)then if gone.length+[((rd (0,0,0,()) s12 i).1,())].length≤maxRow then nx0 (af (i+1)) s s7 s8 s9 s10 s11 s12 t4x t4x2 t4x3 t4x4 t4x5 t4x6 t4x7 (gone++[((rd (0,0,0,()) s12 i).1,())])else none else none) (nx0 (af (i+1)) s s7 s8 s9 s10 s11 s12 t4x t4x2 t4x3 t4x4 t4x5 t4x6 t4x7 gone)else none) (ex0 s s7 s8 s9 s10 s11 s12 t4x t4x2 t4x3 t4x4 t4x5 t4x6 t4x7 gone)
def R1{R:Type}(nx1:vP R)(ex1:yS R)(i s s7 s8 s9:Int)(s10 s11:List U8)(s12:List U9)(t4x t4x2 t4x3 t4x4 t4x5 t4x6 t4x7:Int)(gone:List (Int×Unit)):Option R:=cond (decide (i<(s12.length:Int))) (if 0≤i∧i<(s12.length:Int)then if gone.length+[((rd (0,0,0,()) s12 i).1,())].length≤maxRow then nx1 (af (i+1)) s s7 s8 s9 s10 s11 s12 t4x t4x2 t4x3 t4x4 t4x5 t4x6 t4x7 (gone++[((rd (0,0,0,()) s12 i).1,())])else none else none) (ex1 s s7 s8 s9 s10 s11 s12 t4x t4x2 t4x3 t4x4 t4x5 t4x6 t4x7 gone)
def A0(s0 s1 s2 s3:Int)(s4 s5:List U8)(s6:List U9)(o0 o1 o2 o3 o4:Int)(s s7 s8 s9:Int)(s10 s11:List U8)(s12:List U9)(t4x t4x2 t4x3 t4x4 t4x5 t4x6 t4x7:Int)(gone:List (Int×Unit)):Option (U0):=(zq (s,s7,s8,s9,s10,s11,s12,gone,())).bind fun y1=>some (y1.1,y1.2.1,(af (s8+1)),y1.2.2.2.1,y1.2.2.2.2.1,y1.2.2.2.2.2.1,y1.2.2.2.2.2.2.1,0,0,0,())
def A1(s0 s1 s2 s3:Int)(s4 s5:List U8)(s6:List U9)(o0 o1 o2 o3 o4:Int)(s s7 s8 s9:Int)(s10 s11:List U8)(s12:List U9)(t4x t4x2 t4x3 t4x4 t4x5 t4x6 t4x7:Int)(gone:List (Int×Unit)):Option (U0):=(zq (s,s7,s8,s9,s10,s11,s12,gone,())).bind fun y1=>some (y1.1,s8,y1.2.2.1,y1.2.2.2.1,y1.2.2.2.2.1,y1.2.2.2.2.2.1,y1.2.2.2.2.2.2.1,0,0,0,())
def T(lo0 lo1:vP (U0))(s0 s1 s2 s3:Int)(s4 s5:List U8)(s6:List U9)(o0 o1 o2 o3 o4:Int):Option (U0):=(Cm (s0,s1,s2,s3,s4,s5,s6,())).bind fun y1=>cond (!y1.1) ((lZ (1,())).bind fun y2=>some (y2.1,y2.2.1,y2.2.2.1,y2.2.2.2.1,y2.2.2.2.2.1,y2.2.2.2.2.2.1,y2.2.2.2.2.2.2.1,y2.2.2.2.2.2.2.2.1,y2.2.2.2.2.2.2.2.2.1,y2.2.2.2.2.2.2.2.2.2.1,())) ((DW (o0,o1,o2,o3,o4,())).bind fun y3=>cond (!y3.1) ((lZ (1,())).bind fun y4=>some (y4.1,y4.2.1,y4.2.2.1,y4.2.2.2.1,y4.2.2.2.2.1,y4.2.2.2.2.2.1,y4.2.2.2.2.2.2.1,y4.2.2.2.2.2.2.2.1,y4.2.2.2.2.2.2.2.2.1,y4.2.2.2.2.2.2.2.2.2.1,())) (cond (o0==1) ((DL (s0,s1,s2,s3,s4,s5,s6,o0,o1,o2,o3,o4,())).bind fun y5=>some (y5.1,y5.2.1,y5.2.2.1,y5.2.2.2.1,y5.2.2.2.2.1,y5.2.2.2.2.2.1,y5.2.2.2.2.2.2.1,y5.2.2.2.2.2.2.2.1,y5.2.2.2.2.2.2.2.2.1,y5.2.2.2.2.2.2.2.2.2.1,())) (cond (o0==2) ((qo (s3,s4,s5,o1,())).bind fun y6=>cond (decide (y6.1<0)) ((lZ (4,())).bind fun y7=>some (y7.1,y7.2.1,y7.2.2.1,y7.2.2.2.1,y7.2.2.2.2.1,y7.2.2.2.2.2.1,y7.2.2.2.2.2.2.1,y7.2.2.2.2.2.2.2.1,y7.2.2.2.2.2.2.2.2.1,y7.2.2.2.2.2.2.2.2.2.1,())) ((zq (s0,s1,s2,s3,s4,s5,s6,[(o1,())],())).bind fun y8=>some (y8.1,y8.2.1,y8.2.2.1,y8.2.2.2.1,y8.2.2.2.2.1,y8.2.2.2.2.2.1,y8.2.2.2.2.2.2.1,0,0,0,()))) (cond (o0==4) (cond (s2==999000) ((lZ (9,())).bind fun y9=>some (y9.1,y9.2.1,y9.2.2.1,y9.2.2.2.1,y9.2.2.2.2.1,y9.2.2.2.2.2.1,y9.2.2.2.2.2.2.1,y9.2.2.2.2.2.2.2.1,y9.2.2.2.2.2.2.2.2.1,y9.2.2.2.2.2.2.2.2.2.1,())) (lo0 0 s0 s1 s2 s3 s4 s5 s6 0 0 0 0 0 0 0 ([]:List (Int×Unit)))) (cond (o0==5) (lo1 0 s0 s1 s2 s3 s4 s5 s6 0 0 0 0 0 0 0 ([]:List (Int×Unit))) ((oZ (o0,o1,o2,o3,o4,())).bind fun y10=>(kz (s3,s4,s5,y10.1,y10.2.1,y10.2.2.1,y10.2.2.2.1,y10.2.2.2.2.1,())).bind fun y11=>cond (y11.2.2.2.2.1 != 0) ((lZ (y11.2.2.2.2.1,())).bind fun y12=>some (y12.1,y12.2.1,y12.2.2.1,y12.2.2.2.1,y12.2.2.2.2.1,y12.2.2.2.2.2.1,y12.2.2.2.2.2.2.1,y12.2.2.2.2.2.2.2.1,y12.2.2.2.2.2.2.2.2.1,y12.2.2.2.2.2.2.2.2.2.1,())) ((nX (s0,s1,s2,s3,s4,s5,s6,())).bind fun y13=>some (y13.1,y13.2.1,y13.2.2.1,y11.1,y11.2.1,y11.2.2.1,y13.2.2.2.2.2.2.1,0,0,0,()))))))))
def K0{R:Type}(k0:Nat)(K:au R):au R:=bF 1 (bI (fun env ob=>zrc k0 [1,1,1,0,1,0,1,1,1,1,1,0,1,1] env ob (bF 0 (bI (fun env ob=>zrc k0 [1,1,1,1] env ob (K)) (K)))) (bF 0 (bI (fun env ob=>zrc k0 [1,1,1,1] env ob (K)) (K))))
def K1{R:Type}(k0:Nat)(K:au R):au R:=bF 3 (bI (fun env ob=>zrc k0 [1,1,1,0,1,0,1,1,1,1,1,1,1,0,1] env ob (bF 0 (bI (fun env ob=>zrc k0 [1,1,1,1] env ob (K)) (K)))) (bF 0 (bI (fun env ob=>zrc k0 [1,1,1,1] env ob (K)) (K))))
def L0:vP R:=fun i s s7 s8 s9 s10 s11 s12 t4x t4x2 t4x3 t4x4 t4x5 t4x6 t4x7 gone=>iter 0 [2,4,5,6] [2,4,5] (zrc k0 [1,1,1,0,1,0,1,1,1,1,1,0,1,0,1,0,0]) k [(2,.ptr 0 0 0 0),(4,.ptr 1 0 0 0),(5,.own 2),(6,.int .i64 i)] [.box [.int .i64 s,.int .i64 s7,.int .i64 s8,.int .i64 s9,.sl aA s10,.sl aA s11,.sl ct0 s12],.box [.int .i64 t4x,.int .i64 t4x2,.int .i64 t4x3,.int .i64 t4x4,.nils,.nils,.nils,.int .i64 t4x5,.int .i64 t4x6,.int .i64 t4x7],.arr [CT.int .i64] gone] K
def L1:vP R:=fun i s s7 s8 s9 s10 s11 s12 t4x t4x2 t4x3 t4x4 t4x5 t4x6 t4x7 gone=>iter 0 [2,4,5,8] [2,4,5] (zrc k0 [1,1,1,0,1,0,1,1,1,1,1,1,1,0,0,1,0,0]) k [(2,.ptr 0 0 0 0),(4,.ptr 1 0 0 0),(5,.own 2),(8,.int .i64 i)] [.box [.int .i64 s,.int .i64 s7,.int .i64 s8,.int .i64 s9,.sl aA s10,.sl aA s11,.sl ct0 s12],.box [.int .i64 t4x,.int .i64 t4x2,.int .i64 t4x3,.int .i64 t4x4,.nils,.nils,.nils,.int .i64 t4x5,.int .i64 t4x6,.int .i64 t4x7],.arr [CT.int .i64] gone] K
def H0:yS R:=fun s s7 s8 s9 s10 s11 s12 t4x t4x2 t4x3 t4x4 t4x5 t4x6 t4x7 gone=>K (.exit 1) [(2,.ptr 0 0 0 0),(4,.ptr 1 0 0 0),(5,.own 2)] [.box [.int .i64 s,.int .i64 s7,.int .i64 s8,.int .i64 s9,.sl aA s10,.sl aA s11,.sl ct0 s12],.box [.int .i64 t4x,.int .i64 t4x2,.int .i64 t4x3,.int .i64 t4x4,.nils,.nils,.nils,.int .i64 t4x5,.int .i64 t4x6,.int .i64 t4x7],.arr [CT.int .i64] gone]
def H1:yS R:=fun s s7 s8 s9 s10 s11 s12 t4x t4x2 t4x3 t4x4 t4x5 t4x6 t4x7 gone=>K (.exit 3) [(2,.ptr 0 0 0 0),(4,.ptr 1 0 0 0),(5,.own 2)] [.box [.int .i64 s,.int .i64 s7,.int .i64 s8,.int .i64 s9,.sl aA s10,.sl aA s11,.sl ct0 s12],.box [.int .i64 t4x,.int .i64 t4x2,.int .i64 t4x3,.int .i64 t4x4,.nils,.nils,.nils,.int .i64 t4x5,.int .i64 t4x6,.int .i64 t4x7],.arr [CT.int .i64] gone]
theorem zs0:L0 k0 (k+1) K=R0 (L0 k0 k K) (H0 K):=by kernel_rfl
theorem zs1:L1 k0 (k+1) K=R1 (L1 k0 k K) (H1 K):=by kernel_rfl
def G0{R:Type}(k0:Nat)(hx0:yS R):Nat→vP R
 |0=>fun _ _ _ _ _ _ _ _ _ _ _ _ _ _ _ _=>none
 |k+1=>R0 (G0 k0 hx0 k) hx0
theorem aS:∀ k,L0 k0 k K=G0 k0 (H0 K) k:=bK rfl fun k ih=>by rw[zs0,G0];(try simp only[ih]);try rfl
def G1{R:Type}(k0:Nat)(hx1:yS R):Nat→vP R
 |0=>fun _ _ _ _ _ _ _ _ _ _ _ _ _ _ _ _=>none
 |k+1=>R1 (G1 k0 hx1 k) hx1
theorem dL:∀ k,L1 k0 k K=G1 k0 (H1 K) k:=bK rfl fun k ih=>by rw[zs1,G1];(try simp only[ih,aS]);try rfl
variable (s0 s1 s2 s3:Int) (s4 s5:List U8) (s6:List U9) (o0 o1 o2 o3 o4:Int)
def aB:au (U0):=dm Tryz.prog [.cell 4 37] Js IV (s0,s1,s2,s3,s4,s5,s6,o0,o1,o2,o3,o4,())
theorem aZ:H0 (K0 k0 (aB s0 s1 s2 s3 s4 s5 s6 o0 o1 o2 o3 o4))=A0 s0 s1 s2 s3 s4 s5 s6 o0 o1 o2 o3 o4:=by kernel_rfl
theorem dw:H1 (K1 k0 (aB s0 s1 s2 s3 s4 s5 s6 o0 o1 o2 o3 o4))=A1 s0 s1 s2 s3 s4 s5 s6 o0 o1 o2 o3 o4:=by kernel_rfl
def FF:Option (U0):=T (G0 k0 (A0 s0 s1 s2 s3 s4 s5 s6 o0 o1 o2 o3 o4) k0) (G1 k0 (A1 s0 s1 s2 s3 s4 s5 s6 o0 o1 o2 o3 o4) k0) s0 s1 s2 s3 s4 s5 s6 o0 o1 o2 o3 o4
theorem aY:dB Tryz.prog (aW dF) aC k0 11 Js IV [] (s0,s1,s2,s3,s4,s5,s6,o0,o1,o2,o3,o4,())=FF k0 s0 s1 s2 s3 s4 s5 s6 o0 o1 o2 o3 o4:=Eq.trans (b:=T (L0 k0 k0 (K0 k0 (aB s0 s1 s2 s3 s4 s5 s6 o0 o1 o2 o3 o4))) (L1 k0 k0 (K1 k0 (aB s0 s1 s2 s3 s4 s5 s6 o0 o1 o2 o3 o4))) s0 s1 s2 s3 s4 s5 s6 o0 o1 o2 o3 o4) (by kernel_rfl) (by rw[FF];(try simp only[aS,dL,aZ,dw]);try rfl)
def _root_.Go.Rv.jF:=fun x:Int×Int×Int×Int×(List U8)×(List U8)×(List U9)×U6=>FF (300+x.2.2.2.2.1.length+x.2.2.2.2.2.1.length+x.2.2.2.2.2.2.1.length) x.1 x.2.1 x.2.2.1 x.2.2.2.1 x.2.2.2.2.1 x.2.2.2.2.2.1 x.2.2.2.2.2.2.1 x.2.2.2.2.2.2.2.1 x.2.2.2.2.2.2.2.2.1 x.2.2.2.2.2.2.2.2.2.1 x.2.2.2.2.2.2.2.2.2.2.1 x.2.2.2.2.2.2.2.2.2.2.2.1
abbrev _root_.Go.Rv.uq:aG:=⟨Js,IV,jF,[]⟩
theorem _root_.Go.Rv.CY:aF Dr Tryz.prog 11 uq:=dJ mix (.c PU (.c aaZ (.c Qx (.c aaE (.c CP (.c Zn (.c QA (.c QO (.c zG .nil))))))))) (by kernel_rfl) fun x=>⟨aC,_,aY _ _ _ _ _ _ _ _ _ _ _ _ _⟩
end fF
def RU.T(s0:List (Int×Unit))(s1 s2 s3 most:Int):Option (Int×U5):=cond (decide (most≤1)) (some (0,s0,s1,s2,s3,())) (cond (decide (s1<(s0.length:Int))) (if 0≤s1∧s1<(s0.length:Int)then if(IntKind.u64.wrap (most))=0 then none else some ((af ((Int.tmod (IntKind.u64.wrap ((IntKind.u64.wrap ((rd (0,()) s0 s1).1))+(Int.fdiv (IntKind.u64.wrap (((BitVec.ofInt 64 (IntKind.u64.wrap (((BitVec.ofInt 64 (IntKind.u64.wrap (((BitVec.ofInt 64 s2) ^^^ (BitVec.ofInt 64 (IntKind.u64.wrap (s2*2 ^ (min ((13:Int)).toNat 64))))).toNat))) ^^^ (BitVec.ofInt 64 (Int.fdiv (IntKind.u64.wrap (((BitVec.ofInt 64 s2) ^^^ (BitVec.ofInt 64 (IntKind.u64.wrap (s2*2 ^ (min ((13:Int)).toNat 64))))).toNat)) (2 ^ 7)))).toNat))) ^^^ (BitVec.ofInt 64 (IntKind.u64.wrap ((IntKind.u64.wrap (((BitVec.ofInt 64 (IntKind.u64.wrap (((BitVec.ofInt 64 s2) ^^^ (BitVec.ofInt 64 (IntKind.u64.wrap (s2*2 ^ (min ((13:Int)).toNat 64))))).toNat))) ^^^ (BitVec.ofInt 64 (Int.fdiv (IntKind.u64.wrap (((BitVec.ofInt 64 s2) ^^^ (BitVec.ofInt 64 (IntKind.u64.wrap (s2*2 ^ (min ((13:Int)).toNat 64))))).toNat)) (2 ^ 7)))).toNat))*2 ^ (min ((17:Int)).toNat 64))))).toNat)) (2 ^ 20)))) (IntKind.u64.wrap (most))))),s0,(af (s1+1)),(IntKind.u64.wrap (((BitVec.ofInt 64 (IntKind.u64.wrap (((BitVec.ofInt 64 (IntKind.u64.wrap (((BitVec.ofInt 64 s2) ^^^ (BitVec.ofInt 64 (IntKind.u64.wrap (s2*2 ^ (min ((13:Int)).toNat 64))))).toNat))) ^^^ (BitVec.ofInt 64 (Int.fdiv (IntKind.u64.wrap (((BitVec.ofInt 64 s2) ^^^ (BitVec.ofInt 64 (IntKind.u64.wrap (s2*2 ^ (min ((13:Int)).toNat 64))))).toNat)) (2 ^ 7)))).toNat))) ^^^ (BitVec.ofInt 64 (IntKind.u64.wrap ((IntKind.u64.wrap (((BitVec.ofInt 64 (IntKind.u64.wrap (((BitVec.ofInt 64 s2) ^^^ (BitVec.ofInt 64 (IntKind.u64.wrap (s2*2 ^ (min ((13:Int)).toNat 64))))).toNat))) ^^^ (BitVec.ofInt 64 (Int.fdiv (IntKind.u64.wrap (((BitVec.ofInt 64 s2) ^^^ (BitVec.ofInt 64 (IntKind.u64.wrap (s2*2 ^ (min ((13:Int)).toNat 64))))).toNat)) (2 ^ 7)))).toNat))*2 ^ (min ((17:Int)).toNat 64))))).toNat)),s3,())else none) (if(IntKind.u64.wrap (most))=0 then none else some ((af ((Int.tmod (IntKind.u64.wrap (0+(Int.fdiv (IntKind.u64.wrap (((BitVec.ofInt 64 (IntKind.u64.wrap (((BitVec.ofInt 64 (IntKind.u64.wrap (((BitVec.ofInt 64 s2) ^^^ (BitVec.ofInt 64 (IntKind.u64.wrap (s2*2 ^ (min ((13:Int)).toNat 64))))).toNat))) ^^^ (BitVec.ofInt 64 (Int.fdiv (IntKind.u64.wrap (((BitVec.ofInt 64 s2) ^^^ (BitVec.ofInt 64 (IntKind.u64.wrap (s2*2 ^ (min ((13:Int)).toNat 64))))).toNat)) (2 ^ 7)))).toNat))) ^^^ (BitVec.ofInt 64 (IntKind.u64.wrap ((IntKind.u64.wrap (((BitVec.ofInt 64 (IntKind.u64.wrap (((BitVec.ofInt 64 s2) ^^^ (BitVec.ofInt 64 (IntKind.u64.wrap (s2*2 ^ (min ((13:Int)).toNat 64))))).toNat))) ^^^ (BitVec.ofInt 64 (Int.fdiv (IntKind.u64.wrap (((BitVec.ofInt 64 s2) ^^^ (BitVec.ofInt 64 (IntKind.u64.wrap (s2*2 ^ (min ((13:Int)).toNat 64))))).toNat)) (2 ^ 7)))).toNat))*2 ^ (min ((17:Int)).toNat 64))))).toNat)) (2 ^ 20)))) (IntKind.u64.wrap (most))))),s0,s1,(IntKind.u64.wrap (((BitVec.ofInt 64 (IntKind.u64.wrap (((BitVec.ofInt 64 (IntKind.u64.wrap (((BitVec.ofInt 64 s2) ^^^ (BitVec.ofInt 64 (IntKind.u64.wrap (s2*2 ^ (min ((13:Int)).toNat 64))))).toNat))) ^^^ (BitVec.ofInt 64 (Int.fdiv (IntKind.u64.wrap (((BitVec.ofInt 64 s2) ^^^ (BitVec.ofInt 64 (IntKind.u64.wrap (s2*2 ^ (min ((13:Int)).toNat 64))))).toNat)) (2 ^ 7)))).toNat))) ^^^ (BitVec.ofInt 64 (IntKind.u64.wrap ((IntKind.u64.wrap (((BitVec.ofInt 64 (IntKind.u64.wrap (((BitVec.ofInt 64 s2) ^^^ (BitVec.ofInt 64 (IntKind.u64.wrap (s2*2 ^ (min ((13:Int)).toNat 64))))).toNat))) ^^^ (BitVec.ofInt 64 (Int.fdiv (IntKind.u64.wrap (((BitVec.ofInt 64 s2) ^^^ (BitVec.ofInt 64 (IntKind.u64.wrap (s2*2 ^ (min ((13:Int)).toNat 64))))).toNat)) (2 ^ 7)))).toNat))*2 ^ (min ((17:Int)).toNat 64))))).toNat)),s3,())))
def aT:=fun x:(List (Int×Unit))×U8=>RU.T x.1 x.2.1 x.2.2.1 x.2.2.2.1 x.2.2.2.2.1
abbrev Q7:aG:=⟨[.m qW,.v false [CT.int .i64]],[(false,[CT.int .i64])],aT,[]⟩
theorem wK:aF Dr Tryz.prog 50 Q7:=bg mix .nil (by kernel_rfl) fun x=>by kernel_rfl
def QM.T(s0:List (Int×Unit))(s1 s2 s3 of:Int):Option (Bool×U5):=(aT (s0,s1,s2,s3,of,())).bind fun y1=>some ((y1.1==0),y1.2.1,y1.2.2.1,y1.2.2.2.1,y1.2.2.2.2.1,())
def eY:=fun x:(List (Int×Unit))×U8=>QM.T x.1 x.2.1 x.2.2.1 x.2.2.2.1 x.2.2.2.2.1
abbrev Qr:aG:=⟨[.m qW,.v false [CT.int .i64]],[(false,[CT.bool])],eY,[]⟩
theorem P8:aF Dr Tryz.prog 48 Qr:=bg mix (.c wK .nil) (by kernel_rfl) fun x=>by kernel_rfl
def PK.T(s0:List (Int×Unit))(s1 s2 s3:Int):Option (Int×U5):=(aT (s0,s1,s2,s3,12,())).bind fun y1=>cond (y1.1==0) (some (0,y1.2.1,y1.2.2.1,y1.2.2.2.1,y1.2.2.2.2.1,())) (cond (y1.1==1) ((aT (y1.2.1,y1.2.2.1,y1.2.2.2.1,y1.2.2.2.2.1,1125899906842624,())).bind fun y2=>some (y2.1,y2.2.1,y2.2.2.1,y2.2.2.2.1,y2.2.2.2.2.1,())) (cond (y1.1==2) (some (1125899906842624,y1.2.1,y1.2.2.1,y1.2.2.2.1,y1.2.2.2.2.1,())) ((aT (y1.2.1,y1.2.2.1,y1.2.2.2.1,y1.2.2.2.2.1,60,())).bind fun y3=>some (y3.1,y3.2.1,y3.2.2.1,y3.2.2.2.1,y3.2.2.2.2.1,()))))
def wB:=fun x:U5=>PK.T x.1 x.2.1 x.2.2.1 x.2.2.2.1
abbrev YQ:aG:=⟨[.m qW],[(false,[CT.int .i64])],wB,[]⟩
theorem YO:aF Dr Tryz.prog 60 YQ:=bg mix (.c wK .nil) (by kernel_rfl) fun x=>by kernel_rfl
def PI.T(s0:List (Int×Unit))(s1 s2 s3:Int):Option (Int×U5):=(aT (s0,s1,s2,s3,14,())).bind fun y1=>cond (y1.1==0) ((aT (y1.2.1,y1.2.2.1,y1.2.2.2.1,y1.2.2.2.2.1,1073741824,())).bind fun y2=>some ((af (1+y2.1)),y2.2.1,y2.2.2.1,y2.2.2.2.1,y2.2.2.2.2.1,())) (cond (y1.1==1) (some (1073741824,y1.2.1,y1.2.2.1,y1.2.2.2.1,y1.2.2.2.2.1,())) ((aT (y1.2.1,y1.2.2.1,y1.2.2.2.1,y1.2.2.2.2.1,6,())).bind fun y3=>some ((af (1+y3.1)),y3.2.1,y3.2.2.1,y3.2.2.2.1,y3.2.2.2.2.1,())))
def wz:=fun x:U5=>PI.T x.1 x.2.1 x.2.2.1 x.2.2.2.1
abbrev YM:aG:=⟨[.m qW],[(false,[CT.int .i64])],wz,[]⟩
theorem YL:aF Dr Tryz.prog 61 YM:=bg mix (.c wK .nil) (by kernel_rfl) fun x=>by kernel_rfl
def Qv.T(s0:List (Int×Unit))(s1 s2 s3:Int):Option (Int×U5):=(aT (s0,s1,s2,s3,14,())).bind fun y1=>if 0≤y1.1∧y1.1<([(0,()),(1,()),((-1),()),(2,()),(1000,()),(1001,()),(2147483648,()),(2147483647,()),((-2147483648),()),(4611686018427387904,()),(9223372036854775807,()),((-9223372036854775808),()),(1000000,()),(1000001,())].length:Int)then some (([(0,()),(1,()),((-1),()),(2,()),(1000,()),(1001,()),(2147483648,()),(2147483647,()),((-2147483648),()),(4611686018427387904,()),(9223372036854775807,()),((-9223372036854775808),()),(1000000,()),(1000001,())].getD ((y1.1).toNat) (0,())).1,y1.2.1,y1.2.2.1,y1.2.2.2.1,y1.2.2.2.2.1,())else none
def bQ:=fun x:U5=>Qv.T x.1 x.2.1 x.2.2.1 x.2.2.2.1
abbrev Zz:aG:=⟨[.m qW],[(false,[CT.int .i64])],bQ,[]⟩
theorem Zf:aF Dr Tryz.prog 62 Zz:=bg mix (.c wK .nil) (by kernel_rfl) fun x=>by kernel_rfl
def Qi.T(s0:List (Int×Unit))(s1 s2 s3 x0 x1 x2 x3:Int)(x4 x5:List U8)(x6:List U9):Option (Int×Int×Int×Int×Int×U5):=(aT (s0,s1,s2,s3,8,())).bind fun y1=>(aT (y1.2.1,y1.2.2.1,y1.2.2.2.1,y1.2.2.2.2.1,80,())).bind fun y2=>(aT (y2.2.1,y2.2.2.1,y2.2.2.2.1,y2.2.2.2.2.1,5,())).bind fun y3=>cond (decide ((x4.length:Int)>0)) ((eY (y3.2.1,y3.2.2.1,y3.2.2.2.1,y3.2.2.2.2.1,2,())).bind fun y4=>cond y4.1 ((aT (y4.2.1,y4.2.2.1,y4.2.2.2.1,y4.2.2.2.2.1,(x4.length:Int),())).bind fun y5=>if 0≤y5.1∧y5.1<(x4.length:Int)then(aT (y5.2.1,y5.2.2.1,y5.2.2.2.1,y5.2.2.2.2.1,16,())).bind fun y6=>cond (y6.1==0) (some (4,0,0,0,0,y6.2.1,y6.2.2.1,y6.2.2.2.1,y6.2.2.2.2.1,())) (cond (y6.1==1) (some (4,0,0,0,0,y6.2.1,y6.2.2.1,y6.2.2.2.1,y6.2.2.2.2.1,())) (cond (y6.1==2) (some (4,0,0,0,0,y6.2.1,y6.2.2.1,y6.2.2.2.1,y6.2.2.2.2.1,())) (cond (y6.1==3) (some (4,0,0,0,0,y6.2.1,y6.2.2.1,y6.2.2.2.1,y6.2.2.2.2.1,())) (cond (y6.1==4) ((aT (y6.2.1,y6.2.2.1,y6.2.2.2.1,y6.2.2.2.2.1,8,())).bind fun y7=>(eY (y7.2.1,y7.2.2.1,y7.2.2.2.1,y7.2.2.2.2.1,60,())).bind fun y8=>cond y8.1 ((aT (y8.2.1,y8.2.2.1,y8.2.2.2.1,y8.2.2.2.2.1,5,())).bind fun y9=>cond (y9.1==0) ((aT (y9.2.1,y9.2.2.1,y9.2.2.2.1,y9.2.2.2.2.1,9,())).bind fun y10=>some (y10.1,(af (1+y7.1)),0,0,0,y10.2.1,y10.2.2.1,y10.2.2.2.1,y10.2.2.2.2.1,())) (cond (y9.1==1) ((bQ (y9.2.1,y9.2.2.1,y9.2.2.2.1,y9.2.2.2.2.1,())).bind fun y11=>some (2,y11.1,0,0,0,y11.2.1,y11.2.2.1,y11.2.2.2.1,y11.2.2.2.2.1,())) (cond (y9.1==2) ((bQ (y9.2.1,y9.2.2.1,y9.2.2.2.1,y9.2.2.2.2.1,())).bind fun y12=>some (2,(af (1+y7.1)),0,y12.1,0,y12.2.1,y12.2.2.1,y12.2.2.2.1,y12.2.2.2.2.1,())) (cond (y9.1==3) ((bQ (y9.2.1,y9.2.2.1,y9.2.2.2.1,y9.2.2.2.2.1,())).bind fun y13=>some (2,(af (1+y7.1)),0,0,y13.1,y13.2.1,y13.2.2.1,y13.2.2.2.1,y13.2.2.2.2.1,())) ((aT (y9.2.1,y9.2.2.1,y9.2.2.2.1,y9.2.2.2.2.1,9,())).bind fun y14=>some (2,(af (1+y7.1)),y14.1,0,0,y14.2.1,y14.2.2.1,y14.2.2.2.1,y14.2.2.2.2.1,())))))) (some (2,(af (1+y7.1)),0,0,0,y8.2.1,y8.2.2.1,y8.2.2.2.1,y8.2.2.2.2.1,()))) (cond (y6.1==5) ((aT (y6.2.1,y6.2.2.1,y6.2.2.2.1,y6.2.2.2.2.1,200,())).bind fun y15=>(eY (y15.2.1,y15.2.2.1,y15.2.2.2.1,y15.2.2.2.2.1,60,())).bind fun y16=>cond y16.1 ((aT (y16.2.1,y16.2.2.1,y16.2.2.2.1,y16.2.2.2.2.1,5,())).bind fun y17=>cond (y17.1==0) ((aT (y17.2.1,y17.2.2.1,y17.2.2.2.1,y17.2.2.2.2.1,9,())).bind fun y18=>some (y18.1,(rd (0,0,0,0,()) x4 y5.1).1,0,y15.1,0,y18.2.1,y18.2.2.1,y18.2.2.2.1,y18.2.2.2.2.1,())) (cond (y17.1==1) ((bQ (y17.2.1,y17.2.2.1,y17.2.2.2.1,y17.2.2.2.2.1,())).bind fun y19=>some (3,y19.1,0,y15.1,0,y19.2.1,y19.2.2.1,y19.2.2.2.1,y19.2.2.2.2.1,())) (cond (y17.1==2) ((bQ (y17.2.1,y17.2.2.1,y17.2.2.2.1,y17.2.2.2.2.1,())).bind fun y20=>some (3,(rd (0,0,0,0,()) x4 y5.1).1,0,y20.1,0,y20.2.1,y20.2.2.1,y20.2.2.2.1,y20.2.2.2.2.1,())) (cond (y17.1==3) ((bQ (y17.2.1,y17.2.2.1,y17.2.2.2.1,y17.2.2.2.2.1,())).bind fun y21=>some (3,(rd (0,0,0,0,()) x4 y5.1).1,0,y15.1,y21.1,y21.2.1,y21.2.2.1,y21.2.2.2.1,y21.2.2.2.2.1,())) ((aT (y17.2.1,y17.2.2.1,y17.2.2.2.1,y17.2.2.2.2.1,9,())).bind fun y22=>some (3,(rd (0,0,0,0,()) x4 y5.1).1,y22.1,y15.1,0,y22.2.1,y22.2.2.1,y22.2.2.2.1,y22.2.2.2.2.1,())))))) (some (3,(rd (0,0,0,0,()) x4 y5.1).1,0,y15.1,0,y16.2.1,y16.2.2.1,y16.2.2.2.1,y16.2.2.2.2.1,()))) (cond (y6.1==6) ((aT (y6.2.1,y6.2.2.1,y6.2.2.2.1,y6.2.2.2.2.1,4,())).bind fun y23=>(aT (y23.2.1,y23.2.2.1,y23.2.2.2.1,y23.2.2.2.2.1,150,())).bind fun y24=>(aT (y24.2.1,y24.2.2.1,y24.2.2.2.1,y24.2.2.2.2.1,4,())).bind fun y25=>(eY (y25.2.1,y25.2.2.1,y25.2.2.2.1,y25.2.2.2.2.1,60,())).bind fun y26=>cond y26.1 ((aT (y26.2.1,y26.2.2.1,y26.2.2.2.1,y26.2.2.2.2.1,5,())).bind fun y27=>cond (y27.1==0) ((aT (y27.2.1,y27.2.2.1,y27.2.2.2.1,y27.2.2.2.2.1,9,())).bind fun y28=>some (y28.1,(af ((af ((rd (0,0,0,0,()) x4 y5.1).1+1))+y23.1)),(rd (0,0,0,0,()) x4 y5.1).1,y24.1,(af (1+y25.1)),y28.2.1,y28.2.2.1,y28.2.2.2.1,y28.2.2.2.2.1,())) (cond (y27.1==1) ((bQ (y27.2.1,y27.2.2.1,y27.2.2.2.1,y27.2.2.2.2.1,())).bind fun y29=>some (6,y29.1,(rd (0,0,0,0,()) x4 y5.1).1,y24.1,(af (1+y25.1)),y29.2.1,y29.2.2.1,y29.2.2.2.1,y29.2.2.2.2.1,())) (cond (y27.1==2) ((bQ (y27.2.1,y27.2.2.1,y27.2.2.2.1,y27.2.2.2.2.1,())).bind fun y30=>some (6,(af ((af ((rd (0,0,0,0,()) x4 y5.1).1+1))+y23.1)),(rd (0,0,0,0,()) x4 y5.1).1,y30.1,(af (1+y25.1)),y30.2.1,y30.2.2.1,y30.2.2.2.1,y30.2.2.2.2.1,())) (cond (y27.1==3) ((bQ (y27.2.1,y27.2.2.1,y27.2.2.2.1,y27.2.2.2.2.1,())).bind fun y31=>some (6,(af ((af ((rd (0,0,0,0,()) x4 y5.1).1+1))+y23.1)),(rd (0,0,0,0,()) x4 y5.1).1,y24.1,y31.1,y31.2.1,y31.2.2.1,y31.2.2.2.1,y31.2.2.2.2.1,())) ((aT (y27.2.1,y27.2.2.1,y27.2.2.2.1,y27.2.2.2.2.1,9,())).bind fun y32=>some (6,(af ((af ((rd (0,0,0,0,()) x4 y5.1).1+1))+y23.1)),y32.1,y24.1,(af (1+y25.1)),y32.2.1,y32.2.2.1,y32.2.2.2.1,y32.2.2.2.2.1,())))))) (some (6,(af ((af ((rd (0,0,0,0,()) x4 y5.1).1+1))+y23.1)),(rd (0,0,0,0,()) x4 y5.1).1,y24.1,(af (1+y25.1)),y26.2.1,y26.2.2.1,y26.2.2.2.1,y26.2.2.2.2.1,()))) (cond (y6.1==7) ((qZ (1,(rd (0,0,0,0,()) x4 y5.1).1,())).bind fun y33=>(eY (y6.2.1,y6.2.2.1,y6.2.2.2.1,y6.2.2.2.2.1,60,())).bind fun y34=>cond y34.1 ((aT (y34.2.1,y34.2.2.1,y34.2.2.2.1,y34.2.2.2.2.1,5,())).bind fun y35=>cond (y35.1==0) ((aT (y35.2.1,y35.2.2.1,y35.2.2.2.1,y35.2.2.2.2.1,9,())).bind fun y36=>some (y36.1,y33.1,0,0,0,y36.2.1,y36.2.2.1,y36.2.2.2.1,y36.2.2.2.2.1,())) (cond (y35.1==1) ((bQ (y35.2.1,y35.2.2.1,y35.2.2.2.1,y35.2.2.2.2.1,())).bind fun y37=>some (7,y37.1,0,0,0,y37.2.1,y37.2.2.1,y37.2.2.2.1,y37.2.2.2.2.1,())) (cond (y35.1==2) ((bQ (y35.2.1,y35.2.2.1,y35.2.2.2.1,y35.2.2.2.2.1,())).bind fun y38=>some (7,y33.1,0,y38.1,0,y38.2.1,y38.2.2.1,y38.2.2.2.1,y38.2.2.2.2.1,())) (cond (y35.1==3) ((bQ (y35.2.1,y35.2.2.1,y35.2.2.2.1,y35.2.2.2.2.1,())).bind fun y39=>some (7,y33.1,0,0,y39.1,y39.2.1,y39.2.2.1,y39.2.2.2.1,y39.2.2.2.2.1,())) ((aT (y35.2.1,y35.2.2.1,y35.2.2.2.1,y35.2.2.2.2.1,9,())).bind fun y40=>some (7,y33.1,y40.1,0,0,y40.2.1,y40.2.2.1,y40.2.2.2.1,y40.2.2.2.2.1,())))))) (some (7,y33.1,0,0,0,y34.2.1,y34.2.2.1,y34.2.2.2.1,y34.2.2.2.2.1,()))) (cond (y6.1==8) ((eY (y6.2.1,y6.2.2.1,y6.2.2.2.1,y6.2.2.2.2.1,3,())).bind fun y41=>cond y41.1 (some (5,0,0,0,0,y41.2.1,y41.2.2.1,y41.2.2.2.1,y41.2.2.2.2.1,())) ((eY (y41.2.1,y41.2.2.1,y41.2.2.2.1,y41.2.2.2.2.1,60,())).bind fun y42=>cond y42.1 ((aT (y42.2.1,y42.2.2.1,y42.2.2.2.1,y42.2.2.2.2.1,5,())).bind fun y43=>cond (y43.1==0) ((aT (y43.2.1,y43.2.2.1,y43.2.2.2.1,y43.2.2.2.2.1,9,())).bind fun y44=>some (y44.1,(af (1+y1.1)),0,y2.1,(af (1+y3.1)),y44.2.1,y44.2.2.1,y44.2.2.2.1,y44.2.2.2.2.1,())) (cond (y43.1==1) ((bQ (y43.2.1,y43.2.2.1,y43.2.2.2.1,y43.2.2.2.2.1,())).bind fun y45=>some (1,y45.1,0,y2.1,(af (1+y3.1)),y45.2.1,y45.2.2.1,y45.2.2.2.1,y45.2.2.2.2.1,())) (cond (y43.1==2) ((bQ (y43.2.1,y43.2.2.1,y43.2.2.2.1,y43.2.2.2.2.1,())).bind fun y46=>some (1,(af (1+y1.1)),0,y46.1,(af (1+y3.1)),y46.2.1,y46.2.2.1,y46.2.2.2.1,y46.2.2.2.2.1,())) (cond (y43.1==3) ((bQ (y43.2.1,y43.2.2.1,y43.2.2.2.1,y43.2.2.2.2.1,())).bind fun y47=>some (1,(af (1+y1.1)),0,y2.1,y47.1,y47.2.1,y47.2.2.1,y47.2.2.2.1,y47.2.2.2.2.1,())) ((aT (y43.2.1,y43.2.2.1,y43.2.2.2.1,y43.2.2.2.2.1,9,())).bind fun y48=>some (1,(af (1+y1.1)),y48.1,y2.1,(af (1+y3.1)),y48.2.1,y48.2.2.1,y48.2.2.2.1,y48.2.2.2.2.1,())))))) (some (1,(af (1+y1.1)),0,y2.1,(af (1+y3.1)),y42.2.1,y42.2.2.1,y42.2.2.2.1,y42.2.2.2.2.1,())))) ((eY (y6.2.1,y6.2.2.1,y6.2.2.2.1,y6.2.2.2.2.1,8,())).bind fun y49=>cond y49.1 ((wB (y49.2.1,y49.2.2.1,y49.2.2.2.1,y49.2.2.2.2.1,())).bind fun y50=>(wz (y50.2.1,y50.2.2.1,y50.2.2.2.1,y50.2.2.2.2.1,())).bind fun y51=>(eY (y51.2.1,y51.2.2.1,y51.2.2.2.1,y51.2.2.2.2.1,60,())).bind fun y52=>cond y52.1 ((aT (y52.2.1,y52.2.2.1,y52.2.2.2.1,y52.2.2.2.2.1,5,())).bind fun y53=>cond (y53.1==0) ((aT (y53.2.1,y53.2.2.1,y53.2.2.2.1,y53.2.2.2.2.1,9,())).bind fun y54=>some (y54.1,(af (1+y1.1)),(rd (0,0,0,0,()) x4 y5.1).1,y50.1,y51.1,y54.2.1,y54.2.2.1,y54.2.2.2.1,y54.2.2.2.2.1,())) (cond (y53.1==1) ((bQ (y53.2.1,y53.2.2.1,y53.2.2.2.1,y53.2.2.2.2.1,())).bind fun y55=>some (1,y55.1,(rd (0,0,0,0,()) x4 y5.1).1,y50.1,y51.1,y55.2.1,y55.2.2.1,y55.2.2.2.1,y55.2.2.2.2.1,())) (cond (y53.1==2) ((bQ (y53.2.1,y53.2.2.1,y53.2.2.2.1,y53.2.2.2.2.1,())).bind fun y56=>some (1,(af (1+y1.1)),(rd (0,0,0,0,()) x4 y5.1).1,y56.1,y51.1,y56.2.1,y56.2.2.1,y56.2.2.2.1,y56.2.2.2.2.1,())) (cond (y53.1==3) ((bQ (y53.2.1,y53.2.2.1,y53.2.2.2.1,y53.2.2.2.2.1,())).bind fun y57=>some (1,(af (1+y1.1)),(rd (0,0,0,0,()) x4 y5.1).1,y50.1,y57.1,y57.2.1,y57.2.2.1,y57.2.2.2.1,y57.2.2.2.2.1,())) ((aT (y53.2.1,y53.2.2.1,y53.2.2.2.1,y53.2.2.2.2.1,9,())).bind fun y58=>some (1,(af (1+y1.1)),y58.1,y50.1,y51.1,y58.2.1,y58.2.2.1,y58.2.2.2.1,y58.2.2.2.2.1,())))))) (some (1,(af (1+y1.1)),(rd (0,0,0,0,()) x4 y5.1).1,y50.1,y51.1,y52.2.1,y52.2.2.1,y52.2.2.2.1,y52.2.2.2.2.1,()))) ((eY (y49.2.1,y49.2.2.1,y49.2.2.2.1,y49.2.2.2.2.1,60,())).bind fun y59=>cond y59.1 ((aT (y59.2.1,y59.2.2.1,y59.2.2.2.1,y59.2.2.2.2.1,5,())).bind fun y60=>cond (y60.1==0) ((aT (y60.2.1,y60.2.2.1,y60.2.2.2.1,y60.2.2.2.2.1,9,())).bind fun y61=>some (y61.1,(af (1+y1.1)),(rd (0,0,0,0,()) x4 y5.1).1,y2.1,(af (1+y3.1)),y61.2.1,y61.2.2.1,y61.2.2.2.1,y61.2.2.2.2.1,())) (cond (y60.1==1) ((bQ (y60.2.1,y60.2.2.1,y60.2.2.2.1,y60.2.2.2.2.1,())).bind fun y62=>some (1,y62.1,(rd (0,0,0,0,()) x4 y5.1).1,y2.1,(af (1+y3.1)),y62.2.1,y62.2.2.1,y62.2.2.2.1,y62.2.2.2.2.1,())) (cond (y60.1==2) ((bQ (y60.2.1,y60.2.2.1,y60.2.2.2.1,y60.2.2.2.2.1,())).bind fun y63=>some (1,(af (1+y1.1)),(rd (0,0,0,0,()) x4 y5.1).1,y63.1,(af (1+y3.1)),y63.2.1,y63.2.2.1,y63.2.2.2.1,y63.2.2.2.2.1,())) (cond (y60.1==3) ((bQ (y60.2.1,y60.2.2.1,y60.2.2.2.1,y60.2.2.2.2.1,())).bind fun y64=>some (1,(af (1+y1.1)),(rd (0,0,0,0,()) x4 y5.1).1,y2.1,y64.1,y64.2.1,y64.2.2.1,y64.2.2.2.1,y64.2.2.2.2.1,())) ((aT (y60.2.1,y60.2.2.1,y60.2.2.2.1,y60.2.2.2.2.1,9,())).bind fun y65=>some (1,(af (1+y1.1)),y65.1,y2.1,(af (1+y3.1)),y65.2.1,y65.2.2.1,y65.2.2.2.1,y65.2.2.2.2.1,())))))) (some (1,(af (1+y1.1)),(rd (0,0,0,0,()) x4 y5.1).1,y2.1,(af (1+y3.1)),y59.2.1,y59.2.2.1,y59.2.2.2.1,y59.2.2.2.2.1,()))))))))))))else none) ((aT (y4.2.1,y4.2.2.1,y4.2.2.2.1,y4.2.2.2.2.1,16,())).bind fun y66=>cond (y66.1==0) (some (4,0,0,0,0,y66.2.1,y66.2.2.1,y66.2.2.2.1,y66.2.2.2.2.1,())) (cond (y66.1==1) (some (4,0,0,0,0,y66.2.1,y66.2.2.1,y66.2.2.2.1,y66.2.2.2.2.1,())) (cond (y66.1==2) (some (4,0,0,0,0,y66.2.1,y66.2.2.1,y66.2.2.2.1,y66.2.2.2.2.1,())) (cond (y66.1==3) (some (4,0,0,0,0,y66.2.1,y66.2.2.1,y66.2.2.2.1,y66.2.2.2.2.1,())) (cond (y66.1==4) ((aT (y66.2.1,y66.2.2.1,y66.2.2.2.1,y66.2.2.2.2.1,8,())).bind fun y67=>(eY (y67.2.1,y67.2.2.1,y67.2.2.2.1,y67.2.2.2.2.1,60,())).bind fun y68=>cond y68.1 ((aT (y68.2.1,y68.2.2.1,y68.2.2.2.1,y68.2.2.2.2.1,5,())).bind fun y69=>cond (y69.1==0) ((aT (y69.2.1,y69.2.2.1,y69.2.2.2.1,y69.2.2.2.2.1,9,())).bind fun y70=>some (y70.1,(af (1+y67.1)),0,0,0,y70.2.1,y70.2.2.1,y70.2.2.2.1,y70.2.2.2.2.1,())) (cond (y69.1==1) ((bQ (y69.2.1,y69.2.2.1,y69.2.2.2.1,y69.2.2.2.2.1,())).bind fun y71=>some (2,y71.1,0,0,0,y71.2.1,y71.2.2.1,y71.2.2.2.1,y71.2.2.2.2.1,())) (cond (y69.1==2) ((bQ (y69.2.1,y69.2.2.1,y69.2.2.2.1,y69.2.2.2.2.1,())).bind fun y72=>some (2,(af (1+y67.1)),0,y72.1,0,y72.2.1,y72.2.2.1,y72.2.2.2.1,y72.2.2.2.2.1,())) (cond (y69.1==3) ((bQ (y69.2.1,y69.2.2.1,y69.2.2.2.1,y69.2.2.2.2.1,())).bind fun y73=>some (2,(af (1+y67.1)),0,0,y73.1,y73.2.1,y73.2.2.1,y73.2.2.2.1,y73.2.2.2.2.1,())) ((aT (y69.2.1,y69.2.2.1,y69.2.2.2.1,y69.2.2.2.2.1,9,())).bind fun y74=>some (2,(af (1+y67.1)),y74.1,0,0,y74.2.1,y74.2.2.1,y74.2.2.2.1,y74.2.2.2.2.1,())))))) (some (2,(af (1+y67.1)),0,0,0,y68.2.1,y68.2.2.1,y68.2.2.2.1,y68.2.2.2.2.1,()))) (cond (y66.1==5) ((aT (y66.2.1,y66.2.2.1,y66.2.2.2.1,y66.2.2.2.2.1,200,())).bind fun y75=>(eY (y75.2.1,y75.2.2.1,y75.2.2.2.1,y75.2.2.2.2.1,60,())).bind fun y76=>cond y76.1 ((aT (y76.2.1,y76.2.2.1,y76.2.2.2.1,y76.2.2.2.2.1,5,())).bind fun y77=>cond (y77.1==0) ((aT (y77.2.1,y77.2.2.1,y77.2.2.2.1,y77.2.2.2.2.1,9,())).bind fun y78=>some (y78.1,0,0,y75.1,0,y78.2.1,y78.2.2.1,y78.2.2.2.1,y78.2.2.2.2.1,())) (cond (y77.1==1) ((bQ (y77.2.1,y77.2.2.1,y77.2.2.2.1,y77.2.2.2.2.1,())).bind fun y79=>some (3,y79.1,0,y75.1,0,y79.2.1,y79.2.2.1,y79.2.2.2.1,y79.2.2.2.2.1,())) (cond (y77.1==2) ((bQ (y77.2.1,y77.2.2.1,y77.2.2.2.1,y77.2.2.2.2.1,())).bind fun y80=>some (3,0,0,y80.1,0,y80.2.1,y80.2.2.1,y80.2.2.2.1,y80.2.2.2.2.1,())) (cond (y77.1==3) ((bQ (y77.2.1,y77.2.2.1,y77.2.2.2.1,y77.2.2.2.2.1,())).bind fun y81=>some (3,0,0,y75.1,y81.1,y81.2.1,y81.2.2.1,y81.2.2.2.1,y81.2.2.2.2.1,())) ((aT (y77.2.1,y77.2.2.1,y77.2.2.2.1,y77.2.2.2.2.1,9,())).bind fun y82=>some (3,0,y82.1,y75.1,0,y82.2.1,y82.2.2.1,y82.2.2.2.1,y82.2.2.2.2.1,())))))) (some (3,0,0,y75.1,0,y76.2.1,y76.2.2.1,y76.2.2.2.1,y76.2.2.2.2.1,()))) (cond (y66.1==6) ((aT (y66.2.1,y66.2.2.1,y66.2.2.2.1,y66.2.2.2.2.1,4,())).bind fun y83=>(aT (y83.2.1,y83.2.2.1,y83.2.2.2.1,y83.2.2.2.2.1,150,())).bind fun y84=>(aT (y84.2.1,y84.2.2.1,y84.2.2.2.1,y84.2.2.2.2.1,4,())).bind fun y85=>(eY (y85.2.1,y85.2.2.1,y85.2.2.2.1,y85.2.2.2.2.1,60,())).bind fun y86=>cond y86.1 ((aT (y86.2.1,y86.2.2.1,y86.2.2.2.1,y86.2.2.2.2.1,5,())).bind fun y87=>cond (y87.1==0) ((aT (y87.2.1,y87.2.2.1,y87.2.2.2.1,y87.2.2.2.2.1,9,())).bind fun y88=>some (y88.1,(af ((af (0+1))+y83.1)),0,y84.1,(af (1+y85.1)),y88.2.1,y88.2.2.1,y88.2.2.2.1,y88.2.2.2.2.1,())) (cond (y87.1==1) ((bQ (y87.2.1,y87.2.2.1,y87.2.2.2.1,y87.2.2.2.2.1,())).bind fun y89=>some (6,y89.1,0,y84.1,(af (1+y85.1)),y89.2.1,y89.2.2.1,y89.2.2.2.1,y89.2.2.2.2.1,())) (cond (y87.1==2) ((bQ (y87.2.1,y87.2.2.1,y87.2.2.2.1,y87.2.2.2.2.1,())).bind fun y90=>some (6,(af ((af (0+1))+y83.1)),0,y90.1,(af (1+y85.1)),y90.2.1,y90.2.2.1,y90.2.2.2.1,y90.2.2.2.2.1,())) (cond (y87.1==3) ((bQ (y87.2.1,y87.2.2.1,y87.2.2.2.1,y87.2.2.2.2.1,())).bind fun y91=>some (6,(af ((af (0+1))+y83.1)),0,y84.1,y91.1,y91.2.1,y91.2.2.1,y91.2.2.2.1,y91.2.2.2.2.1,())) ((aT (y87.2.1,y87.2.2.1,y87.2.2.2.1,y87.2.2.2.2.1,9,())).bind fun y92=>some (6,(af ((af (0+1))+y83.1)),y92.1,y84.1,(af (1+y85.1)),y92.2.1,y92.2.2.1,y92.2.2.2.1,y92.2.2.2.2.1,())))))) (some (6,(af ((af (0+1))+y83.1)),0,y84.1,(af (1+y85.1)),y86.2.1,y86.2.2.1,y86.2.2.2.1,y86.2.2.2.2.1,()))) (cond (y66.1==7) ((qZ (1,0,())).bind fun y93=>(eY (y66.2.1,y66.2.2.1,y66.2.2.2.1,y66.2.2.2.2.1,60,())).bind fun y94=>cond y94.1 ((aT (y94.2.1,y94.2.2.1,y94.2.2.2.1,y94.2.2.2.2.1,5,())).bind fun y95=>cond (y95.1==0) ((aT (y95.2.1,y95.2.2.1,y95.2.2.2.1,y95.2.2.2.2.1,9,())).bind fun y96=>some (y96.1,y93.1,0,0,0,y96.2.1,y96.2.2.1,y96.2.2.2.1,y96.2.2.2.2.1,())) (cond (y95.1==1) ((bQ (y95.2.1,y95.2.2.1,y95.2.2.2.1,y95.2.2.2.2.1,())).bind fun y97=>some (7,y97.1,0,0,0,y97.2.1,y97.2.2.1,y97.2.2.2.1,y97.2.2.2.2.1,())) (cond (y95.1==2) ((bQ (y95.2.1,y95.2.2.1,y95.2.2.2.1,y95.2.2.2.2.1,())).bind fun y98=>some (7,y93.1,0,y98.1,0,y98.2.1,y98.2.2.1,y98.2.2.2.1,y98.2.2.2.2.1,())) (cond (y95.1==3) ((bQ (y95.2.1,y95.2.2.1,y95.2.2.2.1,y95.2.2.2.2.1,())).bind fun y99=>some (7,y93.1,0,0,y99.1,y99.2.1,y99.2.2.1,y99.2.2.2.1,y99.2.2.2.2.1,())) ((aT (y95.2.1,y95.2.2.1,y95.2.2.2.1,y95.2.2.2.2.1,9,())).bind fun y100=>some (7,y93.1,y100.1,0,0,y100.2.1,y100.2.2.1,y100.2.2.2.1,y100.2.2.2.2.1,())))))) (some (7,y93.1,0,0,0,y94.2.1,y94.2.2.1,y94.2.2.2.1,y94.2.2.2.2.1,()))) (cond (y66.1==8) ((eY (y66.2.1,y66.2.2.1,y66.2.2.2.1,y66.2.2.2.2.1,3,())).bind fun y101=>cond y101.1 (some (5,0,0,0,0,y101.2.1,y101.2.2.1,y101.2.2.2.1,y101.2.2.2.2.1,())) ((eY (y101.2.1,y101.2.2.1,y101.2.2.2.1,y101.2.2.2.2.1,60,())).bind fun y102=>cond y102.1 ((aT (y102.2.1,y102.2.2.1,y102.2.2.2.1,y102.2.2.2.2.1,5,())).bind fun y103=>cond (y103.1==0) ((aT (y103.2.1,y103.2.2.1,y103.2.2.2.1,y103.2.2.2.2.1,9,())).bind fun y104=>some (y104.1,(af (1+y1.1)),0,y2.1,(af (1+y3.1)),y104.2.1,y104.2.2.1,y104.2.2.2.1,y104.2.2.2.2.1,())) (cond (y103.1==1) ((bQ (y103.2.1,y103.2.2.1,y103.2.2.2.1,y103.2.2.2.2.1,())).bind fun y105=>some (1,y105.1,0,y2.1,(af (1+y3.1)),y105.2.1,y105.2.2.1,y105.2.2.2.1,y105.2.2.2.2.1,())) (cond (y103.1==2) ((bQ (y103.2.1,y103.2.2.1,y103.2.2.2.1,y103.2.2.2.2.1,())).bind fun y106=>some (1,(af (1+y1.1)),0,y106.1,(af (1+y3.1)),y106.2.1,y106.2.2.1,y106.2.2.2.1,y106.2.2.2.2.1,())) (cond (y103.1==3) ((bQ (y103.2.1,y103.2.2.1,y103.2.2.2.1,y103.2.2.2.2.1,())).bind fun y107=>some (1,(af (1+y1.1)),0,y2.1,y107.1,y107.2.1,y107.2.2.1,y107.2.2.2.1,y107.2.2.2.2.1,())) ((aT (y103.2.1,y103.2.2.1,y103.2.2.2.1,y103.2.2.2.2.1,9,())).bind fun y108=>some (1,(af (1+y1.1)),y108.1,y2.1,(af (1+y3.1)),y108.2.1,y108.2.2.1,y108.2.2.2.1,y108.2.2.2.2.1,())))))) (some (1,(af (1+y1.1)),0,y2.1,(af (1+y3.1)),y102.2.1,y102.2.2.1,y102.2.2.2.1,y102.2.2.2.2.1,())))) ((eY (y66.2.1,y66.2.2.1,y66.2.2.2.1,y66.2.2.2.2.1,8,())).bind fun y109=>cond y109.1 ((wB (y109.2.1,y109.2.2.1,y109.2.2.2.1,y109.2.2.2.2.1,())).bind fun y110=>(wz (y110.2.1,y110.2.2.1,y110.2.2.2.1,y110.2.2.2.2.1,())).bind fun y111=>(eY (y111.2.1,y111.2.2.1,y111.2.2.2.1,y111.2.2.2.2.1,60,())).bind fun y112=>cond y112.1 ((aT (y112.2.1,y112.2.2.1,y112.2.2.2.1,y112.2.2.2.2.1,5,())).bind fun y113=>cond (y113.1==0) ((aT (y113.2.1,y113.2.2.1,y113.2.2.2.1,y113.2.2.2.2.1,9,())).bind fun y114=>some (y114.1,(af (1+y1.1)),0,y110.1,y111.1,y114.2.1,y114.2.2.1,y114.2.2.2.1,y114.2.2.2.2.1,())) (cond (y113.1==1) ((bQ (y113.2.1,y113.2.2.1,y113.2.2.2.1,y113.2.2.2.2.1,())).bind fun y115=>some (1,y115.1,0,y110.1,y111.1,y115.2.1,y115.2.2.1,y115.2.2.2.1,y115.2.2.2.2.1,())) (cond (y113.1==2) ((bQ (y113.2.1,y113.2.2.1,y113.2.2.2.1,y113.2.2.2.2.1,())).bind fun y116=>some (1,(af (1+y1.1)),0,y116.1,y111.1,y116.2.1,y116.2.2.1,y116.2.2.2.1,y116.2.2.2.2.1,())) (cond (y113.1==3) ((bQ (y113.2.1,y113.2.2.1,y113.2.2.2.1,y113.2.2.2.2.1,())).bind fun y117=>some (1,(af (1+y1.1)),0,y110.1,y117.1,y117.2.1,y117.2.2.1,y117.2.2.2.1,y117.2.2.2.2.1,())) ((aT (y113.2.1,y113.2.2.1,y113.2.2.2.1,y113.2.2.2.2.1,9,())).bind fun y118=>some (1,(af (1+y1.1)),y118.1,y110.1,y111.1,y118.2.1,y118.2.2.1,y118.2.2.2.1,y118.2.2.2.2.1,())))))) (some (1,(af (1+y1.1)),0,y110.1,y111.1,y112.2.1,y112.2.2.1,y112.2.2.2.1,y112.2.2.2.2.1,()))) ((eY (y109.2.1,y109.2.2.1,y109.2.2.2.1,y109.2.2.2.2.1,60,())).bind fun y119=>cond y119.1 ((aT (y119.2.1,y119.2.2.1,y119.2.2.2.1,y119.2.2.2.2.1,5,())).bind fun y120=>cond (y120.1==0) ((aT (y120.2.1,y120.2.2.1,y120.2.2.2.1,y120.2.2.2.2.1,9,())).bind fun y121=>some (y121.1,(af (1+y1.1)),0,y2.1,(af (1+y3.1)),y121.2.1,y121.2.2.1,y121.2.2.2.1,y121.2.2.2.2.1,())) (cond (y120.1==1) ((bQ (y120.2.1,y120.2.2.1,y120.2.2.2.1,y120.2.2.2.2.1,())).bind fun y122=>some (1,y122.1,0,y2.1,(af (1+y3.1)),y122.2.1,y122.2.2.1,y122.2.2.2.1,y122.2.2.2.2.1,())) (cond (y120.1==2) ((bQ (y120.2.1,y120.2.2.1,y120.2.2.2.1,y120.2.2.2.2.1,())).bind fun y123=>some (1,(af (1+y1.1)),0,y123.1,(af (1+y3.1)),y123.2.1,y123.2.2.1,y123.2.2.2.1,y123.2.2.2.2.1,())) (cond (y120.1==3) ((bQ (y120.2.1,y120.2.2.1,y120.2.2.2.1,y120.2.2.2.2.1,())).bind fun y124=>some (1,(af (1+y1.1)),0,y2.1,y124.1,y124.2.1,y124.2.2.1,y124.2.2.2.1,y124.2.2.2.2.1,())) ((aT (y120.2.1,y120.2.2.1,y120.2.2.2.1,y120.2.2.2.2.1,9,())).bind fun y125=>some (1,(af (1+y1.1)),y125.1,y2.1,(af (1+y3.1)),y125.2.1,y125.2.2.1,y125.2.2.2.1,y125.2.2.2.2.1,())))))) (some (1,(af (1+y1.1)),0,y2.1,(af (1+y3.1)),y119.2.1,y119.2.2.1,y119.2.2.2.1,y119.2.2.2.2.1,())))))))))))))) ((aT (y3.2.1,y3.2.2.1,y3.2.2.2.1,y3.2.2.2.2.1,16,())).bind fun y126=>cond (y126.1==0) (some (4,0,0,0,0,y126.2.1,y126.2.2.1,y126.2.2.2.1,y126.2.2.2.2.1,())) (cond (y126.1==1) (some (4,0,0,0,0,y126.2.1,y126.2.2.1,y126.2.2.2.1,y126.2.2.2.2.1,())) (cond (y126.1==2) (some (4,0,0,0,0,y126.2.1,y126.2.2.1,y126.2.2.2.1,y126.2.2.2.2.1,())) (cond (y126.1==3) (some (4,0,0,0,0,y126.2.1,y126.2.2.1,y126.2.2.2.1,y126.2.2.2.2.1,())) (cond (y126.1==4) ((aT (y126.2.1,y126.2.2.1,y126.2.2.2.1,y126.2.2.2.2.1,8,())).bind fun y127=>(eY (y127.2.1,y127.2.2.1,y127.2.2.2.1,y127.2.2.2.2.1,60,())).bind fun y128=>cond y128.1 ((aT (y128.2.1,y128.2.2.1,y128.2.2.2.1,y128.2.2.2.2.1,5,())).bind fun y129=>cond (y129.1==0) ((aT (y129.2.1,y129.2.2.1,y129.2.2.2.1,y129.2.2.2.2.1,9,())).bind fun y130=>some (y130.1,(af (1+y127.1)),0,0,0,y130.2.1,y130.2.2.1,y130.2.2.2.1,y130.2.2.2.2.1,())) (cond (y129.1==1) ((bQ (y129.2.1,y129.2.2.1,y129.2.2.2.1,y129.2.2.2.2.1,())).bind fun y131=>some (2,y131.1,0,0,0,y131.2.1,y131.2.2.1,y131.2.2.2.1,y131.2.2.2.2.1,())) (cond (y129.1==2) ((bQ (y129.2.1,y129.2.2.1,y129.2.2.2.1,y129.2.2.2.2.1,())).bind fun y132=>some (2,(af (1+y127.1)),0,y132.1,0,y132.2.1,y132.2.2.1,y132.2.2.2.1,y132.2.2.2.2.1,())) (cond (y129.1==3) ((bQ (y129.2.1,y129.2.2.1,y129.2.2.2.1,y129.2.2.2.2.1,())).bind fun y133=>some (2,(af (1+y127.1)),0,0,y133.1,y133.2.1,y133.2.2.1,y133.2.2.2.1,y133.2.2.2.2.1,())) ((aT (y129.2.1,y129.2.2.1,y129.2.2.2.1,y129.2.2.2.2.1,9,())).bind fun y134=>some (2,(af (1+y127.1)),y134.1,0,0,y134.2.1,y134.2.2.1,y134.2.2.2.1,y134.2.2.2.2.1,())))))) (some (2,(af (1+y127.1)),0,0,0,y128.2.1,y128.2.2.1,y128.2.2.2.1,y128.2.2.2.2.1,()))) (cond (y126.1==5) ((aT (y126.2.1,y126.2.2.1,y126.2.2.2.1,y126.2.2.2.2.1,200,())).bind fun y135=>(eY (y135.2.1,y135.2.2.1,y135.2.2.2.1,y135.2.2.2.2.1,60,())).bind fun y136=>cond y136.1 ((aT (y136.2.1,y136.2.2.1,y136.2.2.2.1,y136.2.2.2.2.1,5,())).bind fun y137=>cond (y137.1==0) ((aT (y137.2.1,y137.2.2.1,y137.2.2.2.1,y137.2.2.2.2.1,9,())).bind fun y138=>some (y138.1,0,0,y135.1,0,y138.2.1,y138.2.2.1,y138.2.2.2.1,y138.2.2.2.2.1,())) (cond (y137.1==1) ((bQ (y137.2.1,y137.2.2.1,y137.2.2.2.1,y137.2.2.2.2.1,())).bind fun y139=>some (3,y139.1,0,y135.1,0,y139.2.1,y139.2.2.1,y139.2.2.2.1,y139.2.2.2.2.1,())) (cond (y137.1==2) ((bQ (y137.2.1,y137.2.2.1,y137.2.2.2.1,y137.2.2.2.2.1,())).bind fun y140=>some (3,0,0,y140.1,0,y140.2.1,y140.2.2.1,y140.2.2.2.1,y140.2.2.2.2.1,())) (cond (y137.1==3) ((bQ (y137.2.1,y137.2.2.1,y137.2.2.2.1,y137.2.2.2.2.1,())).bind fun y141=>some (3,0,0,y135.1,y141.1,y141.2.1,y141.2.2.1,y141.2.2.2.1,y141.2.2.2.2.1,())) ((aT (y137.2.1,y137.2.2.1,y137.2.2.2.1,y137.2.2.2.2.1,9,())).bind fun y142=>some (3,0,y142.1,y135.1,0,y142.2.1,y142.2.2.1,y142.2.2.2.1,y142.2.2.2.2.1,())))))) (some (3,0,0,y135.1,0,y136.2.1,y136.2.2.1,y136.2.2.2.1,y136.2.2.2.2.1,()))) (cond (y126.1==6) ((aT (y126.2.1,y126.2.2.1,y126.2.2.2.1,y126.2.2.2.2.1,4,())).bind fun y143=>(aT (y143.2.1,y143.2.2.1,y143.2.2.2.1,y143.2.2.2.2.1,150,())).bind fun y144=>(aT (y144.2.1,y144.2.2.1,y144.2.2.2.1,y144.2.2.2.2.1,4,())).bind fun y145=>(eY (y145.2.1,y145.2.2.1,y145.2.2.2.1,y145.2.2.2.2.1,60,())).bind fun y146=>cond y146.1 ((aT (y146.2.1,y146.2.2.1,y146.2.2.2.1,y146.2.2.2.2.1,5,())).bind fun y147=>cond (y147.1==0) ((aT (y147.2.1,y147.2.2.1,y147.2.2.2.1,y147.2.2.2.2.1,9,())).bind fun y148=>some (y148.1,(af ((af (0+1))+y143.1)),0,y144.1,(af (1+y145.1)),y148.2.1,y148.2.2.1,y148.2.2.2.1,y148.2.2.2.2.1,())) (cond (y147.1==1) ((bQ (y147.2.1,y147.2.2.1,y147.2.2.2.1,y147.2.2.2.2.1,())).bind fun y149=>some (6,y149.1,0,y144.1,(af (1+y145.1)),y149.2.1,y149.2.2.1,y149.2.2.2.1,y149.2.2.2.2.1,())) (cond (y147.1==2) ((bQ (y147.2.1,y147.2.2.1,y147.2.2.2.1,y147.2.2.2.2.1,())).bind fun y150=>some (6,(af ((af (0+1))+y143.1)),0,y150.1,(af (1+y145.1)),y150.2.1,y150.2.2.1,y150.2.2.2.1,y150.2.2.2.2.1,())) (cond (y147.1==3) ((bQ (y147.2.1,y147.2.2.1,y147.2.2.2.1,y147.2.2.2.2.1,())).bind fun y151=>some (6,(af ((af (0+1))+y143.1)),0,y144.1,y151.1,y151.2.1,y151.2.2.1,y151.2.2.2.1,y151.2.2.2.2.1,())) ((aT (y147.2.1,y147.2.2.1,y147.2.2.2.1,y147.2.2.2.2.1,9,())).bind fun y152=>some (6,(af ((af (0+1))+y143.1)),y152.1,y144.1,(af (1+y145.1)),y152.2.1,y152.2.2.1,y152.2.2.2.1,y152.2.2.2.2.1,())))))) (some (6,(af ((af (0+1))+y143.1)),0,y144.1,(af (1+y145.1)),y146.2.1,y146.2.2.1,y146.2.2.2.1,y146.2.2.2.2.1,()))) (cond (y126.1==7) ((qZ (1,0,())).bind fun y153=>(eY (y126.2.1,y126.2.2.1,y126.2.2.2.1,y126.2.2.2.2.1,60,())).bind fun y154=>cond y154.1 ((aT (y154.2.1,y154.2.2.1,y154.2.2.2.1,y154.2.2.2.2.1,5,())).bind fun y155=>cond (y155.1==0) ((aT (y155.2.1,y155.2.2.1,y155.2.2.2.1,y155.2.2.2.2.1,9,())).bind fun y156=>some (y156.1,y153.1,0,0,0,y156.2.1,y156.2.2.1,y156.2.2.2.1,y156.2.2.2.2.1,())) (cond (y155.1==1) ((bQ (y155.2.1,y155.2.2.1,y155.2.2.2.1,y155.2.2.2.2.1,())).bind fun y157=>some (7,y157.1,0,0,0,y157.2.1,y157.2.2.1,y157.2.2.2.1,y157.2.2.2.2.1,())) (cond (y155.1==2) ((bQ (y155.2.1,y155.2.2.1,y155.2.2.2.1,y155.2.2.2.2.1,())).bind fun y158=>some (7,y153.1,0,y158.1,0,y158.2.1,y158.2.2.1,y158.2.2.2.1,y158.2.2.2.2.1,())) (cond (y155.1==3) ((bQ (y155.2.1,y155.2.2.1,y155.2.2.2.1,y155.2.2.2.2.1,())).bind fun y159=>some (7,y153.1,0,0,y159.1,y159.2.1,y159.2.2.1,y159.2.2.2.1,y159.2.2.2.2.1,())) ((aT (y155.2.1,y155.2.2.1,y155.2.2.2.1,y155.2.2.2.2.1,9,())).bind fun y160=>some (7,y153.1,y160.1,0,0,y160.2.1,y160.2.2.1,y160.2.2.2.1,y160.2.2.2.2.1,())))))) (some (7,y153.1,0,0,0,y154.2.1,y154.2.2.1,y154.2.2.2.1,y154.2.2.2.2.1,()))) (cond (y126.1==8) ((eY (y126.2.1,y126.2.2.1,y126.2.2.2.1,y126.2.2.2.2.1,3,())).bind fun y161=>cond y161.1 (some (5,0,0,0,0,y161.2.1,y161.2.2.1,y161.2.2.2.1,y161.2.2.2.2.1,())) ((eY (y161.2.1,y161.2.2.1,y161.2.2.2.1,y161.2.2.2.2.1,60,())).bind fun y162=>cond y162.1 ((aT (y162.2.1,y162.2.2.1,y162.2.2.2.1,y162.2.2.2.2.1,5,())).bind fun y163=>cond (y163.1==0) ((aT (y163.2.1,y163.2.2.1,y163.2.2.2.1,y163.2.2.2.2.1,9,())).bind fun y164=>some (y164.1,(af (1+y1.1)),0,y2.1,(af (1+y3.1)),y164.2.1,y164.2.2.1,y164.2.2.2.1,y164.2.2.2.2.1,())) (cond (y163.1==1) ((bQ (y163.2.1,y163.2.2.1,y163.2.2.2.1,y163.2.2.2.2.1,())).bind fun y165=>some (1,y165.1,0,y2.1,(af (1+y3.1)),y165.2.1,y165.2.2.1,y165.2.2.2.1,y165.2.2.2.2.1,())) (cond (y163.1==2) ((bQ (y163.2.1,y163.2.2.1,y163.2.2.2.1,y163.2.2.2.2.1,())).bind fun y166=>some (1,(af (1+y1.1)),0,y166.1,(af (1+y3.1)),y166.2.1,y166.2.2.1,y166.2.2.2.1,y166.2.2.2.2.1,())) (cond (y163.1==3) ((bQ (y163.2.1,y163.2.2.1,y163.2.2.2.1,y163.2.2.2.2.1,())).bind fun y167=>some (1,(af (1+y1.1)),0,y2.1,y167.1,y167.2.1,y167.2.2.1,y167.2.2.2.1,y167.2.2.2.2.1,())) ((aT (y163.2.1,y163.2.2.1,y163.2.2.2.1,y163.2.2.2.2.1,9,())).bind fun y168=>some (1,(af (1+y1.1)),y168.1,y2.1,(af (1+y3.1)),y168.2.1,y168.2.2.1,y168.2.2.2.1,y168.2.2.2.2.1,())))))) (some (1,(af (1+y1.1)),0,y2.1,(af (1+y3.1)),y162.2.1,y162.2.2.1,y162.2.2.2.1,y162.2.2.2.2.1,())))) ((eY (y126.2.1,y126.2.2.1,y126.2.2.2.1,y126.2.2.2.2.1,8,())).bind fun y169=>cond y169.1 ((wB (y169.2.1,y169.2.2.1,y169.2.2.2.1,y169.2.2.2.2.1,())).bind fun y170=>(wz (y170.2.1,y170.2.2.1,y170.2.2.2.1,y170.2.2.2.2.1,())).bind fun y171=>(eY (y171.2.1,y171.2.2.1,y171.2.2.2.1,y171.2.2.2.2.1,60,())).bind fun y172=>cond y172.1 ((aT (y172.2.1,y172.2.2.1,y172.2.2.2.1,y172.2.2.2.2.1,5,())).bind fun y173=>cond (y173.1==0) ((aT (y173.2.1,y173.2.2.1,y173.2.2.2.1,y173.2.2.2.2.1,9,())).bind fun y174=>some (y174.1,(af (1+y1.1)),0,y170.1,y171.1,y174.2.1,y174.2.2.1,y174.2.2.2.1,y174.2.2.2.2.1,())) (cond (y173.1==1) ((bQ (y173.2.1,y173.2.2.1,y173.2.2.2.1,y173.2.2.2.2.1,())).bind fun y175=>some (1,y175.1,0,y170.1,y171.1,y175.2.1,y175.2.2.1,y175.2.2.2.1,y175.2.2.2.2.1,())) (cond (y173.1==2) ((bQ (y173.2.1,y173.2.2.1,y173.2.2.2.1,y173.2.2.2.2.1,())).bind fun y176=>some (1,(af (1+y1.1)),0,y176.1,y171.1,y176.2.1,y176.2.2.1,y176.2.2.2.1,y176.2.2.2.2.1,())) (cond (y173.1==3) ((bQ (y173.2.1,y173.2.2.1,y173.2.2.2.1,y173.2.2.2.2.1,())).bind fun y177=>some (1,(af (1+y1.1)),0,y170.1,y177.1,y177.2.1,y177.2.2.1,y177.2.2.2.1,y177.2.2.2.2.1,())) ((aT (y173.2.1,y173.2.2.1,y173.2.2.2.1,y173.2.2.2.2.1,9,())).bind fun y178=>some (1,(af (1+y1.1)),y178.1,y170.1,y171.1,y178.2.1,y178.2.2.1,y178.2.2.2.1,y178.2.2.2.2.1,())))))) (some (1,(af (1+y1.1)),0,y170.1,y171.1,y172.2.1,y172.2.2.1,y172.2.2.2.1,y172.2.2.2.2.1,()))) ((eY (y169.2.1,y169.2.2.1,y169.2.2.2.1,y169.2.2.2.2.1,60,())).bind fun y179=>cond y179.1 ((aT (y179.2.1,y179.2.2.1,y179.2.2.2.1,y179.2.2.2.2.1,5,())).bind fun y180=>cond (y180.1==0) ((aT (y180.2.1,y180.2.2.1,y180.2.2.2.1,y180.2.2.2.2.1,9,())).bind fun y181=>some (y181.1,(af (1+y1.1)),0,y2.1,(af (1+y3.1)),y181.2.1,y181.2.2.1,y181.2.2.2.1,y181.2.2.2.2.1,())) (cond (y180.1==1) ((bQ (y180.2.1,y180.2.2.1,y180.2.2.2.1,y180.2.2.2.2.1,())).bind fun y182=>some (1,y182.1,0,y2.1,(af (1+y3.1)),y182.2.1,y182.2.2.1,y182.2.2.2.1,y182.2.2.2.2.1,())) (cond (y180.1==2) ((bQ (y180.2.1,y180.2.2.1,y180.2.2.2.1,y180.2.2.2.2.1,())).bind fun y183=>some (1,(af (1+y1.1)),0,y183.1,(af (1+y3.1)),y183.2.1,y183.2.2.1,y183.2.2.2.1,y183.2.2.2.2.1,())) (cond (y180.1==3) ((bQ (y180.2.1,y180.2.2.1,y180.2.2.2.1,y180.2.2.2.2.1,())).bind fun y184=>some (1,(af (1+y1.1)),0,y2.1,y184.1,y184.2.1,y184.2.2.1,y184.2.2.2.1,y184.2.2.2.2.1,())) ((aT (y180.2.1,y180.2.2.1,y180.2.2.2.1,y180.2.2.2.2.1,9,())).bind fun y185=>some (1,(af (1+y1.1)),y185.1,y2.1,(af (1+y3.1)),y185.2.1,y185.2.2.1,y185.2.2.2.1,y185.2.2.2.2.1,())))))) (some (1,(af (1+y1.1)),0,y2.1,(af (1+y3.1)),y179.2.1,y179.2.2.1,y179.2.2.2.1,y179.2.2.2.2.1,())))))))))))))
def wC:=fun x:(List (Int×Unit))×Int×Int×Int×U1=>Qi.T x.1 x.2.1 x.2.2.1 x.2.2.2.1 x.2.2.2.2.1 x.2.2.2.2.2.1 x.2.2.2.2.2.2.1 x.2.2.2.2.2.2.2.1 x.2.2.2.2.2.2.2.2.1 x.2.2.2.2.2.2.2.2.2.1 x.2.2.2.2.2.2.2.2.2.2.1
abbrev IJ:aG:=⟨[.m qW,.v true jh],[(true,gy)],wC,[]⟩
theorem PL:aF Dr Tryz.prog 28 IJ:=bg mix (.c P8 (.c wK (.c Rw (.c YO (.c YL (.c Zf .nil)))))) (by kernel_rfl) fun x=>by kernel_rfl
end Go.Rv
end
