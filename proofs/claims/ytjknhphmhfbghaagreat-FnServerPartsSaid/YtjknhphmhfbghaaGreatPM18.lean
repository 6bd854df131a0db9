/- What functions come to on pure values (printed by a program of ours). -/
import Derived.Test.YtjknhphmhfbghaaGreatPM17
set_option linter.unusedVariables false
set_option linter.unusedSimpArgs false
set_option linter.unusedSectionVars false
set_option maxRecDepth 100000
noncomputable section
namespace Go.Rv
open Go.Proofs
variable {Dr:Kn} {R:Type} (k0 k:Nat) (K:au R)
def SK.T(n:Int):Option (Bool×Unit):=cond (decide (n≥1)) (some ((decide (n≤1000)),())) (some (false,()))
def zM:=fun x:Int×Unit=>SK.T x.1
abbrev Rw:aG:=⟨[.v false [CT.int .i64]],[(false,[CT.bool])],zM,[]⟩
theorem QX:aF Dr Tryz.prog 29 Rw:=aZ mix .nil (by kernel_rfl) fun x=>by kernel_rfl
def TV.T(n:Int):Option (Bool×Unit):=cond (decide (n≥0)) (some ((decide (n≤1125899906842624)),())) (some (false,()))
def eG:=fun x:Int×Unit=>TV.T x.1
abbrev Tj:aG:=⟨[.v false [CT.int .i64]],[(false,[CT.bool])],eG,[]⟩
theorem uH:aF Dr Tryz.prog 63 Tj:=aZ mix .nil (by kernel_rfl) fun x=>by kernel_rfl
def UI.T(n:Int):Option (Bool×Unit):=cond (decide (n≥1)) (some ((decide (n≤1000000)),())) (some (false,()))
def lK:=fun x:Int×Unit=>UI.T x.1
abbrev Ui:aG:=⟨[.v false [CT.int .i64]],[(false,[CT.bool])],lK,[]⟩
theorem Ak:aF Dr Tryz.prog 64 Ui:=aZ mix .nil (by kernel_rfl) fun x=>by kernel_rfl
abbrev JZ:Is:=[.v true fZ,.v false [CT.int .i64]]
abbrev Jt:Os:=[(false,[CT.int .i64])]
namespace xq
def aC:Nat→List Nat×List Nat:=fun k=>if k=2 then([1,2,5],[4])else([],[])
def zrc{R:Type}(k0:Nat)(p:List Nat):Env→List Ob→au R→Option R:=bJ Tryz.prog (aU []) 22 0 aC k0 (cu p (dG Tryz.prog 65))
def R0{R:Type}(nx0:uo R)(ex0:Y2 R)(ex1:dQ R)(id2 i f:Int)(f3 f4:List U8):Option R:=cond (decide (i<(f3.length:Int))) (if 0≤i∧i<(f3.length:Int)then cond ((rd (0,0,0,0,()) f3 i).1==id2) (ex0 i) (nx0 id2 (af (i+1)) f f3 f4)else none) (ex1 ())
def A0(f0:Int)(f1 f2:List U8)(id:Int)(t4x:Int):Option (Int×Unit):=some (t4x,())
def A1(f0:Int)(f1 f2:List U8)(id:Int)(_u:Unit):Option (Int×Unit):=some ((-1),())
def T(lo0:uo (Int×Unit))(f0:Int)(f1 f2:List U8)(id:Int):Option (Int×Unit):=lo0 id 0 f0 f1 f2
def K0{R:Type}(k0:Nat)(K:au R):au R:=bD 0 (bG (fun env ob=>zrc k0 [1,1] env ob (K)) (K))
def L0:uo R:=fun id2 i f f3 f4=>iter 0 [1,2,5] [4] (zrc k0 [1,0,1,0,0]) k [(1,.int .i64 id2),(2,.ptr 0 0 0 0),(5,.int .i64 i)] [.box [.int .i64 f,.sl ay f3,.sl ay f4]] K
def H0:Y2 R:=fun t4x=>K .ret [(4,.int .i64 t4x)] []
def H1:dQ R:=fun _=>K (.exit 0) [(4,.undef)] []
theorem zs0:L0 k0 (k+1) K=R0 (L0 k0 k K) (H0 K) (H1 K):=by kernel_rfl
def G0{R:Type}(k0:Nat)(hx0:Y2 R)(hx1:dQ R):Nat→uo R
 |0=>fun _ _ _ _ _=>none
 |k+1=>R0 (G0 k0 hx0 hx1 k) hx0 hx1
theorem aP:∀ k,L0 k0 k K=G0 k0 (H0 K) (H1 K) k:=bK rfl fun k ih=>by rw[zs0,G0];(try simp only[ih]);try rfl
variable (f0:Int) (f1 f2:List U8) (id:Int)
def aB:au (Int×Unit):=dh Tryz.prog [.tmp 4] JZ Jt (f0,f1,f2,id,())
theorem aY:H0 (K0 k0 (aB f0 f1 f2 id))=A0 f0 f1 f2 id:=by kernel_rfl
theorem cZ:H1 (K0 k0 (aB f0 f1 f2 id))=A1 f0 f1 f2 id:=by kernel_rfl
def FF:Option (Int×Unit):=T (G0 k0 (A0 f0 f1 f2 id) (A1 f0 f1 f2 id) k0) f0 f1 f2 id
theorem aX:di Tryz.prog (aU []) aC k0 65 JZ Jt [] (f0,f1,f2,id,())=FF k0 f0 f1 f2 id:=Eq.trans (b:=T (L0 k0 k0 (K0 k0 (aB f0 f1 f2 id))) f0 f1 f2 id) (by kernel_rfl) (by rw[FF];(try simp only[aP,aY,cZ]);try rfl)
def _root_.Go.Rv.jR:=fun x:Int×(List U8)×(List U8)×Int×Unit=>FF (300+x.2.1.length+x.2.2.1.length) x.1 x.2.1 x.2.2.1 x.2.2.2.1
abbrev _root_.Go.Rv.wU:aG:=⟨JZ,Jt,jR,[]⟩
theorem _root_.Go.Rv.wS:aF Dr Tryz.prog 65 wU:=dH mix .nil (by kernel_rfl) fun x=>⟨aC,_,aX _ _ _ _ _⟩
end xq
def SL.T(n:Int):Option (Bool×Unit):=cond (decide (n≥1)) (some ((decide (n≤1073741824)),())) (some (false,()))
def gI:=fun x:Int×Unit=>SL.T x.1
abbrev Rx:aG:=⟨[.v false [CT.int .i64]],[(false,[CT.bool])],gI,[]⟩
theorem Dn:aF Dr Tryz.prog 66 Rx:=aZ mix .nil (by kernel_rfl) fun x=>by kernel_rfl
abbrev JB:Is:=[.v true fZ]
abbrev Jh:Os:=[(false,[CT.bool])]
namespace iR
def dA:Tb:=[(63,[],Tj),(64,[],Ui),(65,[],wU),(66,[],Rx)]
def aC:Nat→List Nat×List Nat:=fun k=>if k=4 then([1,3],[1,2])else if k=10 then([1,5],[2])else([],[])
def zrc{R:Type}(k0:Nat)(p:List Nat):Env→List Ob→au R→Option R:=bJ Tryz.prog (aU dA) 142 0 aC k0 (cu p (dG Tryz.prog 30))
def R0{R:Type}(nx0:um R)(ex0:zn R)(ex1:zl R)(i f:Int)(f3 f4:List U8):Option R:=cond (decide (i<(f3.length:Int))) (if 0≤i∧i<(f3.length:Int)then(lK ((rd (0,0,0,0,()) f3 i).1,())).bind fun y1=>cond (!y1.1) (ex0 false f f3 f4) (cond (decide (i>0)) (if 0≤(af (i - 1))∧(af (i - 1))<(f3.length:Int)then cond (decide ((rd (0,0,0,0,()) f3 i).1≤(rd (0,0,0,0,()) f3 (af (i - 1))).1)) (ex0 false f f3 f4) (cond ((rd (0,0,0,0,()) f3 i).2.1 != 0) ((jR (f,f3,f4,(rd (0,0,0,0,()) f3 i).2.1,())).bind fun y2=>cond (decide (y2.1<0)) (ex0 false f f3 f4) (cond (decide ((rd (0,0,0,0,()) f3 i).2.1≥(rd (0,0,0,0,()) f3 i).1)) (ex0 false f f3 f4) ((eG ((rd (0,0,0,0,()) f3 i).2.2.1,())).bind fun y3=>cond (!y3.1) (ex0 false f f3 f4) ((gI ((rd (0,0,0,0,()) f3 i).2.2.2.1,())).bind fun y4=>cond (!y4.1) (ex0 false f f3 f4) (nx0 (af (i+1)) f f3 f4))))) ((eG ((rd (0,0,0,0,()) f3 i).2.2.1,())).bind fun y5=>cond (!y5.1) (ex0 false f f3 f4) ((gI ((rd (0,0,0,0,()) f3 i).2.2.2.1,())).bind fun y6=>cond (!y6.1) (ex0 false f f3 f4) (nx0 (af (i+1)) f f3 f4))))else none) (cond ((rd (0,0,0,0,()) f3 i).2.1 != 0) ((jR (f,f3,f4,(rd (0,0,0,0,()) f3 i).2.1,())).bind fun y7=>cond (decide (y7.1<0)) (ex0 false f f3 f4) (cond (decide ((rd (0,0,0,0,()) f3 i).2.1≥(rd (0,0,0,0,()) f3 i).1)) (ex0 false f f3 f4) ((eG ((rd (0,0,0,0,()) f3 i).2.2.1,())).bind fun y8=>cond (!y8.1) (ex0 false f f3 f4) ((gI ((rd (0,0,0,0,()) f3 i).2.2.2.1,())).bind fun y9=>cond (!y9.1) (ex0 false f f3 f4) (nx0 (af (i+1)) f f3 f4))))) ((eG ((rd (0,0,0,0,()) f3 i).2.2.1,())).bind fun y10=>cond (!y10.1) (ex0 false f f3 f4) ((gI ((rd (0,0,0,0,()) f3 i).2.2.2.1,())).bind fun y11=>cond (!y11.1) (ex0 false f f3 f4) (nx0 (af (i+1)) f f3 f4)))))else none) (ex1 f f3 f4)
def R1{R:Type}(nx1:um R)(ex2:iQ R)(ex3:dQ R)(i f:Int)(f3 f4:List U8):Option R:=cond (decide (i<(f4.length:Int))) (if 0≤i∧i<(f4.length:Int)then(lK ((rd (0,0,0,0,()) f4 i).1,())).bind fun y1=>cond (!y1.1) (ex2 false) (cond (decide (i>0)) (if 0≤(af (i - 1))∧(af (i - 1))<(f4.length:Int)then cond (decide ((rd (0,0,0,0,()) f4 i).1≤(rd (0,0,0,0,()) f4 (af (i - 1))).1)) (ex2 false) (cond ((rd (0,0,0,0,()) f4 i).2.1 != 0) ((jR (f,f3,f4,(rd (0,0,0,0,()) f4 i).2.1,())).bind fun y2=>cond (decide (y2.1<0)) (ex2 false) ((eG ((rd (0,0,0,0,()) f4 i).2.2.1,())).bind fun y3=>cond (!y3.1) (ex2 false) ((gI ((rd (0,0,0,0,()) f4 i).2.2.2.1,())).bind fun y4=>cond (!y4.1) (ex2 false) (nx1 (af (i+1)) f f3 f4)))) ((eG ((rd (0,0,0,0,()) f4 i).2.2.1,())).bind fun y5=>cond (!y5.1) (ex2 false) ((gI ((rd (0,0,0,0,()) f4 i).2.2.2.1,())).bind fun y6=>cond (!y6.1) (ex2 false) (nx1 (af (i+1)) f f3 f4))))else none) (cond ((rd (0,0,0,0,()) f4 i).2.1 != 0) ((jR (f,f3,f4,(rd (0,0,0,0,()) f4 i).2.1,())).bind fun y7=>cond (decide (y7.1<0)) (ex2 false) ((eG ((rd (0,0,0,0,()) f4 i).2.2.1,())).bind fun y8=>cond (!y8.1) (ex2 false) ((gI ((rd (0,0,0,0,()) f4 i).2.2.2.1,())).bind fun y9=>cond (!y9.1) (ex2 false) (nx1 (af (i+1)) f f3 f4)))) ((eG ((rd (0,0,0,0,()) f4 i).2.2.1,())).bind fun y10=>cond (!y10.1) (ex2 false) ((gI ((rd (0,0,0,0,()) f4 i).2.2.2.1,())).bind fun y11=>cond (!y11.1) (ex2 false) (nx1 (af (i+1)) f f3 f4)))))else none) (ex3 ())
def A0(f0:Int)(f1 f2:List U8)(t2x:Bool)(f:Int)(f3 f4:List U8):Option (Bool×Unit):=some (t2x,())
def A1(lo1:um (Bool×Unit))(f0:Int)(f1 f2:List U8)(f:Int)(f3 f4:List U8):Option (Bool×Unit):=lo1 0 f f3 f4
def A2(f0:Int)(f1 f2:List U8)(t2x:Bool):Option (Bool×Unit):=some (t2x,())
def A3(f0:Int)(f1 f2:List U8)(_u:Unit):Option (Bool×Unit):=some (true,())
def T(lo0:um (Bool×Unit))(f0:Int)(f1 f2:List U8):Option (Bool×Unit):=(eG (f0,())).bind fun y1=>cond (!y1.1) (some (false,())) (cond (decide ((f1.length:Int)>30)) (some (false,())) (cond (decide ((f2.length:Int)>60)) (some (false,())) (lo0 0 f0 f1 f2)))
def K0{R:Type}(k0:Nat)(K:au R):au R:=bD 0 (bG (fun env ob=>zrc k0 [1,1,1] env ob (K)) (K))
def K1{R:Type}(k0:Nat)(K:au R):au R:=bD 2 (bG (fun env ob=>zrc k0 [1,1,1,1] env ob (K)) (K))
def L0:um R:=fun i f f3 f4=>iter 0 [1,3] [1,2] (zrc k0 [1,1,0,1,0,0]) k [(1,.ptr 0 0 0 0),(3,.int .i64 i)] [.box [.int .i64 f,.sl ay f3,.sl ay f4]] K
def L1:um R:=fun i f f3 f4=>iter 0 [1,5] [2] (zrc k0 [1,1,1,0,1,0,0]) k [(1,.ptr 0 0 0 0),(5,.int .i64 i)] [.box [.int .i64 f,.sl ay f3,.sl ay f4]] K
def H0:zn R:=fun t2x f f3 f4=>K .ret [(1,.ptr 0 0 0 0),(2,.bool t2x)] [.box [.int .i64 f,.sl ay f3,.sl ay f4]]
def H1:zl R:=fun f f3 f4=>K (.exit 0) [(1,.ptr 0 0 0 0),(2,.undef)] [.box [.int .i64 f,.sl ay f3,.sl ay f4]]
def H2:iQ R:=fun t2x=>K .ret [(2,.bool t2x)] []
def H3:dQ R:=fun _=>K (.exit 2) [(2,.undef)] []
theorem zs0:L0 k0 (k+1) K=R0 (L0 k0 k K) (H0 K) (H1 K):=by kernel_rfl
theorem zs1:L1 k0 (k+1) K=R1 (L1 k0 k K) (H2 K) (H3 K):=by kernel_rfl
def G0{R:Type}(k0:Nat)(hx0:zn R)(hx1:zl R):Nat→um R
 |0=>fun _ _ _ _=>none
 |k+1=>R0 (G0 k0 hx0 hx1 k) hx0 hx1
theorem aP:∀ k,L0 k0 k K=G0 k0 (H0 K) (H1 K) k:=bK rfl fun k ih=>by rw[zs0,G0];(try simp only[ih]);try rfl
def G1{R:Type}(k0:Nat)(hx2:iQ R)(hx3:dQ R):Nat→um R
 |0=>fun _ _ _ _=>none
 |k+1=>R1 (G1 k0 hx2 hx3 k) hx2 hx3
theorem dJ:∀ k,L1 k0 k K=G1 k0 (H2 K) (H3 K) k:=bK rfl fun k ih=>by rw[zs1,G1];(try simp only[ih,aP]);try rfl
variable (f0:Int) (f1 f2:List U8)
def aB:au (Bool×Unit):=dh Tryz.prog [.tmp 2] JB Jh (f0,f1,f2,())
theorem aY:H0 (K0 k0 (aB f0 f1 f2))=A0 f0 f1 f2:=by kernel_rfl
theorem cZ:H1 (K0 k0 (aB f0 f1 f2))=A1 (L1 k0 k0 (K1 k0 (aB f0 f1 f2))) f0 f1 f2:=by kernel_rfl
theorem jY:H2 (K1 k0 (aB f0 f1 f2))=A2 f0 f1 f2:=by kernel_rfl
theorem mV:H3 (K1 k0 (aB f0 f1 f2))=A3 f0 f1 f2:=by kernel_rfl
def FF:Option (Bool×Unit):=T (G0 k0 (A0 f0 f1 f2) (A1 (G1 k0 (A2 f0 f1 f2) (A3 f0 f1 f2) k0) f0 f1 f2) k0) f0 f1 f2
theorem aX:di Tryz.prog (aU dA) aC k0 30 JB Jh [] (f0,f1,f2,())=FF k0 f0 f1 f2:=Eq.trans (b:=T (L0 k0 k0 (K0 k0 (aB f0 f1 f2))) f0 f1 f2) (by kernel_rfl) (by rw[FF];(try simp only[aP,dJ,aY,cZ,jY,mV]);try rfl)
def _root_.Go.Rv.zQ:=fun x:U3=>FF (300+x.2.1.length+x.2.2.1.length) x.1 x.2.1 x.2.2.1
abbrev _root_.Go.Rv.Dw:aG:=⟨JB,Jh,zQ,[]⟩
theorem _root_.Go.Rv.JV:aF Dr Tryz.prog 30 Dw:=dH mix (.c uH (.c Ak (.c wS (.c Dn .nil)))) (by kernel_rfl) fun x=>⟨aC,_,aX _ _ _ _⟩
end iR
def TT.T(n:Int):Option (Bool×Unit):=cond (decide (n≥0)) (some ((decide (n≤1000000)),())) (some (false,()))
def DU:=fun x:Int×Unit=>TT.T x.1
abbrev abG:aG:=⟨[.v false [CT.int .i64]],[(false,[CT.bool])],DU,[]⟩
theorem aa8:aF Dr Tryz.prog 97 abG:=aZ mix .nil (by kernel_rfl) fun x=>by kernel_rfl
def TA.T(l0 l1 l2:Int):Option (Bool×Unit):=(lK (l0,())).bind fun y1=>cond y1.1 ((eG (l1,())).bind fun y2=>cond y2.1 ((DU (l2,())).bind fun y3=>some (y3.1,())) (some (false,()))) (some (false,()))
def Aa:=fun x:U9=>TA.T x.1 x.2.1 x.2.2.1
abbrev zZ:aG:=⟨[.v true ct0],[(false,[CT.bool])],Aa,[]⟩
theorem Rl:aF Dr Tryz.prog 67 zZ:=aZ mix (.c uH (.c Ak (.c aa8 .nil))) (by kernel_rfl) fun x=>by kernel_rfl
abbrev IZ:Is:=[.v false [CT.sl ct0]]
abbrev IA:Os:=[(false,[CT.bool])]
namespace kQ
def aC:Nat→List Nat×List Nat:=fun k=>if k=4 then([0,3],[2])else([],[])
def zrc{R:Type}(k0:Nat)(p:List Nat):Env→List Ob→au R→Option R:=bJ Tryz.prog (aU [(67,[],zZ)]) 37 0 aC k0 (cu p (dG Tryz.prog 31))
def R0{R:Type}(nx0:GY R)(ex0:iQ R)(ex1:dQ R)(list2:List U9)(i:Int):Option R:=cond (decide (i<(list2.length:Int))) (if 0≤i∧i<(list2.length:Int)then(Aa ((rd (0,0,0,()) list2 i).1,(rd (0,0,0,()) list2 i).2.1,(rd (0,0,0,()) list2 i).2.2.1,())).bind fun y1=>cond (!y1.1) (ex0 false) (cond (decide (i>0)) (if 0≤i∧i<(list2.length:Int)then if 0≤(af (i - 1))∧(af (i - 1))<(list2.length:Int)then cond (decide ((rd (0,0,0,()) list2 i).1≤(rd (0,0,0,()) list2 (af (i - 1))).1)) (ex0 false) (nx0 list2 (af (i+1)))else none else none) (nx0 list2 (af (i+1))))else none) (ex1 ())
def A0(list:List U9)(t2x:Bool):Option (Bool×Unit):=some (t2x,())
def A1(list:List U9)(_u:Unit):Option (Bool×Unit):=some (true,())
def T(lo0:GY (Bool×Unit))(list:List U9):Option (Bool×Unit):=cond (decide ((list.length:Int)>60)) (some (false,())) (lo0 list 0)
def K0{R:Type}(k0:Nat)(K:au R):au R:=bD 0 (bG (fun env ob=>zrc k0 [1,1,1] env ob (K)) (K))
def L0:GY R:=fun list2 i=>iter 0 [0,3] [2] (zrc k0 [1,1,0,1,0,0]) k [(0,.sl ct0 list2),(3,.int .i64 i)] [] K
def H0:iQ R:=fun t2x=>K .ret [(2,.bool t2x)] []
def H1:dQ R:=fun _=>K (.exit 0) [(2,.undef)] []
theorem zs0:L0 k0 (k+1) K=R0 (L0 k0 k K) (H0 K) (H1 K):=by kernel_rfl
def G0{R:Type}(k0:Nat)(hx0:iQ R)(hx1:dQ R):Nat→GY R
 |0=>fun _ _=>none
 |k+1=>R0 (G0 k0 hx0 hx1 k) hx0 hx1
theorem aP:∀ k,L0 k0 k K=G0 k0 (H0 K) (H1 K) k:=bK rfl fun k ih=>by rw[zs0,G0];(try simp only[ih]);try rfl
variable (list:List U9)
def aB:au (Bool×Unit):=dh Tryz.prog [.tmp 2] IZ IA (list,())
theorem aY:H0 (K0 k0 (aB list))=A0 list:=by kernel_rfl
theorem cZ:H1 (K0 k0 (aB list))=A1 list:=by kernel_rfl
def FF:Option (Bool×Unit):=T (G0 k0 (A0 list) (A1 list) k0) list
theorem aX:di Tryz.prog (aU [(67,[],zZ)]) aC k0 31 IZ IA [] (list,())=FF k0 list:=Eq.trans (b:=T (L0 k0 k0 (K0 k0 (aB list))) list) (by kernel_rfl) (by rw[FF];(try simp only[aP,aY,cZ]);try rfl)
def _root_.Go.Rv.wM:=fun x:(List U9)×Unit=>FF (300+x.1.length) x.1
abbrev _root_.Go.Rv.wK:aG:=⟨IZ,IA,wM,[]⟩
theorem _root_.Go.Rv.C9:aF Dr Tryz.prog 31 wK:=dH mix (.c Rl .nil) (by kernel_rfl) fun x=>⟨aC,_,aX _ _⟩
end kQ
abbrev IY:Is:=[.v true fP]
abbrev Iz:Os:=[(false,[CT.bool])]
namespace kP
def dA:Tb:=[(29,[],Rw),(30,[],Dw),(31,[],wK)]
def aC:Nat→List Nat×List Nat:=fun k=>if k=4 then([1,3],[2])else([],[])
def zrc{R:Type}(k0:Nat)(p:List Nat):Env→List Ob→au R→Option R:=bJ Tryz.prog (aU dA) 93 0 aC k0 (cu p (dG Tryz.prog 8))
def R0{R:Type}(nx0:GX R)(ex0:iQ R)(ex1:dQ R)(i s s7 s8 s9:Int)(s10 s11:List U8)(s12:List U9):Option R:=cond (decide (i<(s12.length:Int))) (if 0≤i∧i<(s12.length:Int)then if 0≤i∧i<(s11.length:Int)then cond ((rd (0,0,0,()) s12 i).1 != (rd (0,0,0,0,()) s11 i).1) (ex0 false) (if 0≤i∧i<(s12.length:Int)then cond (decide ((rd (0,0,0,()) s12 i).2.2.1≤s8)) (ex0 false) (if 0≤i∧i<(s12.length:Int)then cond (decide ((rd (0,0,0,()) s12 i).2.2.1>(af (s8+s)))) (ex0 false) (nx0 (af (i+1)) s s7 s8 s9 s10 s11 s12)else none)else none)else none else none) (ex1 ())
def A0(s0 s1 s2 s3:Int)(s4 s5:List U8)(s6:List U9)(t2x:Bool):Option (Bool×Unit):=some (t2x,())
def A1(s0 s1 s2 s3:Int)(s4 s5:List U8)(s6:List U9)(_u:Unit):Option (Bool×Unit):=some (true,())
def T(lo0:GX (Bool×Unit))(s0 s1 s2 s3:Int)(s4 s5:List U8)(s6:List U9):Option (Bool×Unit):=(zM (s0,())).bind fun y1=>cond (!y1.1) (some (false,())) (cond (decide (s1<0)) (some (false,())) (cond (decide (s1>s2)) (some (false,())) (cond (decide (s2>999000)) (some (false,())) ((zQ (s3,s4,s5,())).bind fun y2=>cond (!y2.1) (some (false,())) ((wM (s6,())).bind fun y3=>cond (!y3.1) (some (false,())) (cond ((s6.length:Int) != (s5.length:Int)) (some (false,())) (lo0 0 s0 s1 s2 s3 s4 s5 s6)))))))
def K0{R:Type}(k0:Nat)(K:au R):au R:=bD 0 (bG (fun env ob=>zrc k0 [1,1,1] env ob (K)) (K))
def L0:GX R:=fun i s s7 s8 s9 s10 s11 s12=>iter 0 [1,3] [2] (zrc k0 [1,1,0,1,0,0]) k [(1,.ptr 0 0 0 0),(3,.int .i64 i)] [.box [.int .i64 s,.int .i64 s7,.int .i64 s8,.int .i64 s9,.sl ay s10,.sl ay s11,.sl ct0 s12]] K
def H0:iQ R:=fun t2x=>K .ret [(2,.bool t2x)] []
def H1:dQ R:=fun _=>K (.exit 0) [(2,.undef)] []
theorem zs0:L0 k0 (k+1) K=R0 (L0 k0 k K) (H0 K) (H1 K):=by kernel_rfl
def G0{R:Type}(k0:Nat)(hx0:iQ R)(hx1:dQ R):Nat→GX R
 |0=>fun _ _ _ _ _ _ _ _=>none
 |k+1=>R0 (G0 k0 hx0 hx1 k) hx0 hx1
theorem aP:∀ k,L0 k0 k K=G0 k0 (H0 K) (H1 K) k:=bK rfl fun k ih=>by rw[zs0,G0];(try simp only[ih]);try rfl
variable (s0 s1 s2 s3:Int) (s4 s5:List U8) (s6:List U9)
def aB:au (Bool×Unit):=dh Tryz.prog [.tmp 2] IY Iz (s0,s1,s2,s3,s4,s5,s6,())
theorem aY:H0 (K0 k0 (aB s0 s1 s2 s3 s4 s5 s6))=A0 s0 s1 s2 s3 s4 s5 s6:=by kernel_rfl
theorem cZ:H1 (K0 k0 (aB s0 s1 s2 s3 s4 s5 s6))=A1 s0 s1 s2 s3 s4 s5 s6:=by kernel_rfl
def FF:Option (Bool×Unit):=T (G0 k0 (A0 s0 s1 s2 s3 s4 s5 s6) (A1 s0 s1 s2 s3 s4 s5 s6) k0) s0 s1 s2 s3 s4 s5 s6
theorem aX:di Tryz.prog (aU dA) aC k0 8 IY Iz [] (s0,s1,s2,s3,s4,s5,s6,())=FF k0 s0 s1 s2 s3 s4 s5 s6:=Eq.trans (b:=T (L0 k0 k0 (K0 k0 (aB s0 s1 s2 s3 s4 s5 s6))) s0 s1 s2 s3 s4 s5 s6) (by kernel_rfl) (by rw[FF];(try simp only[aP,aY,cZ]);try rfl)
def _root_.Go.Rv.wL:=fun x:U1=>FF (300+x.2.2.2.2.1.length+x.2.2.2.2.2.1.length+x.2.2.2.2.2.2.1.length) x.1 x.2.1 x.2.2.1 x.2.2.2.1 x.2.2.2.2.1 x.2.2.2.2.2.1 x.2.2.2.2.2.2.1
abbrev _root_.Go.Rv.JH:aG:=⟨IY,Iz,wL,[]⟩
theorem _root_.Go.Rv.CZ:aF Dr Tryz.prog 8 JH:=dH mix (.c QX (.c JV (.c C9 .nil))) (by kernel_rfl) fun x=>⟨aC,_,aX _ _ _ _ _ _ _ _⟩
end kP
def Xo.T(n low high:Int):Option (Bool×Unit):=cond (decide (low≤n)) (some ((decide (n≤high)),())) (some (false,()))
def nJ:=fun x:U9=>Xo.T x.1 x.2.1 x.2.2.1
abbrev VI:aG:=⟨[.v false [CT.int .i64],.v false [CT.int .i64],.v false [CT.int .i64]],[(false,[CT.bool])],nJ,[]⟩
theorem Az:aF Dr Tryz.prog 43 VI:=aZ mix .nil (by kernel_rfl) fun x=>by kernel_rfl
def EF.T(n:Int):Option (Bool×Unit):=(nJ (n,1,1000000,())).bind fun y1=>some (y1.1,())
def gJ:=fun x:Int×Unit=>EF.T x.1
abbrev UA:aG:=⟨[.v false [CT.int .i64]],[(false,[CT.bool])],gJ,[]⟩
theorem Ee:aF Dr Tryz.prog 68 UA:=aZ mix (.c Az .nil) (by kernel_rfl) fun x=>by kernel_rfl
def Ei.T(n:Int):Option (Bool×Unit):=(nJ (n,0,1125899906842624,())).bind fun y1=>some (y1.1,())
def jq:=fun x:Int×Unit=>Ei.T x.1
abbrev TN:aG:=⟨[.v false [CT.int .i64]],[(false,[CT.bool])],jq,[]⟩
theorem DN:aF Dr Tryz.prog 69 TN:=aZ mix (.c Az .nil) (by kernel_rfl) fun x=>by kernel_rfl
def D6.T(n:Int):Option (Bool×Unit):=(nJ (n,1,1073741824,())).bind fun y1=>some (y1.1,())
def kD:=fun x:Int×Unit=>D6.T x.1
abbrev SE:aG:=⟨[.v false [CT.int .i64]],[(false,[CT.bool])],kD,[]⟩
theorem Kw:aF Dr Tryz.prog 70 SE:=aZ mix (.c Az .nil) (by kernel_rfl) fun x=>by kernel_rfl
abbrev JE:Is:=[.v true fZ]
abbrev Jk:Os:=[(false,[CT.bool])]
namespace iT
def dA:Tb:=[(68,[],UA),(69,[],TN),(70,[],SE),(92,[],QF)]
def aC:Nat→List Nat×List Nat:=fun k=>if k=4 then([1,25,26,27],[1,2])else if k=11 then([1,78,79,80],[2])else([],[])
def zrc{R:Type}(k0:Nat)(p:List Nat):Env→List Ob→au R→Option R:=bJ Tryz.prog (aU dA) 125 0 aC k0 (cu p (dG Tryz.prog 44))
def R0{R:Type}(nx0:uj R)(ex0:zn R)(ex1:zl R)(t25x:List U8)(t26x t27x f:Int)(f3 f4:List U8):Option R:=cond (decide (t27x<t26x)) (if 0≤t27x∧t27x<(t25x.length:Int)then if 0≤t27x∧t27x≤(f3.length:Int)then(gJ ((rd (0,0,0,0,()) t25x t27x).1,())).bind fun y1=>cond (!y1.1) (ex0 false f f3 f4) (cond (decide (t27x>0)) (if 0≤(af (t27x - 1))∧(af (t27x - 1))<(f3.length:Int)then cond (decide ((rd (0,0,0,0,()) f3 (af (t27x - 1))).1≥(rd (0,0,0,0,()) t25x t27x).1)) (ex0 false f f3 f4) ((mZ (0,(f3.take (t27x.toNat)),[],(rd (0,0,0,0,()) t25x t27x).2.1,())).bind fun y2=>cond (!y2.1) (ex0 false f f3 f4) ((jq ((rd (0,0,0,0,()) t25x t27x).2.2.1,())).bind fun y3=>cond (!y3.1) (ex0 false f f3 f4) ((kD ((rd (0,0,0,0,()) t25x t27x).2.2.2.1,())).bind fun y4=>cond (!y4.1) (ex0 false f f3 f4) (nx0 t25x t26x (af (t27x+1)) f f3 f4))))else none) ((mZ (0,(f3.take (t27x.toNat)),[],(rd (0,0,0,0,()) t25x t27x).2.1,())).bind fun y5=>cond (!y5.1) (ex0 false f f3 f4) ((jq ((rd (0,0,0,0,()) t25x t27x).2.2.1,())).bind fun y6=>cond (!y6.1) (ex0 false f f3 f4) ((kD ((rd (0,0,0,0,()) t25x t27x).2.2.2.1,())).bind fun y7=>cond (!y7.1) (ex0 false f f3 f4) (nx0 t25x t26x (af (t27x+1)) f f3 f4)))))else none else none) (ex1 f f3 f4)
def R1{R:Type}(nx1:uj R)(ex2:iQ R)(ex3:dQ R)(t78x:List U8)(t79x t80x f:Int)(f3 f4:List U8):Option R:=cond (decide (t80x<t79x)) (if 0≤t80x∧t80x<(t78x.length:Int)then(gJ ((rd (0,0,0,0,()) t78x t80x).1,())).bind fun y1=>cond (!y1.1) (ex2 false) (cond (decide (t80x>0)) (if 0≤(af (t80x - 1))∧(af (t80x - 1))<(f4.length:Int)then cond (decide ((rd (0,0,0,0,()) f4 (af (t80x - 1))).1≥(rd (0,0,0,0,()) t78x t80x).1)) (ex2 false) ((mZ (f,f3,f4,(rd (0,0,0,0,()) t78x t80x).2.1,())).bind fun y2=>cond (!y2.1) (ex2 false) ((jq ((rd (0,0,0,0,()) t78x t80x).2.2.1,())).bind fun y3=>cond (!y3.1) (ex2 false) ((kD ((rd (0,0,0,0,()) t78x t80x).2.2.2.1,())).bind fun y4=>cond (!y4.1) (ex2 false) (nx1 t78x t79x (af (t80x+1)) f f3 f4))))else none) ((mZ (f,f3,f4,(rd (0,0,0,0,()) t78x t80x).2.1,())).bind fun y5=>cond (!y5.1) (ex2 false) ((jq ((rd (0,0,0,0,()) t78x t80x).2.2.1,())).bind fun y6=>cond (!y6.1) (ex2 false) ((kD ((rd (0,0,0,0,()) t78x t80x).2.2.2.1,())).bind fun y7=>cond (!y7.1) (ex2 false) (nx1 t78x t79x (af (t80x+1)) f f3 f4)))))else none) (ex3 ())
def A0(f0:Int)(f1 f2:List U8)(t2x:Bool)(f:Int)(f3 f4:List U8):Option (Bool×Unit):=some (t2x,())
def A1(lo1:uj (Bool×Unit))(f0:Int)(f1 f2:List U8)(f:Int)(f3 f4:List U8):Option (Bool×Unit):=lo1 f4 (f4.length:Int) 0 f f3 f4
def A2(f0:Int)(f1 f2:List U8)(t2x:Bool):Option (Bool×Unit):=some (t2x,())
def A3(f0:Int)(f1 f2:List U8)(_u:Unit):Option (Bool×Unit):=some (true,())
def T(lo0:uj (Bool×Unit))(f0:Int)(f1 f2:List U8):Option (Bool×Unit):=(jq (f0,())).bind fun y1=>cond (!y1.1) (some (false,())) (cond (decide ((f1.length:Int)>30)) (some (false,())) (cond (decide ((f2.length:Int)>60)) (some (false,())) (lo0 f1 (f1.length:Int) 0 f0 f1 f2)))
def K0{R:Type}(k0:Nat)(K:au R):au R:=bD 0 (bG (fun env ob=>zrc k0 [1,1,1] env ob (K)) (K))
def K1{R:Type}(k0:Nat)(K:au R):au R:=bD 2 (bG (fun env ob=>zrc k0 [1,1,1,1] env ob (K)) (K))
def L0:uj R:=fun t25x t26x t27x f f3 f4=>iter 0 [1,25,26,27] [1,2] (zrc k0 [1,1,0,1,0,0]) k [(1,.ptr 0 0 0 0),(25,.sl ay t25x),(26,.int .i64 t26x),(27,.int .i64 t27x)] [.box [.int .i64 f,.sl ay f3,.sl ay f4]] K
def L1:uj R:=fun t78x t79x t80x f f3 f4=>iter 0 [1,78,79,80] [2] (zrc k0 [1,1,1,0,1,0,0]) k [(1,.ptr 0 0 0 0),(78,.sl ay t78x),(79,.int .i64 t79x),(80,.int .i64 t80x)] [.box [.int .i64 f,.sl ay f3,.sl ay f4]] K
def H0:zn R:=fun t2x f f3 f4=>K .ret [(1,.ptr 0 0 0 0),(2,.bool t2x)] [.box [.int .i64 f,.sl ay f3,.sl ay f4]]
def H1:zl R:=fun f f3 f4=>K (.exit 0) [(1,.ptr 0 0 0 0),(2,.undef)] [.box [.int .i64 f,.sl ay f3,.sl ay f4]]
def H2:iQ R:=fun t2x=>K .ret [(2,.bool t2x)] []
def H3:dQ R:=fun _=>K (.exit 2) [(2,.undef)] []
theorem zs0:L0 k0 (k+1) K=R0 (L0 k0 k K) (H0 K) (H1 K):=by kernel_rfl
theorem zs1:L1 k0 (k+1) K=R1 (L1 k0 k K) (H2 K) (H3 K):=by kernel_rfl
def G0{R:Type}(k0:Nat)(hx0:zn R)(hx1:zl R):Nat→uj R
 |0=>fun _ _ _ _ _ _=>none
 |k+1=>R0 (G0 k0 hx0 hx1 k) hx0 hx1
theorem aP:∀ k,L0 k0 k K=G0 k0 (H0 K) (H1 K) k:=bK rfl fun k ih=>by rw[zs0,G0];(try simp only[ih]);try rfl
def G1{R:Type}(k0:Nat)(hx2:iQ R)(hx3:dQ R):Nat→uj R
 |0=>fun _ _ _ _ _ _=>none
 |k+1=>R1 (G1 k0 hx2 hx3 k) hx2 hx3
theorem dJ:∀ k,L1 k0 k K=G1 k0 (H2 K) (H3 K) k:=bK rfl fun k ih=>by rw[zs1,G1];(try simp only[ih,aP]);try rfl
variable (f0:Int) (f1 f2:List U8)
def aB:au (Bool×Unit):=dh Tryz.prog [.tmp 2] JE Jk (f0,f1,f2,())
theorem aY:H0 (K0 k0 (aB f0 f1 f2))=A0 f0 f1 f2:=by kernel_rfl
theorem cZ:H1 (K0 k0 (aB f0 f1 f2))=A1 (L1 k0 k0 (K1 k0 (aB f0 f1 f2))) f0 f1 f2:=by kernel_rfl
theorem jY:H2 (K1 k0 (aB f0 f1 f2))=A2 f0 f1 f2:=by kernel_rfl
theorem mV:H3 (K1 k0 (aB f0 f1 f2))=A3 f0 f1 f2:=by kernel_rfl
def FF:Option (Bool×Unit):=T (G0 k0 (A0 f0 f1 f2) (A1 (G1 k0 (A2 f0 f1 f2) (A3 f0 f1 f2) k0) f0 f1 f2) k0) f0 f1 f2
theorem aX:di Tryz.prog (aU dA) aC k0 44 JE Jk [] (f0,f1,f2,())=FF k0 f0 f1 f2:=Eq.trans (b:=T (L0 k0 k0 (K0 k0 (aB f0 f1 f2))) f0 f1 f2) (by kernel_rfl) (by rw[FF];(try simp only[aP,dJ,aY,cZ,jY,mV]);try rfl)
def _root_.Go.Rv.KQ:=fun x:U3=>FF (300+x.2.1.length+x.2.2.1.length) x.1 x.2.1 x.2.2.1
abbrev _root_.Go.Rv.RN:aG:=⟨JE,Jk,KQ,[]⟩
theorem _root_.Go.Rv.aaI:aF Dr Tryz.prog 44 RN:=dH mix (.c Ee (.c DN (.c Kw (.c CW .nil)))) (by kernel_rfl) fun x=>⟨aC,_,aX _ _ _ _⟩
end iT
def Uw.T(n:Int):Option (Bool×Unit):=(nJ (n,0,1000000,())).bind fun y1=>some (y1.1,())
def Ec:=fun x:Int×Unit=>Uw.T x.1
abbrev ab1:aG:=⟨[.v false [CT.int .i64]],[(false,[CT.bool])],Ec,[]⟩
theorem abB:aF Dr Tryz.prog 115 ab1:=aZ mix (.c Az .nil) (by kernel_rfl) fun x=>by kernel_rfl
def QO.T(l0 l1 l2:Int):Option (Bool×Unit):=(gJ (l0,())).bind fun y1=>cond y1.1 ((jq (l1,())).bind fun y2=>cond y2.1 ((Ec (l2,())).bind fun y3=>some (y3.1,())) (some (false,()))) (some (false,()))
def CY:=fun x:U9=>QO.T x.1 x.2.1 x.2.2.1
abbrev Jc:aG:=⟨[.v true ct0],[(false,[CT.bool])],CY,[]⟩
theorem ZL:aF Dr Tryz.prog 93 Jc:=aZ mix (.c Ee (.c DN (.c abB .nil))) (by kernel_rfl) fun x=>by kernel_rfl
abbrev Ja:Is:=[.v false [CT.sl ct0]]
abbrev IG:Os:=[(false,[CT.bool])]
namespace kz
def aC:Nat→List Nat×List Nat:=fun k=>if k=2 then([0,5,6,7],[0,2])else([],[])
def zrc{R:Type}(k0:Nat)(p:List Nat):Env→List Ob→au R→Option R:=bJ Tryz.prog (aU [(93,[],Jc)]) 34 0 aC k0 (cu p (dG Tryz.prog 45))
def R0{R:Type}(nx0:GV R)(ex0:Qk R)(ex1:Qj R)(list2 t5x:List U9)(t6x t7x:Int):Option R:=cond (decide (t7x<t6x)) (if 0≤t7x∧t7x<(t5x.length:Int)then(CY ((rd (0,0,0,()) t5x t7x).1,(rd (0,0,0,()) t5x t7x).2.1,(rd (0,0,0,()) t5x t7x).2.2.1,())).bind fun y1=>cond (!y1.1) (ex0 list2 false) (cond (decide (t7x>0)) (if 0≤(af (t7x - 1))∧(af (t7x - 1))<(list2.length:Int)then cond (decide ((rd (0,0,0,()) list2 (af (t7x - 1))).1≥(rd (0,0,0,()) t5x t7x).1)) (ex0 list2 false) (nx0 list2 t5x t6x (af (t7x+1)))else none) (nx0 list2 t5x t6x (af (t7x+1))))else none) (ex1 list2)
def A0(list:List U9)(list2:List U9)(t2x:Bool):Option (Bool×Unit):=some (t2x,())
def A1(list:List U9)(list2:List U9):Option (Bool×Unit):=some ((decide ((list2.length:Int)≤60)),())
def T(lo0:GV (Bool×Unit))(list:List U9):Option (Bool×Unit):=lo0 list list (list.length:Int) 0
def K0{R:Type}(k0:Nat)(K:au R):au R:=bD 0 (bG (fun env ob=>zrc k0 [1,1] env ob (K)) (K))
def L0:GV R:=fun list2 t5x t6x t7x=>iter 0 [0,5,6,7] [0,2] (zrc k0 [1,0,1,0,0]) k [(0,.sl ct0 list2),(5,.sl ct0 t5x),(6,.int .i64 t6x),(7,.int .i64 t7x)] [] K
def H0:Qk R:=fun list2 t2x=>K .ret [(0,.sl ct0 list2),(2,.bool t2x)] []
def H1:Qj R:=fun list2=>K (.exit 0) [(0,.sl ct0 list2),(2,.undef)] []
theorem zs0:L0 k0 (k+1) K=R0 (L0 k0 k K) (H0 K) (H1 K):=by kernel_rfl
def G0{R:Type}(k0:Nat)(hx0:Qk R)(hx1:Qj R):Nat→GV R
 |0=>fun _ _ _ _=>none
 |k+1=>R0 (G0 k0 hx0 hx1 k) hx0 hx1
theorem aP:∀ k,L0 k0 k K=G0 k0 (H0 K) (H1 K) k:=bK rfl fun k ih=>by rw[zs0,G0];(try simp only[ih]);try rfl
variable (list:List U9)
def aB:au (Bool×Unit):=dh Tryz.prog [.tmp 2] Ja IG (list,())
theorem aY:H0 (K0 k0 (aB list))=A0 list:=by kernel_rfl
theorem cZ:H1 (K0 k0 (aB list))=A1 list:=by kernel_rfl
def FF:Option (Bool×Unit):=T (G0 k0 (A0 list) (A1 list) k0) list
theorem aX:di Tryz.prog (aU [(93,[],Jc)]) aC k0 45 Ja IG [] (list,())=FF k0 list:=Eq.trans (b:=T (L0 k0 k0 (K0 k0 (aB list))) list) (by kernel_rfl) (by rw[FF];(try simp only[aP,aY,cZ]);try rfl)
def _root_.Go.Rv.JJ:=fun x:(List U9)×Unit=>FF (300+x.1.length) x.1
abbrev _root_.Go.Rv.QT:aG:=⟨Ja,IG,JJ,[]⟩
theorem _root_.Go.Rv.ZW:aF Dr Tryz.prog 45 QT:=dH mix (.c ZL .nil) (by kernel_rfl) fun x=>⟨aC,_,aX _ _⟩
end kz
abbrev I9:Is:=[.v true fP]
abbrev IE:Os:=[(false,[CT.bool])]
namespace kR
def dA:Tb:=[(43,[],VI),(44,[],RN),(45,[],QT)]
def aC:Nat→List Nat×List Nat:=fun k=>if k=4 then([1,46,47,48],[2])else([],[])
def zrc{R:Type}(k0:Nat)(p:List Nat):Env→List Ob→au R→Option R:=bJ Tryz.prog (aU dA) 78 0 aC k0 (cu p (dG Tryz.prog 12))
def R0{R:Type}(nx0:GU R)(ex0:iQ R)(ex1:dQ R)(t46x:List U9)(t47x t48x s s7 s8 s9:Int)(s10 s11:List U8)(s12:List U9):Option R:=cond (decide (t48x<t47x)) (if 0≤t48x∧t48x<(t46x.length:Int)then if 0≤t48x∧t48x<(s11.length:Int)then cond ((rd (0,0,0,()) t46x t48x).1 != (rd (0,0,0,0,()) s11 t48x).1) (ex0 false) ((nJ ((rd (0,0,0,()) t46x t48x).2.2.1,(af (s8+1)),(af (s8+s)),())).bind fun y1=>cond (!y1.1) (ex0 false) (nx0 t46x t47x (af (t48x+1)) s s7 s8 s9 s10 s11 s12))else none else none) (ex1 ())
def A0(s0 s1 s2 s3:Int)(s4 s5:List U8)(s6:List U9)(t2x:Bool):Option (Bool×Unit):=some (t2x,())
def A1(s0 s1 s2 s3:Int)(s4 s5:List U8)(s6:List U9)(_u:Unit):Option (Bool×Unit):=some (true,())
def T(lo0:GU (Bool×Unit))(s0 s1 s2 s3:Int)(s4 s5:List U8)(s6:List U9):Option (Bool×Unit):=(nJ (s0,1,1000,())).bind fun y1=>cond (!y1.1) (some (false,())) ((nJ (s2,0,999000,())).bind fun y2=>cond (!y2.1) (some (false,())) ((nJ (s1,0,s2,())).bind fun y3=>cond (!y3.1) (some (false,())) ((KQ (s3,s4,s5,())).bind fun y4=>cond (!y4.1) (some (false,())) ((JJ (s6,())).bind fun y5=>cond (!y5.1) (some (false,())) (cond ((s6.length:Int) != (s5.length:Int)) (some (false,())) (lo0 s6 (s6.length:Int) 0 s0 s1 s2 s3 s4 s5 s6))))))
def K0{R:Type}(k0:Nat)(K:au R):au R:=bD 0 (bG (fun env ob=>zrc k0 [1,1,1] env ob (K)) (K))
def L0:GU R:=fun t46x t47x t48x s s7 s8 s9 s10 s11 s12=>iter 0 [1,46,47,48] [2] (zrc k0 [1,1,0,1,0,0]) k [(1,.ptr 0 0 0 0),(46,.sl ct0 t46x),(47,.int .i64 t47x),(48,.int .i64 t48x)] [.box [.int .i64 s,.int .i64 s7,.int .i64 s8,.int .i64 s9,.sl ay s10,.sl ay s11,.sl ct0 s12]] K
def H0:iQ R:=fun t2x=>K .ret [(2,.bool t2x)] []
def H1:dQ R:=fun _=>K (.exit 0) [(2,.undef)] []
theorem zs0:L0 k0 (k+1) K=R0 (L0 k0 k K) (H0 K) (H1 K):=by kernel_rfl
def G0{R:Type}(k0:Nat)(hx0:iQ R)(hx1:dQ R):Nat→GU R
 |0=>fun _ _ _ _ _ _ _ _ _ _=>none
 |k+1=>R0 (G0 k0 hx0 hx1 k) hx0 hx1
theorem aP:∀ k,L0 k0 k K=G0 k0 (H0 K) (H1 K) k:=bK rfl fun k ih=>by rw[zs0,G0];(try simp only[ih]);try rfl
variable (s0 s1 s2 s3:Int) (s4 s5:List U8) (s6:List U9)
def aB:au (Bool×Unit):=dh Tryz.prog [.tmp 2] I9 IE (s0,s1,s2,s3,s4,s5,s6,())
theorem aY:H0 (K0 k0 (aB s0 s1 s2 s3 s4 s5 s6))=A0 s0 s1 s2 s3 s4 s5 s6:=by kernel_rfl
theorem cZ:H1 (K0 k0 (aB s0 s1 s2 s3 s4 s5 s6))=A1 s0 s1 s2 s3 s4 s5 s6:=by kernel_rfl
def FF:Option (Bool×Unit):=T (G0 k0 (A0 s0 s1 s2 s3 s4 s5 s6) (A1 s0 s1 s2 s3 s4 s5 s6) k0) s0 s1 s2 s3 s4 s5 s6
theorem aX:di Tryz.prog (aU dA) aC k0 12 I9 IE [] (s0,s1,s2,s3,s4,s5,s6,())=FF k0 s0 s1 s2 s3 s4 s5 s6:=Eq.trans (b:=T (L0 k0 k0 (K0 k0 (aB s0 s1 s2 s3 s4 s5 s6))) s0 s1 s2 s3 s4 s5 s6) (by kernel_rfl) (by rw[FF];(try simp only[aP,aY,cZ]);try rfl)
def _root_.Go.Rv.wO:=fun x:U1=>FF (300+x.2.2.2.2.1.length+x.2.2.2.2.2.1.length+x.2.2.2.2.2.2.1.length) x.1 x.2.1 x.2.2.1 x.2.2.2.1 x.2.2.2.2.1 x.2.2.2.2.2.1 x.2.2.2.2.2.2.1
abbrev _root_.Go.Rv.aaq:aG:=⟨I9,IE,wO,[]⟩
theorem _root_.Go.Rv.Dc:aF Dr Tryz.prog 12 aaq:=dH mix (.c Az (.c aaI (.c ZW .nil))) (by kernel_rfl) fun x=>⟨aC,_,aX _ _ _ _ _ _ _ _⟩
end kR
def Ah.T(e0 e1 e2 e3 e4:Int):Option (Bool×Unit):=cond (e2==0) (cond (e0==1) ((jq (e3,())).bind fun y1=>(kD (e4,())).bind fun y2=>(gJ (e1,())).bind fun y3=>cond y3.1 (cond y1.1 (some (y2.1,())) (some (false,()))) (cond (e0==8) (cond (e1==0) (cond y1.1 (some (y2.1,())) (some (false,()))) (some (false,()))) (some (false,())))) (cond (e0==6) ((jq (e3,())).bind fun y4=>(kD (e4,())).bind fun y5=>(gJ (e1,())).bind fun y6=>cond y6.1 (cond y4.1 (some (y5.1,())) (some (false,()))) (cond (e0==8) (cond (e1==0) (cond y4.1 (some (y5.1,())) (some (false,()))) (some (false,()))) (some (false,())))) (cond (e0==3) ((jq (e3,())).bind fun y7=>(gJ (e1,())).bind fun y8=>cond y8.1 (cond (e2==0) (cond y7.1 (some ((e4==0),())) (some (false,()))) (some (false,()))) (cond (e0==8) (cond (e1==0) (cond (e2==0) (cond y7.1 (some ((e4==0),())) (some (false,()))) (some (false,()))) (some (false,()))) (some (false,())))) (cond (e0==8) ((jq (e3,())).bind fun y9=>(gJ (e1,())).bind fun y10=>cond y10.1 (cond (e2==0) (cond y9.1 (some ((e4==0),())) (some (false,()))) (some (false,()))) (cond (e0==8) (cond (e1==0) (cond (e2==0) (cond y9.1 (some ((e4==0),())) (some (false,()))) (some (false,()))) (some (false,()))) (some (false,())))) (cond (e0==4) ((kD (e3,())).bind fun y11=>(gJ (e1,())).bind fun y12=>cond y12.1 (cond (e2==0) (cond y11.1 (some ((e4==0),())) (some (false,()))) (some (false,()))) (cond (e0==8) (cond (e1==0) (cond (e2==0) (cond y11.1 (some ((e4==0),())) (some (false,()))) (some (false,()))) (some (false,()))) (some (false,())))) (cond (e0==5) ((gJ (e1,())).bind fun y13=>cond y13.1 (cond (e3==0) (some ((e4==0),())) (some (false,()))) (cond (e0==8) (cond (e1==0) (cond (e3==0) (some ((e4==0),())) (some (false,()))) (some (false,()))) (some (false,())))) (cond (e0==2) ((gJ (e1,())).bind fun y14=>cond y14.1 (cond (e2==0) (cond (e3==0) (some ((e4==0),())) (some (false,()))) (some (false,()))) (cond (e0==8) (cond (e1==0) (cond (e2==0) (cond (e3==0) (some ((e4==0),())) (some (false,()))) (some (false,()))) (some (false,()))) (some (false,())))) (cond (e0==7) ((gJ (e1,())).bind fun y15=>cond y15.1 (cond (e2==0) (cond (e3==0) (some ((e4==0),())) (some (false,()))) (some (false,()))) (cond (e0==8) (cond (e1==0) (cond (e2==0) (cond (e3==0) (some ((e4==0),())) (some (false,()))) (some (false,()))) (some (false,()))) (some (false,())))) (some (false,())))))))))) ((gJ (e2,())).bind fun y16=>cond (e0==1) ((jq (e3,())).bind fun y17=>(kD (e4,())).bind fun y18=>(gJ (e1,())).bind fun y19=>cond y19.1 (cond y16.1 (cond y17.1 (some (y18.1,())) (some (false,()))) (some (false,()))) (cond (e0==8) (cond (e1==0) (cond y16.1 (cond y17.1 (some (y18.1,())) (some (false,()))) (some (false,()))) (some (false,()))) (some (false,())))) (cond (e0==6) ((jq (e3,())).bind fun y20=>(kD (e4,())).bind fun y21=>(gJ (e1,())).bind fun y22=>cond y22.1 (cond y16.1 (cond y20.1 (some (y21.1,())) (some (false,()))) (some (false,()))) (cond (e0==8) (cond (e1==0) (cond y16.1 (cond y20.1 (some (y21.1,())) (some (false,()))) (some (false,()))) (some (false,()))) (some (false,())))) (cond (e0==3) ((jq (e3,())).bind fun y23=>(gJ (e1,())).bind fun y24=>cond y24.1 (cond (e2==0) (cond y23.1 (some ((e4==0),())) (some (false,()))) (some (false,()))) (cond (e0==8) (cond (e1==0) (cond (e2==0) (cond y23.1 (some ((e4==0),())) (some (false,()))) (some (false,()))) (some (false,()))) (some (false,())))) (cond (e0==8) ((jq (e3,())).bind fun y25=>(gJ (e1,())).bind fun y26=>cond y26.1 (cond (e2==0) (cond y25.1 (some ((e4==0),())) (some (false,()))) (some (false,()))) (cond (e0==8) (cond (e1==0) (cond (e2==0) (cond y25.1 (some ((e4==0),())) (some (false,()))) (some (false,()))) (some (false,()))) (some (false,())))) (cond (e0==4) ((kD (e3,())).bind fun y27=>(gJ (e1,())).bind fun y28=>cond y28.1 (cond (e2==0) (cond y27.1 (some ((e4==0),())) (some (false,()))) (some (false,()))) (cond (e0==8) (cond (e1==0) (cond (e2==0) (cond y27.1 (some ((e4==0),())) (some (false,()))) (some (false,()))) (some (false,()))) (some (false,())))) (cond (e0==5) ((gJ (e1,())).bind fun y29=>cond y29.1 (cond y16.1 (cond (e3==0) (some ((e4==0),())) (some (false,()))) (some (false,()))) (cond (e0==8) (cond (e1==0) (cond y16.1 (cond (e3==0) (some ((e4==0),())) (some (false,()))) (some (false,()))) (some (false,()))) (some (false,())))) (cond (e0==2) ((gJ (e1,())).bind fun y30=>cond y30.1 (cond (e2==0) (cond (e3==0) (some ((e4==0),())) (some (false,()))) (some (false,()))) (cond (e0==8) (cond (e1==0) (cond (e2==0) (cond (e3==0) (some ((e4==0),())) (some (false,()))) (some (false,()))) (some (false,()))) (some (false,())))) (cond (e0==7) ((gJ (e1,())).bind fun y31=>cond y31.1 (cond (e2==0) (cond (e3==0) (some ((e4==0),())) (some (false,()))) (some (false,()))) (cond (e0==8) (cond (e1==0) (cond (e2==0) (cond (e3==0) (some ((e4==0),())) (some (false,()))) (some (false,()))) (some (false,()))) (some (false,())))) (some (false,()))))))))))
def pz:=fun x:U6=>Ah.T x.1 x.2.1 x.2.2.1 x.2.2.2.1 x.2.2.2.2.1
abbrev aa6:aG:=⟨[.v true dM],[(false,[CT.bool])],pz,[]⟩
theorem aaJ:aF Dr Tryz.prog 98 aa6:=aZ mix (.c Ee (.c DN (.c Kw .nil))) (by kernel_rfl) fun x=>by kernel_rfl
def Ux.T(e0 e1 e2 e3 e4:Int):Option (Bool×Unit):=(pz (e0,e1,e2,e3,e4,())).bind fun y1=>cond y1.1 (cond (e0 != 6) (some (true,())) (some ((decide (e2<e1)),()))) (some (false,()))
def LZ:=fun x:U6=>Ux.T x.1 x.2.1 x.2.2.1 x.2.2.2.1 x.2.2.2.2.1
abbrev ab2:aG:=⟨[.v true dM],[(false,[CT.bool])],LZ,[]⟩
theorem abC:aF Dr Tryz.prog 71 ab2:=aZ mix (.c aaJ .nil) (by kernel_rfl) fun x=>by kernel_rfl
def Ug.T(o0 o1 o2 o3 o4:Int):Option (Bool×Unit):=cond (o0==1) ((gJ (o1,())).bind fun y1=>cond y1.1 (cond (o2==0) ((jq (o3,())).bind fun y2=>cond y2.1 ((kD (o4,())).bind fun y3=>some (y3.1,())) (some (false,()))) ((gJ (o2,())).bind fun y4=>cond y4.1 ((jq (o3,())).bind fun y5=>cond y5.1 ((kD (o4,())).bind fun y6=>some (y6.1,())) (some (false,()))) (some (false,())))) (some (false,()))) (cond (o0==2) ((gJ (o1,())).bind fun y7=>cond y7.1 (some (((o0==2)&&((o1==o1)&&((o2==0)&&((o3==0)&&((o4==0)&&true))))),())) (some (false,()))) (cond (o0==4) (some (((o0==o0)&&((o1==0)&&((o2==0)&&((o3==0)&&((o4==0)&&true))))),())) (cond (o0==5) (some (((o0==o0)&&((o1==0)&&((o2==0)&&((o3==0)&&((o4==0)&&true))))),())) ((nD (o0,o1,o2,o3,o4,())).bind fun y8=>(LZ (y8.1,y8.2.1,y8.2.2.1,y8.2.2.2.1,y8.2.2.2.2.1,())).bind fun y9=>some (y9.1,())))))
def xk:=fun x:U6=>Ug.T x.1 x.2.1 x.2.2.1 x.2.2.2.1 x.2.2.2.2.1
abbrev Tz:aG:=⟨[.v true dM],[(false,[CT.bool])],xk,[]⟩
theorem RZ:aF Dr Tryz.prog 32 Tz:=aZ mix (.c Ee (.c DN (.c Kw (.c abC (.c RY .nil))))) (by kernel_rfl) fun x=>by kernel_rfl
def Ik.T(s:List U8):Option ((List U8)×Unit):=if s.length=0 then(@ite _ (some ([],())=if([]:List U8).length+s.length≤maxRow then some ((([]:List U8)++s),())else none) (Classical.propDecidable _) (if([]:List U8).length+s.length≤maxRow then some ((([]:List U8)++s),())else none) none)else if([]:List U8).length+s.length≤maxRow then some ((([]:List U8)++s),())else none
def Ii:=fun x:(List U8)×Unit=>Ik.T x.1
abbrev Zw:aG:=⟨[.v false [CT.sl ay]],[(false,[CT.sl ay])],Ii,[]⟩
theorem Zu:aF Dr Tryz.prog 99 Zw:=aZ mix .nil (by kernel_rfl) fun x=>by kernel_rfl
def Ig.T(s:List U8):Option ((List U8)×Unit):=if s.length=0 then(@ite _ (some ([],())=if([]:List U8).length+s.length≤maxRow then some ((([]:List U8)++s),())else none) (Classical.propDecidable _) (if([]:List U8).length+s.length≤maxRow then some ((([]:List U8)++s),())else none) none)else if([]:List U8).length+s.length≤maxRow then some ((([]:List U8)++s),())else none
def Ic:=fun x:(List U8)×Unit=>Ig.T x.1
abbrev Zt:aG:=⟨[.v false [CT.sl ay]],[(false,[CT.sl ay])],Ic,[]⟩
theorem Zl:aF Dr Tryz.prog 100 Zt:=aZ mix .nil (by kernel_rfl) fun x=>by kernel_rfl
def KH.T(f0:Int)(f1 f2:List U8):Option (U3):=(Ii (f1,())).bind fun y1=>(Ic (f2,())).bind fun y2=>some (f0,y1.1,y2.1,())
def JK:=fun x:U3=>KH.T x.1 x.2.1 x.2.2.1
abbrev aas:aG:=⟨[.v true fZ],[(true,fZ)],JK,[]⟩
theorem ZY:aF Dr Tryz.prog 73 aas:=aZ mix (.c Zu (.c Zl .nil)) (by kernel_rfl) fun x=>by kernel_rfl
def JF.T(s0 s1 s2 s3:Int)(s4 s5:List U8)(s6:List U9):Option (U1):=(JK (s3,s4,s5,())).bind fun y1=>(CS (s6,())).bind fun y2=>some (s0,s1,s2,y1.1,y1.2.1,y1.2.2.1,y2.1,())
def zB:=fun x:U1=>JF.T x.1 x.2.1 x.2.2.1 x.2.2.2.1 x.2.2.2.2.1 x.2.2.2.2.2.1 x.2.2.2.2.2.2.1
abbrev ZR:aG:=⟨[.v true fP],[(true,fP)],zB,[]⟩
theorem IJ:aF Dr Tryz.prog 33 ZR:=aZ mix (.c ZY (.c Qw .nil)) (by kernel_rfl) fun x=>by kernel_rfl
def uO.T(s0 s1 s2 s3:Int)(s4 s5:List U8)(s6:List U9)(o0 o1 o2 o3 o4:Int):Option (U0):=(wO (s0,s1,s2,s3,s4,s5,s6,())).bind fun y1=>cond (!y1.1) (some (0,0,0,0,[],[],[],0,0,1,())) ((xk (o0,o1,o2,o3,o4,())).bind fun y2=>cond (!y2.1) (some (0,0,0,0,[],[],[],0,0,1,())) ((zB (s0,s1,s2,s3,s4,s5,s6,())).bind fun y3=>(oq (y3.1,y3.2.1,y3.2.2.1,y3.2.2.2.1,y3.2.2.2.2.1,y3.2.2.2.2.2.1,y3.2.2.2.2.2.2.1,o0,o1,o2,o3,o4,())).bind fun y4=>cond (y4.2.2.1 != 0) (some (0,0,0,0,[],[],[],0,0,y4.2.2.1,())) (some (y4.2.2.2.1,y4.2.2.2.2.1,y4.2.2.2.2.2.1,y4.2.2.2.2.2.2.1,y4.2.2.2.2.2.2.2.1,y4.2.2.2.2.2.2.2.2.1,y4.2.2.2.2.2.2.2.2.2.1,y4.1,y4.2.1,0,()))))
def pI:=fun x:Int×Int×Int×Int×(List U8)×(List U8)×(List U9)×U6=>uO.T x.1 x.2.1 x.2.2.1 x.2.2.2.1 x.2.2.2.2.1 x.2.2.2.2.2.1 x.2.2.2.2.2.2.1 x.2.2.2.2.2.2.2.1 x.2.2.2.2.2.2.2.2.1 x.2.2.2.2.2.2.2.2.2.1 x.2.2.2.2.2.2.2.2.2.2.1 x.2.2.2.2.2.2.2.2.2.2.2.1
abbrev SG:aG:=⟨[.v true fP,.v true dM],[(true,F9)],pI,[]⟩
theorem aa1:aF KN Tryz.prog 10 SG:=aZ mix (.c Dc (.c RZ (.c IJ (.c JW .nil)))) (by kernel_rfl) fun x=>by kernel_rfl
abbrev JA:Is:=[.v false [CT.sh [CT.int .u8]]]
abbrev Jg:Os:=[(true,rq),(false,[])]
namespace ou
def aC:Nat→List Nat×List Nat:=fun k=>if k=3 then([0,3,4],[0,3])else([],[])
def zrc{R:Type}(k0:Nat)(p:List Nat):Env→List Ob→au R→Option R:=bJ Tryz.prog (aU []) 47 0 aC k0 (cu p (dG Tryz.prog 26))
def R0{R:Type}(nx0:GR R)(ex0:Qi R)(code2:List (Int×Unit))(i:Int)(s:List (Int×Unit))(s2 s3 s4:Int):Option R:=cond (decide (i<(code2.length:Int))) (cond (decide (i<64)) (if 0≤i∧i<(code2.length:Int)then nx0 code2 (af (i+1)) s s2 (IntKind.u64.wrap ((IntKind.u64.wrap (((BitVec.ofInt 64 s3) ^^^ (BitVec.ofInt 64 (IntKind.u64.wrap ((rd (0,()) code2 i).1)))).toNat))*1099511628211)) s4 else none) (ex0 code2 s s2 s3 s4)) (ex0 code2 s s2 s3 s4)
def A0(code:List (Int×Unit))(code2 s:List (Int×Unit))(s2 s3 s4:Int):Option (U5):=if 20=0 then none else cond (decide ((af (Int.tdiv (code2.length:Int) 20))>12)) (some (s,s2,s3,12,())) (some (s,s2,s3,(af (Int.tdiv (code2.length:Int) 20)),()))
def T(lo0:GR (U5))(code:List (Int×Unit)):Option (U5):=lo0 code 0 code 0 88172645463325252 0
def K0{R:Type}(k0:Nat)(K:au R):au R:=bD 0 (bG (fun env ob=>zrc k0 [1,1,1] env ob (K)) (K))
def L0:GR R:=fun code2 i s s2 s3 s4=>iter 0 [0,3,4] [0,3] (zrc k0 [1,1,0,1,0,0]) k [(0,.sh [CT.int .u8] code2),(3,.ptr 0 0 0 0),(4,.int .i64 i)] [.box [.sh [CT.int .u8] s,.int .i64 s2,.int .u64 s3,.int .i64 s4]] K
def H0:Qi R:=fun code2 s s2 s3 s4=>K (.exit 0) [(0,.sh [CT.int .u8] code2),(3,.ptr 0 0 0 0)] [.box [.sh [CT.int .u8] s,.int .i64 s2,.int .u64 s3,.int .i64 s4]]
theorem zs0:L0 k0 (k+1) K=R0 (L0 k0 k K) (H0 K):=by kernel_rfl
def G0{R:Type}(k0:Nat)(hx0:Qi R):Nat→GR R
 |0=>fun _ _ _ _ _ _=>none
 |k+1=>R0 (G0 k0 hx0 k) hx0
theorem aP:∀ k,L0 k0 k K=G0 k0 (H0 K) k:=bK rfl fun k ih=>by rw[zs0,G0];(try simp only[ih]);try rfl
variable (code:List (Int×Unit))
def aB:au (U5):=dh Tryz.prog [.tmp 2] JA Jg (code,())
theorem aY:H0 (K0 k0 (aB code))=A0 code:=by kernel_rfl
def FF:Option (U5):=T (G0 k0 (A0 code) k0) code
theorem aX:di Tryz.prog (aU []) aC k0 26 JA Jg [] (code,())=FF k0 code:=Eq.trans (b:=T (L0 k0 k0 (K0 k0 (aB code))) code) (by kernel_rfl) (by rw[FF];(try simp only[aP,aY]);try rfl)
def _root_.Go.Rv.Dx:=fun x:(List (Int×Unit))×Unit=>FF (300+x.1.length) x.1
abbrev _root_.Go.Rv.aa3:aG:=⟨JA,Jg,Dx,[]⟩
theorem _root_.Go.Rv.aav:aF Dr Tryz.prog 26 aa3:=dH mix .nil (by kernel_rfl) fun x=>⟨aC,_,aX _ _⟩
end ou
def ab4.T(o0 o1 o2 o3 o4:Int):Option (U6):=cond (o0==3) (some (8,o1,o2,o3,o4,())) (cond (o0==6) (some (6,o1,o2,o3,o4,())) (cond (o0==7) (some (7,o1,o2,o3,o4,())) (some (0,o1,o2,o3,o4,()))))
def pJ:=fun x:U6=>ab4.T x.1 x.2.1 x.2.2.1 x.2.2.2.1 x.2.2.2.2.1
abbrev Ti:aG:=⟨[.v true dM],[(true,dM)],pJ,[]⟩
theorem RU:aF Dr Tryz.prog 41 Ti:=aZ mix .nil (by kernel_rfl) fun x=>by kernel_rfl
def Af.T(e0 e1 e2 e3 e4:Int):Option (Bool×Unit):=(lK (e1,())).bind fun y1=>cond (!y1.1) (cond (e0==8) (cond (!(e1==0)) (some (false,())) (cond (e2 != 0) ((lK (e2,())).bind fun y2=>cond (!y2.1) (some (false,())) (cond (e0==1) ((eG (e3,())).bind fun y3=>cond y3.1 ((gI (e4,())).bind fun y4=>some (y4.1,())) (some (false,()))) (cond (e0==6) ((eG (e3,())).bind fun y5=>cond y5.1 ((gI (e4,())).bind fun y6=>some (y6.1,())) (some (false,()))) (cond (e0==2) (cond (e2==0) (cond (e3==0) (some ((e4==0),())) (some (false,()))) (some (false,()))) (cond (e0==7) (cond (e2==0) (cond (e3==0) (some ((e4==0),())) (some (false,()))) (some (false,()))) (cond (e0==3) (cond (e2==0) ((eG (e3,())).bind fun y7=>cond y7.1 (some ((e4==0),())) (some (false,()))) (some (false,()))) (cond (e0==8) (cond (e2==0) ((eG (e3,())).bind fun y8=>cond y8.1 (some ((e4==0),())) (some (false,()))) (some (false,()))) (cond (e0==4) (cond (e2==0) ((gI (e3,())).bind fun y9=>cond y9.1 (some ((e4==0),())) (some (false,()))) (some (false,()))) (cond (e0==5) (cond (e3==0) (some ((e4==0),())) (some (false,()))) (some (false,()))))))))))) (cond (e0==1) ((eG (e3,())).bind fun y10=>cond y10.1 ((gI (e4,())).bind fun y11=>some (y11.1,())) (some (false,()))) (cond (e0==6) ((eG (e3,())).bind fun y12=>cond y12.1 ((gI (e4,())).bind fun y13=>some (y13.1,())) (some (false,()))) (cond (e0==2) (cond (e2==0) (cond (e3==0) (some ((e4==0),())) (some (false,()))) (some (false,()))) (cond (e0==7) (cond (e2==0) (cond (e3==0) (some ((e4==0),())) (some (false,()))) (some (false,()))) (cond (e0==3) (cond (e2==0) ((eG (e3,())).bind fun y14=>cond y14.1 (some ((e4==0),())) (some (false,()))) (some (false,()))) (cond (e0==8) (cond (e2==0) ((eG (e3,())).bind fun y15=>cond y15.1 (some ((e4==0),())) (some (false,()))) (some (false,()))) (cond (e0==4) (cond (e2==0) ((gI (e3,())).bind fun y16=>cond y16.1 (some ((e4==0),())) (some (false,()))) (some (false,()))) (cond (e0==5) (cond (e3==0) (some ((e4==0),())) (some (false,()))) (some (false,())))))))))))) (some (false,()))) (cond (e2 != 0) ((lK (e2,())).bind fun y17=>cond (!y17.1) (some (false,())) (cond (e0==1) ((eG (e3,())).bind fun y18=>cond y18.1 ((gI (e4,())).bind fun y19=>some (y19.1,())) (some (false,()))) (cond (e0==6) ((eG (e3,())).bind fun y20=>cond y20.1 ((gI (e4,())).bind fun y21=>some (y21.1,())) (some (false,()))) (cond (e0==2) (cond (e2==0) (cond (e3==0) (some ((e4==0),())) (some (false,()))) (some (false,()))) (cond (e0==7) (cond (e2==0) (cond (e3==0) (some ((e4==0),())) (some (false,()))) (some (false,()))) (cond (e0==3) (cond (e2==0) ((eG (e3,())).bind fun y22=>cond y22.1 (some ((e4==0),())) (some (false,()))) (some (false,()))) (cond (e0==8) (cond (e2==0) ((eG (e3,())).bind fun y23=>cond y23.1 (some ((e4==0),())) (some (false,()))) (some (false,()))) (cond (e0==4) (cond (e2==0) ((gI (e3,())).bind fun y24=>cond y24.1 (some ((e4==0),())) (some (false,()))) (some (false,()))) (cond (e0==5) (cond (e3==0) (some ((e4==0),())) (some (false,()))) (some (false,()))))))))))) (cond (e0==1) ((eG (e3,())).bind fun y25=>cond y25.1 ((gI (e4,())).bind fun y26=>some (y26.1,())) (some (false,()))) (cond (e0==6) ((eG (e3,())).bind fun y27=>cond y27.1 ((gI (e4,())).bind fun y28=>some (y28.1,())) (some (false,()))) (cond (e0==2) (cond (e2==0) (cond (e3==0) (some ((e4==0),())) (some (false,()))) (some (false,()))) (cond (e0==7) (cond (e2==0) (cond (e3==0) (some ((e4==0),())) (some (false,()))) (some (false,()))) (cond (e0==3) (cond (e2==0) ((eG (e3,())).bind fun y29=>cond y29.1 (some ((e4==0),())) (some (false,()))) (some (false,()))) (cond (e0==8) (cond (e2==0) ((eG (e3,())).bind fun y30=>cond y30.1 (some ((e4==0),())) (some (false,()))) (some (false,()))) (cond (e0==4) (cond (e2==0) ((gI (e3,())).bind fun y31=>cond y31.1 (some ((e4==0),())) (some (false,()))) (some (false,()))) (cond (e0==5) (cond (e3==0) (some ((e4==0),())) (some (false,()))) (some (false,())))))))))))
def jQ:=fun x:U6=>Af.T x.1 x.2.1 x.2.2.1 x.2.2.2.1 x.2.2.2.2.1
abbrev aa5:aG:=⟨[.v true dM],[(false,[CT.bool])],jQ,[]⟩
theorem QY:aF Dr Tryz.prog 81 aa5:=aZ mix (.c uH (.c Ak (.c Dn .nil))) (by kernel_rfl) fun x=>by kernel_rfl
def UH.T(o0 o1 o2 o3 o4:Int):Option (Bool×Unit):=cond (o0==1) ((lK (o1,())).bind fun y1=>cond y1.1 (cond (o2==0) ((eG (o3,())).bind fun y2=>cond y2.1 ((gI (o4,())).bind fun y3=>some (y3.1,())) (some (false,()))) ((lK (o2,())).bind fun y4=>cond y4.1 ((eG (o3,())).bind fun y5=>cond y5.1 ((gI (o4,())).bind fun y6=>some (y6.1,())) (some (false,()))) (some (false,())))) (some (false,()))) (cond (o0==2) ((lK (o1,())).bind fun y7=>cond y7.1 (cond (o2==0) (cond (o3==0) (some ((o4==0),())) (some (false,()))) (some (false,()))) (some (false,()))) (cond (o0==4) (cond (o1==0) (cond (o2==0) (cond (o3==0) (some ((o4==0),())) (some (false,()))) (some (false,()))) (some (false,()))) (cond (o0==5) (cond (o1==0) (cond (o2==0) (cond (o3==0) (some ((o4==0),())) (some (false,()))) (some (false,()))) (some (false,()))) (cond (o0==6) ((pJ (o0,o1,o2,o3,o4,())).bind fun y8=>(jQ (y8.1,y8.2.1,y8.2.2.1,y8.2.2.2.1,y8.2.2.2.2.1,())).bind fun y9=>cond y9.1 (some ((decide (o2<o1)),())) (some (false,()))) (cond (o0==3) ((pJ (o0,o1,o2,o3,o4,())).bind fun y10=>(jQ (y10.1,y10.2.1,y10.2.2.1,y10.2.2.2.1,y10.2.2.2.2.1,())).bind fun y11=>some (y11.1,())) (cond (o0==7) ((pJ (o0,o1,o2,o3,o4,())).bind fun y12=>(jQ (y12.1,y12.2.1,y12.2.2.1,y12.2.2.2.1,y12.2.2.2.2.1,())).bind fun y13=>some (y13.1,())) (some (false,()))))))))
def Ef:=fun x:U6=>UH.T x.1 x.2.1 x.2.2.1 x.2.2.2.1 x.2.2.2.2.1
abbrev Uh:aG:=⟨[.v true dM],[(false,[CT.bool])],Ef,[]⟩
theorem abS:aF Dr Tryz.prog 35 Uh:=aZ mix (.c RU (.c uH (.c Ak (.c Dn (.c QY .nil))))) (by kernel_rfl) fun x=>by kernel_rfl
def abP.T(code:Int):Option (U0):=some (0,0,0,0,[],[],[],0,0,code,())
def mg:=fun x:Int×Unit=>abP.T x.1
abbrev Lh:aG:=⟨[.v false [CT.int .i64]],[(true,F9)],mg,[]⟩
theorem Rk:aF Dr Tryz.prog 36 Lh:=aZ mix .nil (by kernel_rfl) fun x=>by kernel_rfl
abbrev Jz:Is:=[.v true fZ,.v false [CT.int .i64]]
abbrev Jf:Os:=[(false,[CT.int .i64])]
namespace wX
def aC:Nat→List Nat×List Nat:=fun k=>if k=2 then([1,2,5],[4])else([],[])
def zrc{R:Type}(k0:Nat)(p:List Nat):Env→List Ob→au R→Option R:=bJ Tryz.prog (aU []) 22 0 aC k0 (cu p (dG Tryz.prog 38))
def R0{R:Type}(nx0:uo R)(ex0:Y2 R)(ex1:dQ R)(id2 i f:Int)(f3 f4:List U8):Option R:=cond (decide (i<(f4.length:Int))) (if 0≤i∧i<(f4.length:Int)then cond ((rd (0,0,0,0,()) f4 i).1==id2) (ex0 i) (nx0 id2 (af (i+1)) f f3 f4)else none) (ex1 ())
def A0(f0:Int)(f1 f2:List U8)(id:Int)(t4x:Int):Option (Int×Unit):=some (t4x,())
def A1(f0:Int)(f1 f2:List U8)(id:Int)(_u:Unit):Option (Int×Unit):=some ((-1),())
def T(lo0:uo (Int×Unit))(f0:Int)(f1 f2:List U8)(id:Int):Option (Int×Unit):=lo0 id 0 f0 f1 f2
def K0{R:Type}(k0:Nat)(K:au R):au R:=bD 0 (bG (fun env ob=>zrc k0 [1,1] env ob (K)) (K))
def L0:uo R:=fun id2 i f f3 f4=>iter 0 [1,2,5] [4] (zrc k0 [1,0,1,0,0]) k [(1,.int .i64 id2),(2,.ptr 0 0 0 0),(5,.int .i64 i)] [.box [.int .i64 f,.sl ay f3,.sl ay f4]] K
def H0:Y2 R:=fun t4x=>K .ret [(4,.int .i64 t4x)] []
def H1:dQ R:=fun _=>K (.exit 0) [(4,.undef)] []
theorem zs0:L0 k0 (k+1) K=R0 (L0 k0 k K) (H0 K) (H1 K):=by kernel_rfl
def G0{R:Type}(k0:Nat)(hx0:Y2 R)(hx1:dQ R):Nat→uo R
 |0=>fun _ _ _ _ _=>none
 |k+1=>R0 (G0 k0 hx0 hx1 k) hx0 hx1
theorem aP:∀ k,L0 k0 k K=G0 k0 (H0 K) (H1 K) k:=bK rfl fun k ih=>by rw[zs0,G0];(try simp only[ih]);try rfl
variable (f0:Int) (f1 f2:List U8) (id:Int)
def aB:au (Int×Unit):=dh Tryz.prog [.tmp 4] Jz Jf (f0,f1,f2,id,())
theorem aY:H0 (K0 k0 (aB f0 f1 f2 id))=A0 f0 f1 f2 id:=by kernel_rfl
theorem cZ:H1 (K0 k0 (aB f0 f1 f2 id))=A1 f0 f1 f2 id:=by kernel_rfl
def FF:Option (Int×Unit):=T (G0 k0 (A0 f0 f1 f2 id) (A1 f0 f1 f2 id) k0) f0 f1 f2 id
theorem aX:di Tryz.prog (aU []) aC k0 38 Jz Jf [] (f0,f1,f2,id,())=FF k0 f0 f1 f2 id:=Eq.trans (b:=T (L0 k0 k0 (K0 k0 (aB f0 f1 f2 id))) f0 f1 f2 id) (by kernel_rfl) (by rw[FF];(try simp only[aP,aY,cZ]);try rfl)
def _root_.Go.Rv.qC:=fun x:Int×(List U8)×(List U8)×Int×Unit=>FF (300+x.2.1.length+x.2.2.1.length) x.1 x.2.1 x.2.2.1 x.2.2.2.1
abbrev _root_.Go.Rv.Dv:aG:=⟨Jz,Jf,qC,[]⟩
theorem _root_.Go.Rv.Dl:aF Dr Tryz.prog 38 Dv:=dH mix .nil (by kernel_rfl) fun x=>⟨aC,_,aX _ _ _ _ _⟩
end wX
def abQ.T(code:Int):Option (U2):=some (0,[],[],0,code,())
def jy:=fun x:Int×Unit=>abQ.T x.1
abbrev DJ:aG:=⟨[.v false [CT.int .i64]],[(true,BX)],jy,[]⟩
theorem Du:aF Dr Tryz.prog 87 DJ:=aZ mix .nil (by kernel_rfl) fun x=>by kernel_rfl
def TU.T(f0:Int)(f1 f2:List U8):Option (U3):=if([]:List U8).length+f1.length≤maxRow then if([]:List U8).length+f2.length≤maxRow then some (f0,(([]:List U8)++f1),(([]:List U8)++f2),())else none else none
def pK:=fun x:U3=>TU.T x.1 x.2.1 x.2.2.1
abbrev DT:aG:=⟨[.v true fZ],[(true,fZ)],pK,[]⟩
theorem zY:aF Dr Tryz.prog 88 DT:=aZ mix .nil (by kernel_rfl) fun x=>by kernel_rfl
abbrev Ky:Is:=[.v true fZ,.v true dM]
abbrev JL:Os:=[(true,BX)]
namespace kS
def dA:Tb:=[(38,[],Dv),(65,[],wU),(87,[],DJ),(88,[],DT)]
def aC:Nat→List Nat×List Nat:=fun k=>if k=11 then([2,3,4,5,6,7],[3,4,5,6])else([],[])
def zrc{R:Type}(k0:Nat)(p:List Nat):Env→List Ob→au R→Option R:=bJ Tryz.prog (aU dA) 96 0 aC k0 (cu p (dG Tryz.prog 89))
def R0{R:Type}(nx0:ug R)(ex0:zk R)(done:Bool)(i f:Int)(f3 f4:List U8)(e e5 e6 e7 e8 t4x t4x2 t4x3 out:Int)(o4 o5:List U8):Option R:=cond (decide (i<(f4.length:Int))) (cond (!done) (if 0≤i∧i<(f4.length:Int)then cond (decide ((rd (0,0,0,0,()) f4 i).1>e5)) (if o5.length+[(e5,e6,e7,e8,())].length≤maxRow then if 0≤i∧i<(f4.length:Int)then if(o5++[(e5,e6,e7,e8,())]).length+[((rd (0,0,0,0,()) f4 i).1,(rd (0,0,0,0,()) f4 i).2.1,(rd (0,0,0,0,()) f4 i).2.2.1,(rd (0,0,0,0,()) f4 i).2.2.2.1,())].length≤maxRow then nx0 true (af (i+1)) f f3 f4 e e5 e6 e7 e8 t4x t4x2 t4x3 out o4 ((o5++[(e5,e6,e7,e8,())])++[((rd (0,0,0,0,()) f4 i).1,(rd (0,0,0,0,()) f4 i).2.1,(rd (0,0,0,0,()) f4 i).2.2.1,(rd (0,0,0,0,()) f4 i).2.2.2.1,())])else none else none else none) (if 0≤i∧i<(f4.length:Int)then if o5.length+[((rd (0,0,0,0,()) f4 i).1,(rd (0,0,0,0,()) f4 i).2.1,(rd (0,0,0,0,()) f4 i).2.2.1,(rd (0,0,0,0,()) f4 i).2.2.2.1,())].length≤maxRow then nx0 done (af (i+1)) f f3 f4 e e5 e6 e7 e8 t4x t4x2 t4x3 out o4 (o5++[((rd (0,0,0,0,()) f4 i).1,(rd (0,0,0,0,()) f4 i).2.1,(rd (0,0,0,0,()) f4 i).2.2.1,(rd (0,0,0,0,()) f4 i).2.2.2.1,())])else none else none)else none) (if 0≤i∧i<(f4.length:Int)then if o5.length+[((rd (0,0,0,0,()) f4 i).1,(rd (0,0,0,0,()) f4 i).2.1,(rd (0,0,0,0,()) f4 i).2.2.1,(rd (0,0,0,0,()) f4 i).2.2.2.1,())].length≤maxRow then nx0 done (af (i+1)) f f3 f4 e e5 e6 e7 e8 t4x t4x2 t4x3 out o4 (o5++[((rd (0,0,0,0,()) f4 i).1,(rd (0,0,0,0,()) f4 i).2.1,(rd (0,0,0,0,()) f4 i).2.2.1,(rd (0,0,0,0,()) f4 i).2.2.2.1,())])else none else none)) (ex0 done e e5 e6 e7 e8 t4x t4x2 t4x3 out o4 o5)
def A0(f0:Int)(f1 f2:List U8)(e0 e1 e2 e3 e4:Int)(done:Bool)(e e5 e6 e7 e8 t4x t4x2 t4x3 out:Int)(o3 o4:List U8):Option (U2):=cond (!done) (if o4.length+[(e5,e6,e7,e8,())].length≤maxRow then some (out,o3,(o4++[(e5,e6,e7,e8,())]),0,0,())else none) (some (out,o3,o4,0,0,()))
def T(lo0:ug (U2))(f0:Int)(f1 f2:List U8)(e0 e1 e2 e3 e4:Int):Option (U2):=(qC (f0,f1,f2,e1,())).bind fun y1=>cond (decide (y1.1≥0)) ((jy (5,())).bind fun y2=>some (y2.1,y2.2.1,y2.2.2.1,y2.2.2.2.1,y2.2.2.2.2.1,())) (cond (e2 != 0) ((jR (f0,f1,f2,e2,())).bind fun y3=>cond (decide (y3.1<0)) ((jy (4,())).bind fun y4=>some (y4.1,y4.2.1,y4.2.2.1,y4.2.2.2.1,y4.2.2.2.2.1,())) (cond (decide ((f2.length:Int)≥60)) ((jy (6,())).bind fun y5=>some (y5.1,y5.2.1,y5.2.2.1,y5.2.2.2.1,y5.2.2.2.2.1,())) ((pK (f0,f1,f2,())).bind fun y6=>lo0 false 0 f0 f1 f2 e0 e1 e2 e3 e4 0 0 0 y6.1 y6.2.1 ([]:List U8)))) (cond (decide ((f2.length:Int)≥60)) ((jy (6,())).bind fun y7=>some (y7.1,y7.2.1,y7.2.2.1,y7.2.2.2.1,y7.2.2.2.2.1,())) ((pK (f0,f1,f2,())).bind fun y8=>lo0 false 0 f0 f1 f2 e0 e1 e2 e3 e4 0 0 0 y8.1 y8.2.1 ([]:List U8))))
def K0{R:Type}(k0:Nat)(K:au R):au R:=bD 0 (bG (fun env ob=>zrc k0 [1,1,1,1,1,1,1,1] env ob (K)) (K))
def L0:ug R:=fun done i f f3 f4 e e5 e6 e7 e8 t4x t4x2 t4x3 out o4 o5=>iter 0 [2,3,4,5,6,7] [3,4,5,6] (zrc k0 [1,1,1,1,1,1,1,0,1,0,0]) k [(2,.ptr 0 0 0 0),(3,.ptr 1 0 0 0),(4,.ptr 2 0 0 0),(5,.ptr 3 0 0 0),(6,.bool done),(7,.int .i64 i)] [.box [.int .i64 f,.sl ay f3,.sl ay f4],.box [.int .i64 e,.int .i64 e5,.int .i64 e6,.int .i64 e7,.int .i64 e8],.box [.int .i64 t4x,.nils,.nils,.int .i64 t4x2,.int .i64 t4x3],.box [.int .i64 out,.own 4,.own 5],.arr ay o4,.arr ay o5] K
def H0:zk R:=fun done e e5 e6 e7 e8 t4x t4x2 t4x3 out o3 o4=>K (.exit 0) [(3,.ptr 0 0 0 0),(4,.ptr 1 0 0 0),(5,.ptr 2 0 0 0),(6,.bool done)] [.box [.int .i64 e,.int .i64 e5,.int .i64 e6,.int .i64 e7,.int .i64 e8],.box [.int .i64 t4x,.nils,.nils,.int .i64 t4x2,.int .i64 t4x3],.box [.int .i64 out,.own 3,.own 4],.arr ay o3,.arr ay o4]
theorem zs0:L0 k0 (k+1) K=R0 (L0 k0 k K) (H0 K):=by kernel_rfl
def G0{R:Type}(k0:Nat)(hx0:zk R):Nat→ug R
 |0=>fun _ _ _ _ _ _ _ _ _ _ _ _ _ _ _ _=>none
 |k+1=>R0 (G0 k0 hx0 k) hx0
theorem aP:∀ k,L0 k0 k K=G0 k0 (H0 K) k:=bK rfl fun k ih=>by rw[zs0,G0];(try simp only[ih]);try rfl
variable (f0:Int) (f1 f2:List U8) (e0 e1 e2 e3 e4:Int)
def aB:au (U2):=dh Tryz.prog [.cell 4 81] Ky JL (f0,f1,f2,e0,e1,e2,e3,e4,())
theorem aY:H0 (K0 k0 (aB f0 f1 f2 e0 e1 e2 e3 e4))=A0 f0 f1 f2 e0 e1 e2 e3 e4:=by kernel_rfl
def FF:Option (U2):=T (G0 k0 (A0 f0 f1 f2 e0 e1 e2 e3 e4) k0) f0 f1 f2 e0 e1 e2 e3 e4
theorem aX:di Tryz.prog (aU dA) aC k0 89 Ky JL [] (f0,f1,f2,e0,e1,e2,e3,e4,())=FF k0 f0 f1 f2 e0 e1 e2 e3 e4:=Eq.trans (b:=T (L0 k0 k0 (K0 k0 (aB f0 f1 f2 e0 e1 e2 e3 e4))) f0 f1 f2 e0 e1 e2 e3 e4) (by kernel_rfl) (by rw[FF];(try simp only[aP,aY]);try rfl)
def _root_.Go.Rv.DV:=fun x:Int×(List U8)×(List U8)×U6=>FF (300+x.2.1.length+x.2.2.1.length) x.1 x.2.1 x.2.2.1 x.2.2.2.1 x.2.2.2.2.1 x.2.2.2.2.2.1 x.2.2.2.2.2.2.1 x.2.2.2.2.2.2.2.1
abbrev _root_.Go.Rv.abH:aG:=⟨Ky,JL,DV,[]⟩
theorem _root_.Go.Rv.aa9:aF Dr Tryz.prog 89 abH:=dH mix (.c Dl (.c wS (.c Du (.c zY .nil)))) (by kernel_rfl) fun x=>⟨aC,_,aX _ _ _ _ _ _ _ _ _⟩
end kS
abbrev JX:Is:=[.v true fZ,.v true dM]
abbrev Jr:Os:=[(true,BX)]
namespace ja
def dA:Tb:=[(65,[],wU),(87,[],DJ),(88,[],DT)]
def aC:Nat→List Nat×List Nat:=fun k=>if k=13 then([2,3,4,5,6,7],[3,4,5,6])else([],[])
def zrc{R:Type}(k0:Nat)(p:List Nat):Env→List Ob→au R→Option R:=bJ Tryz.prog (aU dA) 102 0 aC k0 (cu p (dG Tryz.prog 90))
def R0{R:Type}(nx0:ug R)(ex0:zk R)(done:Bool)(i f:Int)(f3 f4:List U8)(e e5 e6 e7 e8 t4x t4x2 t4x3 out:Int)(o4 o5:List U8):Option R:=cond (decide (i<(f3.length:Int))) (cond (!done) (if 0≤i∧i<(f3.length:Int)then cond (decide ((rd (0,0,0,0,()) f3 i).1>e5)) (if o4.length+[(e5,e6,e7,e8,())].length≤maxRow then if 0≤i∧i<(f3.length:Int)then if(o4++[(e5,e6,e7,e8,())]).length+[((rd (0,0,0,0,()) f3 i).1,(rd (0,0,0,0,()) f3 i).2.1,(rd (0,0,0,0,()) f3 i).2.2.1,(rd (0,0,0,0,()) f3 i).2.2.2.1,())].length≤maxRow then nx0 true (af (i+1)) f f3 f4 e e5 e6 e7 e8 t4x t4x2 t4x3 out ((o4++[(e5,e6,e7,e8,())])++[((rd (0,0,0,0,()) f3 i).1,(rd (0,0,0,0,()) f3 i).2.1,(rd (0,0,0,0,()) f3 i).2.2.1,(rd (0,0,0,0,()) f3 i).2.2.2.1,())]) o5 else none else none else none) (if 0≤i∧i<(f3.length:Int)then if o4.length+[((rd (0,0,0,0,()) f3 i).1,(rd (0,0,0,0,()) f3 i).2.1,(rd (0,0,0,0,()) f3 i).2.2.1,(rd (0,0,0,0,()) f3 i).2.2.2.1,())].length≤maxRow then nx0 done (af (i+1)) f f3 f4 e e5 e6 e7 e8 t4x t4x2 t4x3 out (o4++[((rd (0,0,0,0,()) f3 i).1,(rd (0,0,0,0,()) f3 i).2.1,(rd (0,0,0,0,()) f3 i).2.2.1,(rd (0,0,0,0,()) f3 i).2.2.2.1,())]) o5 else none else none)else none) (if 0≤i∧i<(f3.length:Int)then if o4.length+[((rd (0,0,0,0,()) f3 i).1,(rd (0,0,0,0,()) f3 i).2.1,(rd (0,0,0,0,()) f3 i).2.2.1,(rd (0,0,0,0,()) f3 i).2.2.2.1,())].length≤maxRow then nx0 done (af (i+1)) f f3 f4 e e5 e6 e7 e8 t4x t4x2 t4x3 out (o4++[((rd (0,0,0,0,()) f3 i).1,(rd (0,0,0,0,()) f3 i).2.1,(rd (0,0,0,0,()) f3 i).2.2.1,(rd (0,0,0,0,()) f3 i).2.2.2.1,())]) o5 else none else none)) (ex0 done e e5 e6 e7 e8 t4x t4x2 t4x3 out o4 o5)
def A0(f0:Int)(f1 f2:List U8)(e0 e1 e2 e3 e4:Int)(done:Bool)(e e5 e6 e7 e8 t4x t4x2 t4x3 out:Int)(o3 o4:List U8):Option (U2):=cond (!done) (if o3.length+[(e5,e6,e7,e8,())].length≤maxRow then some (out,(o3++[(e5,e6,e7,e8,())]),o4,0,0,())else none) (some (out,o3,o4,0,0,()))
def T(lo0:ug (U2))(f0:Int)(f1 f2:List U8)(e0 e1 e2 e3 e4:Int):Option (U2):=cond (decide (e2≥e1)) ((jy (1,())).bind fun y1=>some (y1.1,y1.2.1,y1.2.2.1,y1.2.2.2.1,y1.2.2.2.2.1,())) ((jR (f0,f1,f2,e1,())).bind fun y2=>cond (decide (y2.1≥0)) ((jy (5,())).bind fun y3=>some (y3.1,y3.2.1,y3.2.2.1,y3.2.2.2.1,y3.2.2.2.2.1,())) (cond (e2 != 0) ((jR (f0,f1,f2,e2,())).bind fun y4=>cond (decide (y4.1<0)) ((jy (4,())).bind fun y5=>some (y5.1,y5.2.1,y5.2.2.1,y5.2.2.2.1,y5.2.2.2.2.1,())) (cond (decide ((f1.length:Int)≥30)) ((jy (6,())).bind fun y6=>some (y6.1,y6.2.1,y6.2.2.1,y6.2.2.2.1,y6.2.2.2.2.1,())) ((pK (f0,f1,f2,())).bind fun y7=>lo0 false 0 f0 f1 f2 e0 e1 e2 e3 e4 0 0 0 y7.1 ([]:List U8) y7.2.2.1))) (cond (decide ((f1.length:Int)≥30)) ((jy (6,())).bind fun y8=>some (y8.1,y8.2.1,y8.2.2.1,y8.2.2.2.1,y8.2.2.2.2.1,())) ((pK (f0,f1,f2,())).bind fun y9=>lo0 false 0 f0 f1 f2 e0 e1 e2 e3 e4 0 0 0 y9.1 ([]:List U8) y9.2.2.1))))
def K0{R:Type}(k0:Nat)(K:au R):au R:=bD 0 (bG (fun env ob=>zrc k0 [1,1,1,1,1,1,1,1,1] env ob (K)) (K))
def L0:ug R:=fun done i f f3 f4 e e5 e6 e7 e8 t4x t4x2 t4x3 out o4 o5=>iter 0 [2,3,4,5,6,7] [3,4,5,6] (zrc k0 [1,1,1,1,1,1,1,1,0,1,0,0]) k [(2,.ptr 0 0 0 0),(3,.ptr 1 0 0 0),(4,.ptr 2 0 0 0),(5,.ptr 3 0 0 0),(6,.bool done),(7,.int .i64 i)] [.box [.int .i64 f,.sl ay f3,.sl ay f4],.box [.int .i64 e,.int .i64 e5,.int .i64 e6,.int .i64 e7,.int .i64 e8],.box [.int .i64 t4x,.nils,.nils,.int .i64 t4x2,.int .i64 t4x3],.box [.int .i64 out,.own 4,.own 5],.arr ay o4,.arr ay o5] K
def H0:zk R:=fun done e e5 e6 e7 e8 t4x t4x2 t4x3 out o3 o4=>K (.exit 0) [(3,.ptr 0 0 0 0),(4,.ptr 1 0 0 0),(5,.ptr 2 0 0 0),(6,.bool done)] [.box [.int .i64 e,.int .i64 e5,.int .i64 e6,.int .i64 e7,.int .i64 e8],.box [.int .i64 t4x,.nils,.nils,.int .i64 t4x2,.int .i64 t4x3],.box [.int .i64 out,.own 3,.own 4],.arr ay o3,.arr ay o4]
theorem zs0:L0 k0 (k+1) K=R0 (L0 k0 k K) (H0 K):=by kernel_rfl
def G0{R:Type}(k0:Nat)(hx0:zk R):Nat→ug R
 |0=>fun _ _ _ _ _ _ _ _ _ _ _ _ _ _ _ _=>none
 |k+1=>R0 (G0 k0 hx0 k) hx0
theorem aP:∀ k,L0 k0 k K=G0 k0 (H0 K) k:=bK rfl fun k ih=>by rw[zs0,G0];(try simp only[ih]);try rfl
variable (f0:Int) (f1 f2:List U8) (e0 e1 e2 e3 e4:Int)
def aB:au (U2):=dh Tryz.prog [.cell 4 81] JX Jr (f0,f1,f2,e0,e1,e2,e3,e4,())
theorem aY:H0 (K0 k0 (aB f0 f1 f2 e0 e1 e2 e3 e4))=A0 f0 f1 f2 e0 e1 e2 e3 e4:=by kernel_rfl
def FF:Option (U2):=T (G0 k0 (A0 f0 f1 f2 e0 e1 e2 e3 e4) k0) f0 f1 f2 e0 e1 e2 e3 e4
theorem aX:di Tryz.prog (aU dA) aC k0 90 JX Jr [] (f0,f1,f2,e0,e1,e2,e3,e4,())=FF k0 f0 f1 f2 e0 e1 e2 e3 e4:=Eq.trans (b:=T (L0 k0 k0 (K0 k0 (aB f0 f1 f2 e0 e1 e2 e3 e4))) f0 f1 f2 e0 e1 e2 e3 e4) (by kernel_rfl) (by rw[FF];(try simp only[aP,aY]);try rfl)
def _root_.Go.Rv.uI:=fun x:Int×(List U8)×(List U8)×U6=>FF (300+x.2.1.length+x.2.2.1.length) x.1 x.2.1 x.2.2.1 x.2.2.2.1 x.2.2.2.2.1 x.2.2.2.2.2.1 x.2.2.2.2.2.2.1 x.2.2.2.2.2.2.2.1
abbrev _root_.Go.Rv.abp:aG:=⟨JX,Jr,uI,[]⟩
theorem _root_.Go.Rv.aaT:aF Dr Tryz.prog 90 abp:=dH mix (.c wS (.c Du (.c zY .nil))) (by kernel_rfl) fun x=>⟨aC,_,aX _ _ _ _ _ _ _ _ _⟩
end ja
abbrev Kz:Is:=[.v true fZ,.v true dM]
abbrev JM:Os:=[(true,BX)]
namespace jb
def dA:Tb:=[(65,[],wU),(87,[],DJ),(88,[],DT)]
def aC:Nat→List Nat×List Nat:=fun k=>if k=5 then([2,3,4,5,6],[2,3,4,5])else if k=10 then([2,3,4,5,7],[2,4,5])else([],[])
def zrc{R:Type}(k0:Nat)(p:List Nat):Env→List Ob→au R→Option R:=bJ Tryz.prog (aU dA) 67 0 aC k0 (cu p (dG Tryz.prog 91))
def R0{R:Type}(nx0:uf R)(ex0:Qh R)(ex1:Qg R)(atx i f:Int)(f3 f4:List U8)(e e5 e6 e7 e8 t4x t4x2 t4x3:Int):Option R:=cond (decide (i<(f3.length:Int))) (if 0≤i∧i<(f3.length:Int)then cond ((rd (0,0,0,0,()) f3 i).2.1==e5) ((jy (9,())).bind fun y1=>ex0 atx f f3 f4 e e5 e6 e7 e8 y1.1 y1.2.2.2.1 y1.2.2.2.2.1 y1.2.1 y1.2.2.1) (nx0 atx (af (i+1)) f f3 f4 e e5 e6 e7 e8 t4x t4x2 t4x3)else none) (ex1 atx f f3 f4 e e5 e6 e7 e8 t4x t4x2 t4x3)
def R1{R:Type}(nx1:uf R)(ex2:Qe R)(ex3:Qd R)(atx i f:Int)(f3 f4:List U8)(e e5 e6 e7 e8 t4x t4x2 t4x3:Int):Option R:=cond (decide (i<(f4.length:Int))) (if 0≤i∧i<(f4.length:Int)then cond ((rd (0,0,0,0,()) f4 i).2.1==e5) ((jy (9,())).bind fun y1=>ex2 atx f f3 f4 y1.1 y1.2.2.2.1 y1.2.2.2.2.1 y1.2.1 y1.2.2.1) (nx1 atx (af (i+1)) f f3 f4 e e5 e6 e7 e8 t4x t4x2 t4x3)else none) (ex3 atx f f3 f4 t4x t4x2 t4x3)
def A0(f0:Int)(f1 f2:List U8)(e0 e1 e2 e3 e4:Int)(atx f:Int)(f3 f4:List U8)(e e5 e6 e7 e8 t4x t4x2 t4x3:Int)(o3 o4:List U8):Option (U2):=some (t4x,o3,o4,t4x2,t4x3,())
def A1(lo1:uf (U2))(f0:Int)(f1 f2:List U8)(e0 e1 e2 e3 e4:Int)(atx f:Int)(f3 f4:List U8)(e e5 e6 e7 e8 t4x t4x2 t4x3:Int):Option (U2):=lo1 atx 0 f f3 f4 e e5 e6 e7 e8 t4x t4x2 t4x3
def A2(f0:Int)(f1 f2:List U8)(e0 e1 e2 e3 e4:Int)(atx f:Int)(f3 f4:List U8)(t4x t4x2 t4x3:Int)(o2 o3:List U8):Option (U2):=some (t4x,o2,o3,t4x2,t4x3,())
def A3(f0:Int)(f1 f2:List U8)(e0 e1 e2 e3 e4:Int)(atx f:Int)(f3 f4:List U8)(t4x t4x2 t4x3:Int):Option (U2):=(pK (f,f3,f4,())).bind fun y1=>if 0≤atx∧atx≤(f3.length:Int)then if([]:List U8).length+(f3.take (atx.toNat)).length≤maxRow then if 0≤(af (atx+1))∧(af (atx+1))≤(f3.length:Int)then if(([]:List U8)++(f3.take (atx.toNat))).length+(f3.drop ((af (atx+1)).toNat)).length≤maxRow then some (y1.1,((([]:List U8)++(f3.take (atx.toNat)))++(f3.drop ((af (atx+1)).toNat))),y1.2.2.1,0,0,())else none else none else none else none
def T(lo0:uf (U2))(f0:Int)(f1 f2:List U8)(e0 e1 e2 e3 e4:Int):Option (U2):=(jR (f0,f1,f2,e1,())).bind fun y1=>cond (decide (y1.1<0)) ((jy (4,())).bind fun y2=>some (y2.1,y2.2.1,y2.2.2.1,y2.2.2.2.1,y2.2.2.2.2.1,())) (lo0 y1.1 0 f0 f1 f2 e0 e1 e2 e3 e4 0 0 0)
def K0{R:Type}(k0:Nat)(K:au R):au R:=bD 0 (bG (fun env ob=>zrc k0 [1,1,1,1] env ob (K)) (K))
def K1{R:Type}(k0:Nat)(K:au R):au R:=bD 2 (bG (fun env ob=>zrc k0 [1,1,1,1,1] env ob (K)) (K))
def L0:uf R:=fun atx i f f3 f4 e e5 e6 e7 e8 t4x t4x2 t4x3=>iter 0 [2,3,4,5,6] [2,3,4,5] (zrc k0 [1,1,1,0,1,0,0]) k [(2,.ptr 0 0 0 0),(3,.ptr 1 0 0 0),(4,.ptr 2 0 0 0),(5,.int .i64 atx),(6,.int .i64 i)] [.box [.int .i64 f,.sl ay f3,.sl ay f4],.box [.int .i64 e,.int .i64 e5,.int .i64 e6,.int .i64 e7,.int .i64 e8],.box [.int .i64 t4x,.nils,.nils,.int .i64 t4x2,.int .i64 t4x3]] K
def L1:uf R:=fun atx i f f3 f4 e e5 e6 e7 e8 t4x t4x2 t4x3=>iter 0 [2,3,4,5,7] [2,4,5] (zrc k0 [1,1,1,1,0,1,0,0]) k [(2,.ptr 0 0 0 0),(3,.ptr 1 0 0 0),(4,.ptr 2 0 0 0),(5,.int .i64 atx),(7,.int .i64 i)] [.box [.int .i64 f,.sl ay f3,.sl ay f4],.box [.int .i64 e,.int .i64 e5,.int .i64 e6,.int .i64 e7,.int .i64 e8],.box [.int .i64 t4x,.nils,.nils,.int .i64 t4x2,.int .i64 t4x3]] K
def H0:Qh R:=fun atx f f3 f4 e e5 e6 e7 e8 t4x t4x2 t4x3 o3 o4=>K .ret [(2,.ptr 0 0 0 0),(3,.ptr 1 0 0 0),(4,.ptr 2 0 0 0),(5,.int .i64 atx)] [.box [.int .i64 f,.sl ay f3,.sl ay f4],.box [.int .i64 e,.int .i64 e5,.int .i64 e6,.int .i64 e7,.int .i64 e8],.box [.int .i64 t4x,.own 3,.own 4,.int .i64 t4x2,.int .i64 t4x3],.arr ay o3,.arr ay o4]
def H1:Qg R:=fun atx f f3 f4 e e5 e6 e7 e8 t4x t4x2 t4x3=>K (.exit 0) [(2,.ptr 0 0 0 0),(3,.ptr 1 0 0 0),(4,.ptr 2 0 0 0),(5,.int .i64 atx)] [.box [.int .i64 f,.sl ay f3,.sl ay f4],.box [.int .i64 e,.int .i64 e5,.int .i64 e6,.int .i64 e7,.int .i64 e8],.box [.int .i64 t4x,.nils,.nils,.int .i64 t4x2,.int .i64 t4x3]]
def H2:Qe R:=fun atx f f3 f4 t4x t4x2 t4x3 o2 o3=>K .ret [(2,.ptr 0 0 0 0),(4,.ptr 1 0 0 0),(5,.int .i64 atx)] [.box [.int .i64 f,.sl ay f3,.sl ay f4],.box [.int .i64 t4x,.own 2,.own 3,.int .i64 t4x2,.int .i64 t4x3],.arr ay o2,.arr ay o3]
def H3:Qd R:=fun atx f f3 f4 t4x t4x2 t4x3=>K (.exit 2) [(2,.ptr 0 0 0 0),(4,.ptr 1 0 0 0),(5,.int .i64 atx)] [.box [.int .i64 f,.sl ay f3,.sl ay f4],.box [.int .i64 t4x,.nils,.nils,.int .i64 t4x2,.int .i64 t4x3]]
theorem zs0:L0 k0 (k+1) K=R0 (L0 k0 k K) (H0 K) (H1 K):=by kernel_rfl
theorem zs1:L1 k0 (k+1) K=R1 (L1 k0 k K) (H2 K) (H3 K):=by kernel_rfl
def G0{R:Type}(k0:Nat)(hx0:Qh R)(hx1:Qg R):Nat→uf R
 |0=>fun _ _ _ _ _ _ _ _ _ _ _ _ _=>none
 |k+1=>R0 (G0 k0 hx0 hx1 k) hx0 hx1
theorem aP:∀ k,L0 k0 k K=G0 k0 (H0 K) (H1 K) k:=bK rfl fun k ih=>by rw[zs0,G0];(try simp only[ih]);try rfl
def G1{R:Type}(k0:Nat)(hx2:Qe R)(hx3:Qd R):Nat→uf R
 |0=>fun _ _ _ _ _ _ _ _ _ _ _ _ _=>none
 |k+1=>R1 (G1 k0 hx2 hx3 k) hx2 hx3
theorem dJ:∀ k,L1 k0 k K=G1 k0 (H2 K) (H3 K) k:=bK rfl fun k ih=>by rw[zs1,G1];(try simp only[ih,aP]);try rfl
variable (f0:Int) (f1 f2:List U8) (e0 e1 e2 e3 e4:Int)
def aB:au (U2):=dh Tryz.prog [.cell 4 81] Kz JM (f0,f1,f2,e0,e1,e2,e3,e4,())
theorem aY:H0 (K0 k0 (aB f0 f1 f2 e0 e1 e2 e3 e4))=A0 f0 f1 f2 e0 e1 e2 e3 e4:=by kernel_rfl
theorem cZ:H1 (K0 k0 (aB f0 f1 f2 e0 e1 e2 e3 e4))=A1 (L1 k0 k0 (K1 k0 (aB f0 f1 f2 e0 e1 e2 e3 e4))) f0 f1 f2 e0 e1 e2 e3 e4:=by kernel_rfl
theorem jY:H2 (K1 k0 (aB f0 f1 f2 e0 e1 e2 e3 e4))=A2 f0 f1 f2 e0 e1 e2 e3 e4:=by kernel_rfl
theorem mV:H3 (K1 k0 (aB f0 f1 f2 e0 e1 e2 e3 e4))=A3 f0 f1 f2 e0 e1 e2 e3 e4:=by kernel_rfl
def FF:Option (U2):=T (G0 k0 (A0 f0 f1 f2 e0 e1 e2 e3 e4) (A1 (G1 k0 (A2 f0 f1 f2 e0 e1 e2 e3 e4) (A3 f0 f1 f2 e0 e1 e2 e3 e4) k0) f0 f1 f2 e0 e1 e2 e3 e4) k0) f0 f1 f2 e0 e1 e2 e3 e4
theorem aX:di Tryz.prog (aU dA) aC k0 91 Kz JM [] (f0,f1,f2,e0,e1,e2,e3,e4,())=FF k0 f0 f1 f2 e0 e1 e2 e3 e4:=Eq.trans (b:=T (L0 k0 k0 (K0 k0 (aB f0 f1 f2 e0 e1 e2 e3 e4))) f0 f1 f2 e0 e1 e2 e3 e4) (by kernel_rfl) (by rw[FF];(try simp only[aP,dJ,aY,cZ,jY,mV]);try rfl)
def _root_.Go.Rv.wZ:=fun x:Int×(List U8)×(List U8)×U6=>FF (300+x.2.1.length+x.2.2.1.length) x.1 x.2.1 x.2.2.1 x.2.2.2.1 x.2.2.2.2.1 x.2.2.2.2.2.1 x.2.2.2.2.2.2.1 x.2.2.2.2.2.2.2.1
abbrev _root_.Go.Rv.abI:aG:=⟨Kz,JM,wZ,[]⟩
theorem _root_.Go.Rv.abb:aF Dr Tryz.prog 91 abI:=dH mix (.c wS (.c Du (.c zY .nil))) (by kernel_rfl) fun x=>⟨aC,_,aX _ _ _ _ _ _ _ _ _⟩
end jb
def xu.T(f0:Int)(f1 f2:List U8)(e0 e1 e2 e3 e4:Int):Option (U2):=(zQ (f0,f1,f2,())).bind fun y1=>cond (!y1.1) ((jy (1,())).bind fun y2=>some (y2.1,y2.2.1,y2.2.2.1,y2.2.2.2.1,y2.2.2.2.2.1,())) ((jQ (e0,e1,e2,e3,e4,())).bind fun y3=>cond (!y3.1) ((jy (1,())).bind fun y4=>some (y4.1,y4.2.1,y4.2.2.1,y4.2.2.2.1,y4.2.2.2.2.1,())) ((pK (f0,f1,f2,())).bind fun y5=>cond (e0==1) ((DV (f0,f1,f2,e0,e1,e2,e3,e4,())).bind fun y6=>some (y6.1,y6.2.1,y6.2.2.1,y6.2.2.2.1,y6.2.2.2.2.1,())) (cond (e0==6) ((uI (f0,f1,f2,e0,e1,e2,e3,e4,())).bind fun y7=>some (y7.1,y7.2.1,y7.2.2.1,y7.2.2.2.1,y7.2.2.2.2.1,())) (cond (e0==7) ((wZ (f0,f1,f2,e0,e1,e2,e3,e4,())).bind fun y8=>some (y8.1,y8.2.1,y8.2.2.1,y8.2.2.2.1,y8.2.2.2.2.1,())) (cond (e0==8) (cond (e1==0) (some (e3,y5.2.1,y5.2.2.1,0,0,())) ((jR (f0,f1,f2,e1,())).bind fun y9=>cond (decide (y9.1<0)) ((jy (4,())).bind fun y10=>some (y10.1,y10.2.1,y10.2.2.1,y10.2.2.2.1,y10.2.2.2.2.1,())) (if 0≤y9.1∧y9.1<(y5.2.1.length:Int)then some (y5.1,(y5.2.1.set ((y9.1).toNat) ((y5.2.1.getD ((y9.1).toNat) (0,0,0,0,())).1,(y5.2.1.getD ((y9.1).toNat) (0,0,0,0,())).2.1,e3,(y5.2.1.getD ((y9.1).toNat) (0,0,0,0,())).2.2.2.1,())),y5.2.2.1,0,0,())else none))) ((qC (f0,f1,f2,e1,())).bind fun y11=>cond (decide (y11.1<0)) ((jy (4,())).bind fun y12=>some (y12.1,y12.2.1,y12.2.2.1,y12.2.2.2.1,y12.2.2.2.2.1,())) (cond (e2 != 0) ((jR (f0,f1,f2,e2,())).bind fun y13=>cond (decide (y13.1<0)) ((jy (4,())).bind fun y14=>some (y14.1,y14.2.1,y14.2.2.1,y14.2.2.2.1,y14.2.2.2.2.1,())) (cond (e0==2) (if 0≤y11.1∧y11.1≤(f2.length:Int)then if([]:List U8).length+(f2.take (y11.1.toNat)).length≤maxRow then if 0≤(af (y11.1+1))∧(af (y11.1+1))≤(f2.length:Int)then if(([]:List U8)++(f2.take (y11.1.toNat))).length+(f2.drop ((af (y11.1+1)).toNat)).length≤maxRow then some (y5.1,y5.2.1,((([]:List U8)++(f2.take (y11.1.toNat)))++(f2.drop ((af (y11.1+1)).toNat))),0,0,())else none else none else none else none) (cond (e0==3) (if 0≤y11.1∧y11.1<(y5.2.2.1.length:Int)then some (y5.1,y5.2.1,(y5.2.2.1.set ((y11.1).toNat) ((y5.2.2.1.getD ((y11.1).toNat) (0,0,0,0,())).1,(y5.2.2.1.getD ((y11.1).toNat) (0,0,0,0,())).2.1,e3,(y5.2.2.1.getD ((y11.1).toNat) (0,0,0,0,())).2.2.2.1,())),0,0,())else none) (cond (e0==4) (if 0≤y11.1∧y11.1<(y5.2.2.1.length:Int)then some (y5.1,y5.2.1,(y5.2.2.1.set ((y11.1).toNat) ((y5.2.2.1.getD ((y11.1).toNat) (0,0,0,0,())).1,(y5.2.2.1.getD ((y11.1).toNat) (0,0,0,0,())).2.1,(y5.2.2.1.getD ((y11.1).toNat) (0,0,0,0,())).2.2.1,e3,())),0,0,())else none) (if 0≤y11.1∧y11.1<(y5.2.2.1.length:Int)then some (y5.1,y5.2.1,(y5.2.2.1.set ((y11.1).toNat) ((y5.2.2.1.getD ((y11.1).toNat) (0,0,0,0,())).1,e2,(y5.2.2.1.getD ((y11.1).toNat) (0,0,0,0,())).2.2.1,(y5.2.2.1.getD ((y11.1).toNat) (0,0,0,0,())).2.2.2.1,())),0,0,())else none))))) (cond (e0==2) (if 0≤y11.1∧y11.1≤(f2.length:Int)then if([]:List U8).length+(f2.take (y11.1.toNat)).length≤maxRow then if 0≤(af (y11.1+1))∧(af (y11.1+1))≤(f2.length:Int)then if(([]:List U8)++(f2.take (y11.1.toNat))).length+(f2.drop ((af (y11.1+1)).toNat)).length≤maxRow then some (y5.1,y5.2.1,((([]:List U8)++(f2.take (y11.1.toNat)))++(f2.drop ((af (y11.1+1)).toNat))),0,0,())else none else none else none else none) (cond (e0==3) (if 0≤y11.1∧y11.1<(y5.2.2.1.length:Int)then some (y5.1,y5.2.1,(y5.2.2.1.set ((y11.1).toNat) ((y5.2.2.1.getD ((y11.1).toNat) (0,0,0,0,())).1,(y5.2.2.1.getD ((y11.1).toNat) (0,0,0,0,())).2.1,e3,(y5.2.2.1.getD ((y11.1).toNat) (0,0,0,0,())).2.2.2.1,())),0,0,())else none) (cond (e0==4) (if 0≤y11.1∧y11.1<(y5.2.2.1.length:Int)then some (y5.1,y5.2.1,(y5.2.2.1.set ((y11.1).toNat) ((y5.2.2.1.getD ((y11.1).toNat) (0,0,0,0,())).1,(y5.2.2.1.getD ((y11.1).toNat) (0,0,0,0,())).2.1,(y5.2.2.1.getD ((y11.1).toNat) (0,0,0,0,())).2.2.1,e3,())),0,0,())else none) (if 0≤y11.1∧y11.1<(y5.2.2.1.length:Int)then some (y5.1,y5.2.1,(y5.2.2.1.set ((y11.1).toNat) ((y5.2.2.1.getD ((y11.1).toNat) (0,0,0,0,())).1,e2,(y5.2.2.1.getD ((y11.1).toNat) (0,0,0,0,())).2.2.1,(y5.2.2.1.getD ((y11.1).toNat) (0,0,0,0,())).2.2.2.1,())),0,0,())else none)))))))))))
def kC:=fun x:Int×(List U8)×(List U8)×U6=>xu.T x.1 x.2.1 x.2.2.1 x.2.2.2.1 x.2.2.2.2.1 x.2.2.2.2.2.1 x.2.2.2.2.2.2.1 x.2.2.2.2.2.2.2.1
abbrev Ll:aG:=⟨[.v true fZ,.v true dM],[(true,BX)],kC,[]⟩
theorem Ro:aF Dr Tryz.prog 40 Ll:=aZ mix (.c JV (.c Dl (.c wS (.c QY (.c Du (.c zY (.c aa9 (.c aaT (.c abb .nil))))))))) (by kernel_rfl) fun x=>by kernel_rfl
def TS.T(s0 s1 s2 s3:Int)(s4 s5:List U8)(s6:List U9):Option (U1):=(pK (s3,s4,s5,())).bind fun y1=>if([]:List U9).length+s6.length≤maxRow then some (s0,s1,s2,y1.1,y1.2.1,y1.2.2.1,(([]:List U9)++s6),())else none
def oz:=fun x:U1=>TS.T x.1 x.2.1 x.2.2.1 x.2.2.2.1 x.2.2.2.2.1 x.2.2.2.2.2.1 x.2.2.2.2.2.2.1
abbrev uJ:aG:=⟨[.v true fP],[(true,fP)],oz,[]⟩
theorem zX:aF Dr Tryz.prog 42 uJ:=aZ mix (.c zY .nil) (by kernel_rfl) fun x=>by kernel_rfl
def Mc.T(a b:Int):Option (Int×Unit):=cond (decide (a<b)) (some (a,())) (some (b,()))
def uP:=fun x:aO=>Mc.T x.1 x.2.1
abbrev D7:aG:=⟨[.v false [CT.int .i64],.v false [CT.int .i64]],[(false,[CT.int .i64])],uP,[]⟩
theorem SX:aF Dr Tryz.prog 83 D7:=aZ mix .nil (by kernel_rfl) fun x=>by kernel_rfl
abbrev JY:Is:=[.v true fZ]
abbrev Js:Os:=[(false,[CT.sl [CT.int .i64]])]
namespace gU
def aC:Nat→List Nat×List Nat:=fun k=>if k=3 then([1,3,4],[3])else if k=7 then([1,3,4,5,6],[1,3,4,5])else if k=12 then([1,3,4,5,7],[1,3,4,5])else([],[])
def zrc{R:Type}(k0:Nat)(p:List Nat):Env→List Ob→au R→Option R:=bJ Tryz.prog (aU [(83,[],D7)]) 88 0 aC k0 (cu p (dG Tryz.prog 148))
def R0{R:Type}(ex0:zi R)(lo1:tZ R)(i f:Int)(f3 f4:List U8)(out:List (Int×Unit)):Option R:=cond (decide (i≥0)) (lo1 i 0 (af (i+1)) f f3 f4 out) (ex0 out)
def R1{R:Type}(nx1:tZ R)(ex1:zh R)(i sum kx f:Int)(f3 f4:List U8)(out:List (Int×Unit)):Option R:=cond (decide (kx<(f3.length:Int))) (if 0≤kx∧kx<(f3.length:Int)then if 0≤i∧i<(f3.length:Int)then cond ((rd (0,0,0,0,()) f3 kx).2.1==(rd (0,0,0,0,()) f3 i).1) (if 0≤kx∧kx<(out.length:Int)then nx1 i (af (sum+(out.getD kx.toNat (0,())).1)) (af (kx+1)) f f3 f4 out else none) (nx1 i sum (af (kx+1)) f f3 f4 out)else none else none) (ex1 i sum f f3 f4 out)
def R2{R:Type}(nx2:tZ R)(ex2:zh R)(i sum kx f:Int)(f3 f4:List U8)(out:List (Int×Unit)):Option R:=cond (decide (kx<(f4.length:Int))) (if 0≤kx∧kx<(f4.length:Int)then if 0≤i∧i<(f3.length:Int)then cond ((rd (0,0,0,0,()) f4 kx).2.1==(rd (0,0,0,0,()) f3 i).1) (if 0≤kx∧kx<(f4.length:Int)then nx2 i (af (sum+(rd (0,0,0,0,()) f4 kx).2.2.1)) (af (kx+1)) f f3 f4 out else none) (nx2 i sum (af (kx+1)) f f3 f4 out)else none else none) (ex2 i sum f f3 f4 out)
def A0(f0:Int)(f1 f2:List U8)(out:List (Int×Unit)):Option ((List (Int×Unit))×Unit):=some (out,())
def A1{R:Type}(lo2:tZ R)(i sum f:Int)(f3 f4:List U8)(out:List (Int×Unit)):Option R:=lo2 i sum 0 f f3 f4 out
def A2{R:Type}(nx0:GN R)(i sum f:Int)(f3 f4:List U8)(out:List (Int×Unit)):Option R:=if 0≤i∧i<(f3.length:Int)then(uP (sum,(rd (0,0,0,0,()) f3 i).2.2.1,())).bind fun y1=>if 0≤i∧i<(out.length:Int)then nx0 (af (i - 1)) f f3 f4 (out.set i.toNat (y1.1,()))else none else none
def T(lo0:GN ((List (Int×Unit))×Unit))(f0:Int)(f1 f2:List U8):Option ((List (Int×Unit))×Unit):=if 0≤(f1.length:Int)∧(8:Int)*(f1.length:Int)≤281474976710656∧(f1.length:Int)≤9223372036854775807 then lo0 (af ((f1.length:Int) - 1)) f0 f1 f2 (List.replicate (((f1.length:Int):Int)).toNat (0,()))else none
def K0{R:Type}(k0:Nat)(K:au R):au R:=bD 0 (bG (fun env ob=>zrc k0 [1,1,1] env ob (K)) (K))
def K1{R:Type}(k0:Nat)(K:au R):au R:=bD 2 (bG (fun env ob=>zrc k0 [1,1,0,1,0,0,1,0,0,1,1] env ob (bD 1 (bG (fun env ob=>zrc k0 [1,1,0,1,0,0,1,1] env ob (K)) (K)))) (bD 1 (bG (fun env ob=>zrc k0 [1,1,0,1,0,0,1,1] env ob (K)) (K))))
def K2{R:Type}(k0:Nat)(K:au R):au R:=bD 4 (bG (fun env ob=>zrc k0 [1,1,0,1,0,0,1,0,0,1,1,1] env ob (bD 1 (bG (fun env ob=>zrc k0 [1,1,0,1,0,0,1,1] env ob (K)) (K)))) (bD 1 (bG (fun env ob=>zrc k0 [1,1,0,1,0,0,1,1] env ob (K)) (K))))
def P0:au R:=vU 0 [1,3,4] [3] (fun env ob=>iter 0 [1,3,4] [3] (zrc k0 [1,1,0,1,0,0]) k env ob K) K
def L0:GN R:=fun i f f3 f4 out=>iter 0 [1,3,4] [3] (zrc k0 [1,1,0,1,0,0]) k [(1,.ptr 0 0 0 0),(3,.own 1),(4,.int .i64 i)] [.box [.int .i64 f,.sl ay f3,.sl ay f4],.arr [CT.int .i64] out] K
def L1:tZ R:=fun i sum kx f f3 f4 out=>iter 0 [1,3,4,5,6] [1,3,4,5] (zrc k0 [1,1,0,1,0,0,1,0,0,1,0,1,0,0]) k [(1,.ptr 0 0 0 0),(3,.own 1),(4,.int .i64 i),(5,.int .i64 sum),(6,.int .i64 kx)] [.box [.int .i64 f,.sl ay f3,.sl ay f4],.arr [CT.int .i64] out] K
def L2:tZ R:=fun i sum kx f f3 f4 out=>iter 0 [1,3,4,5,7] [1,3,4,5] (zrc k0 [1,1,0,1,0,0,1,0,0,1,1,0,1,0,0]) k [(1,.ptr 0 0 0 0),(3,.own 1),(4,.int .i64 i),(5,.int .i64 sum),(7,.int .i64 kx)] [.box [.int .i64 f,.sl ay f3,.sl ay f4],.arr [CT.int .i64] out] K
def H0:zi R:=fun out=>K (.exit 0) [(3,.own 0)] [.arr [CT.int .i64] out]
def H1:zh R:=fun i sum f f3 f4 out=>K (.exit 2) [(1,.ptr 0 0 0 0),(3,.own 1),(4,.int .i64 i),(5,.int .i64 sum)] [.box [.int .i64 f,.sl ay f3,.sl ay f4],.arr [CT.int .i64] out]
def H2:zh R:=fun i sum f f3 f4 out=>K (.exit 4) [(1,.ptr 0 0 0 0),(3,.own 1),(4,.int .i64 i),(5,.int .i64 sum)] [.box [.int .i64 f,.sl ay f3,.sl ay f4],.arr [CT.int .i64] out]
theorem zs0:L0 k0 (k+1) K=R0 (H0 K) (L1 k0 k0 (K1 k0 (P0 k0 k K))):=by kernel_rfl
theorem zs1:L1 k0 (k+1) K=R1 (L1 k0 k K) (H1 K):=by kernel_rfl
theorem zs2:L2 k0 (k+1) K=R2 (L2 k0 k K) (H2 K):=by kernel_rfl
theorem cZ:H1 (K1 k0 (P0 k0 k K))=A1 (L2 k0 k0 (K2 k0 (P0 k0 k K))):=by kernel_rfl
theorem jY:H2 (K2 k0 (P0 k0 k K))=A2 (L0 k0 k K):=by kernel_rfl
def G1{R:Type}(k0:Nat)(hx1:zh R):Nat→tZ R
 |0=>fun _ _ _ _ _ _ _=>none
 |k+1=>R1 (G1 k0 hx1 k) hx1
theorem dJ:∀ k,L1 k0 k K=G1 k0 (H1 K) k:=bK rfl fun k ih=>by rw[zs1,G1];(try simp only[ih]);try rfl
def G2{R:Type}(k0:Nat)(hx2:zh R):Nat→tZ R
 |0=>fun _ _ _ _ _ _ _=>none
 |k+1=>R2 (G2 k0 hx2 k) hx2
theorem lF:∀ k,L2 k0 k K=G2 k0 (H2 K) k:=bK rfl fun k ih=>by rw[zs2,G2];(try simp only[ih,dJ]);try rfl
def G0{R:Type}(k0:Nat)(hx0:zi R):Nat→GN R
 |0=>fun _ _ _ _ _=>none
 |k+1=>R0 hx0 (G1 k0 (A1 (G2 k0 (A2 (G0 k0 hx0 k)) k0)) k0)
theorem aP:∀ k,L0 k0 k K=G0 k0 (H0 K) k:=bK rfl fun k ih=>by rw[zs0,G0];(try simp only[ih,dJ,lF,cZ,jY]);try rfl
variable (f0:Int) (f1 f2:List U8)
def aB:au ((List (Int×Unit))×Unit):=dh Tryz.prog [.tmp 2] JY Js (f0,f1,f2,())
theorem aY:H0 (K0 k0 (aB f0 f1 f2))=A0 f0 f1 f2:=by kernel_rfl
def FF:Option ((List (Int×Unit))×Unit):=T (G0 k0 (A0 f0 f1 f2) k0) f0 f1 f2
theorem aX:di Tryz.prog (aU [(83,[],D7)]) aC k0 148 JY Js [] (f0,f1,f2,())=FF k0 f0 f1 f2:=Eq.trans (b:=T (L0 k0 k0 (K0 k0 (aB f0 f1 f2))) f0 f1 f2) (by kernel_rfl) (by rw[FF];(try simp only[dJ,lF,aP,aY]);try rfl)
def _root_.Go.Rv.DK:=fun x:U3=>FF (300+x.2.1.length+x.2.2.1.length) x.1 x.2.1 x.2.2.1
abbrev _root_.Go.Rv.Lj:aG:=⟨JY,Js,DK,[]⟩
theorem _root_.Go.Rv.aaU:aF Dr Tryz.prog 148 Lj:=dH mix (.c SX .nil) (by kernel_rfl) fun x=>⟨aC,_,aX _ _ _ _⟩
end gU
abbrev KA:Is:=[.v true fZ,.v false [CT.int .i64]]
abbrev JO:Os:=[(false,[CT.sl eX]),(false,[CT.sl ct0])]
namespace jc
def aC:Nat→List Nat×List Nat:=fun k=>if k=5 then([1,2,6,7,8,9],[1,2,7,8])else if k=11 then([1,2,7,8,10],[7,8])else([],[])
def zrc{R:Type}(k0:Nat)(p:List Nat):Env→List Ob→au R→Option R:=bJ Tryz.prog (aU [(148,[],Lj)]) 91 0 aC k0 (cu p (dG Tryz.prog 132))
def R0{R:Type}(nx0:GL R)(ex0:Qc R)(group2 i f:Int)(f3 f4:List U8)(wants:List (Int×Unit))(kids:List aO)(items:List U9):Option R:=cond (decide (i<(f3.length:Int))) (if 0≤i∧i<(f3.length:Int)then cond ((rd (0,0,0,0,()) f3 i).2.1==group2) (if kids.length+[(i,(-1),())].length≤maxRow then if 0≤i∧i<(wants.length:Int)then if 0≤i∧i<(f3.length:Int)then if items.length+([(((kids++[(i,(-1),())]).length:Int),(wants.getD i.toNat (0,())).1,(rd (0,0,0,0,()) f3 i).2.2.2.1,())]).length≤maxRow then nx0 group2 (af (i+1)) f f3 f4 wants (kids++[(i,(-1),())]) (items++[(((kids++[(i,(-1),())]).length:Int),(wants.getD i.toNat (0,())).1,(rd (0,0,0,0,()) f3 i).2.2.2.1,())])else none else none else none else none) (nx0 group2 (af (i+1)) f f3 f4 wants kids items)else none) (ex0 group2 f f3 f4 kids items)
def R1{R:Type}(nx1:GK R)(ex1:Qb R)(group2 i f:Int)(f3 f4:List U8)(kids:List aO)(items:List U9):Option R:=cond (decide (i<(f4.length:Int))) (if 0≤i∧i<(f4.length:Int)then cond ((rd (0,0,0,0,()) f4 i).2.1==group2) (if kids.length+[((-1),i,())].length≤maxRow then if 0≤i∧i<(f4.length:Int)then if 0≤i∧i<(f4.length:Int)then if items.length+([(((kids++[((-1),i,())]).length:Int),(rd (0,0,0,0,()) f4 i).2.2.1,(rd (0,0,0,0,()) f4 i).2.2.2.1,())]).length≤maxRow then nx1 group2 (af (i+1)) f f3 f4 (kids++[((-1),i,())]) (items++[(((kids++[((-1),i,())]).length:Int),(rd (0,0,0,0,()) f4 i).2.2.1,(rd (0,0,0,0,()) f4 i).2.2.2.1,())])else none else none else none else none) (nx1 group2 (af (i+1)) f f3 f4 kids items)else none) (ex1 kids items)
def A0(lo1:GK ((List aO)×(List U9)×Unit))(f0:Int)(f1 f2:List U8)(group:Int)(group2 f:Int)(f3 f4:List U8)(kids:List aO)(items:List U9):Option ((List aO)×(List U9)×Unit):=lo1 group2 0 f f3 f4 kids items
def A1(f0:Int)(f1 f2:List U8)(group:Int)(kids:List aO)(items:List U9):Option ((List aO)×(List U9)×Unit):=some (kids,items,())
def T(lo0:GL ((List aO)×(List U9)×Unit))(f0:Int)(f1 f2:List U8)(group:Int):Option ((List aO)×(List U9)×Unit):=(DK (f0,f1,f2,())).bind fun y1=>lo0 group 0 f0 f1 f2 y1.1 ([]:List aO) ([]:List U9)
def K0{R:Type}(k0:Nat)(K:au R):au R:=bD 0 (bG (fun env ob=>zrc k0 [1,1,1,1,1] env ob (K)) (K))
def K1{R:Type}(k0:Nat)(K:au R):au R:=bD 2 (bG (fun env ob=>zrc k0 [1,1,1,1,1,1] env ob (K)) (K))
def L0:GL R:=fun group2 i f f3 f4 wants kids items=>iter 0 [1,2,6,7,8,9] [1,2,7,8] (zrc k0 [1,1,1,1,0,1,0,0]) k [(1,.int .i64 group2),(2,.ptr 0 0 0 0),(6,.own 1),(7,.own 2),(8,.own 3),(9,.int .i64 i)] [.box [.int .i64 f,.sl ay f3,.sl ay f4],.arr [CT.int .i64] wants,.arr eX kids,.arr ct0 items] K
def L1:GK R:=fun group2 i f f3 f4 kids items=>iter 0 [1,2,7,8,10] [7,8] (zrc k0 [1,1,1,1,1,0,1,0,0]) k [(1,.int .i64 group2),(2,.ptr 0 0 0 0),(7,.own 1),(8,.own 2),(10,.int .i64 i)] [.box [.int .i64 f,.sl ay f3,.sl ay f4],.arr eX kids,.arr ct0 items] K
def H0:Qc R:=fun group2 f f3 f4 kids items=>K (.exit 0) [(1,.int .i64 group2),(2,.ptr 0 0 0 0),(7,.own 1),(8,.own 2)] [.box [.int .i64 f,.sl ay f3,.sl ay f4],.arr eX kids,.arr ct0 items]
def H1:Qb R:=fun kids items=>K (.exit 2) [(7,.own 0),(8,.own 1)] [.arr eX kids,.arr ct0 items]
theorem zs0:L0 k0 (k+1) K=R0 (L0 k0 k K) (H0 K):=by kernel_rfl
theorem zs1:L1 k0 (k+1) K=R1 (L1 k0 k K) (H1 K):=by kernel_rfl
def G0{R:Type}(k0:Nat)(hx0:Qc R):Nat→GL R
 |0=>fun _ _ _ _ _ _ _ _=>none
 |k+1=>R0 (G0 k0 hx0 k) hx0
theorem aP:∀ k,L0 k0 k K=G0 k0 (H0 K) k:=bK rfl fun k ih=>by rw[zs0,G0];(try simp only[ih]);try rfl
def G1{R:Type}(k0:Nat)(hx1:Qb R):Nat→GK R
 |0=>fun _ _ _ _ _ _ _=>none
 |k+1=>R1 (G1 k0 hx1 k) hx1
theorem dJ:∀ k,L1 k0 k K=G1 k0 (H1 K) k:=bK rfl fun k ih=>by rw[zs1,G1];(try simp only[ih,aP]);try rfl
variable (f0:Int) (f1 f2:List U8) (group:Int)
def aB:au ((List aO)×(List U9)×Unit):=dh Tryz.prog [.tmp 4,.tmp 5] KA JO (f0,f1,f2,group,())
theorem aY:H0 (K0 k0 (aB f0 f1 f2 group))=A0 (L1 k0 k0 (K1 k0 (aB f0 f1 f2 group))) f0 f1 f2 group:=by kernel_rfl
theorem cZ:H1 (K1 k0 (aB f0 f1 f2 group))=A1 f0 f1 f2 group:=by kernel_rfl
def FF:Option ((List aO)×(List U9)×Unit):=T (G0 k0 (A0 (G1 k0 (A1 f0 f1 f2 group) k0) f0 f1 f2 group) k0) f0 f1 f2 group
theorem aX:di Tryz.prog (aU [(148,[],Lj)]) aC k0 132 KA JO [] (f0,f1,f2,group,())=FF k0 f0 f1 f2 group:=Eq.trans (b:=T (L0 k0 k0 (K0 k0 (aB f0 f1 f2 group))) f0 f1 f2 group) (by kernel_rfl) (by rw[FF];(try simp only[aP,dJ,aY,cZ]);try rfl)
def _root_.Go.Rv.Ai:=fun x:Int×(List U8)×(List U8)×Int×Unit=>FF (300+x.2.1.length+x.2.2.1.length) x.1 x.2.1 x.2.2.1 x.2.2.2.1
abbrev _root_.Go.Rv.LG:aG:=⟨KA,JO,Ai,[]⟩
theorem _root_.Go.Rv.abd:aF Dr Tryz.prog 132 LG:=dH mix (.c aaU .nil) (by kernel_rfl) fun x=>⟨aC,_,aX _ _ _ _ _⟩
end jc
def Ua.T(a0 a1 b0 b1:Int):Option (U7):=cond (decide ((IntKind.u64.wrap (a1+b1))<a1)) (cond (decide ((IntKind.u64.wrap (a0+b0))<a0)) (some ((IntKind.u64.wrap ((IntKind.u64.wrap (a0+b0))+1)),(IntKind.u64.wrap (a1+b1)),true,0,())) (some ((IntKind.u64.wrap ((IntKind.u64.wrap (a0+b0))+1)),(IntKind.u64.wrap (a1+b1)),(decide ((IntKind.u64.wrap ((IntKind.u64.wrap (a0+b0))+1))<(IntKind.u64.wrap (a0+b0)))),0,()))) (cond (decide ((IntKind.u64.wrap (a0+b0))<a0)) (some ((IntKind.u64.wrap ((IntKind.u64.wrap (a0+b0))+0)),(IntKind.u64.wrap (a1+b1)),true,0,())) (some ((IntKind.u64.wrap ((IntKind.u64.wrap (a0+b0))+0)),(IntKind.u64.wrap (a1+b1)),(decide ((IntKind.u64.wrap ((IntKind.u64.wrap (a0+b0))+0))<(IntKind.u64.wrap (a0+b0)))),0,())))
def uN:=fun x:U8=>Ua.T x.1 x.2.1 x.2.2.1 x.2.2.2.1
abbrev wY:aG:=⟨[.v true ct1,.v true ct1],[(true,YG)],uN,[]⟩
theorem KU:aF Dr Tryz.prog 165 wY:=aZ mix .nil (by kernel_rfl) fun x=>by kernel_rfl
abbrev KE:Is:=[.v true ct1,.v false [CT.int .i64]]
abbrev JR:Os:=[(true,ct1)]
namespace rH
def aC:Nat→List Nat×List Nat:=fun k=>if k=3 then([1,2,4],[2,4])else([],[])
def zrc{R:Type}(k0:Nat)(p:List Nat):Env→List Ob→au R→Option R:=bJ Tryz.prog (aU [(165,[],wY)]) 21 0 aC k0 (cu p (dG Tryz.prog 168))
def R0{R:Type}(nx0:tY R)(ex0:rE R)(n2 a a2 t4x t4x2:Int):Option R:=cond (decide (n2>0)) ((uN (a,a2,a,a2,())).bind fun y1=>nx0 (af (n2 - 1)) y1.1 y1.2.1 t4x t4x2) (ex0 a a2 t4x t4x2)
def A0(a0 a1 n:Int)(a a2 t4x t4x2:Int):Option (aO):=some (a,a2,())
def T(lo0:tY (aO))(a0 a1 n:Int):Option (aO):=cond (decide (n<0)) (some (0,0,())) (cond (decide (n>127)) (some (0,0,())) (lo0 n a0 a1 0 0))
def K0{R:Type}(k0:Nat)(K:au R):au R:=bD 0 (bG (fun env ob=>zrc k0 [1,1,1] env ob (K)) (K))
def L0:tY R:=fun n2 a a2 t4x t4x2=>iter 0 [1,2,4] [2,4] (zrc k0 [1,1,0,0,0]) k [(1,.int .i64 n2),(2,.ptr 0 0 0 0),(4,.ptr 1 0 0 0)] [.box [.int .u64 a,.int .u64 a2],.box [.int .u64 t4x,.int .u64 t4x2]] K
def H0:rE R:=fun a a2 t4x t4x2=>K (.exit 0) [(2,.ptr 0 0 0 0),(4,.ptr 1 0 0 0)] [.box [.int .u64 a,.int .u64 a2],.box [.int .u64 t4x,.int .u64 t4x2]]
theorem zs0:L0 k0 (k+1) K=R0 (L0 k0 k K) (H0 K):=by kernel_rfl
def G0{R:Type}(k0:Nat)(hx0:rE R):Nat→tY R
 |0=>fun _ _ _ _ _=>none
 |k+1=>R0 (G0 k0 hx0 k) hx0
theorem aP:∀ k,L0 k0 k K=G0 k0 (H0 K) k:=bK rfl fun k ih=>by rw[zs0,G0];(try simp only[ih]);try rfl
variable (a0 a1 n:Int)
def aB:au (aO):=dh Tryz.prog [.cell 4 181] KE JR (a0,a1,n,())
theorem aY:H0 (K0 k0 (aB a0 a1 n))=A0 a0 a1 n:=by kernel_rfl
def FF:Option (aO):=T (G0 k0 (A0 a0 a1 n) k0) a0 a1 n
theorem aX:di Tryz.prog (aU [(165,[],wY)]) aC k0 168 KE JR [] (a0,a1,n,())=FF k0 a0 a1 n:=Eq.trans (b:=T (L0 k0 k0 (K0 k0 (aB a0 a1 n))) a0 a1 n) (by kernel_rfl) (by rw[FF];(try simp only[aP,aY]);try rfl)
def _root_.Go.Rv.DY:=fun x:U9=>FF (300) x.1 x.2.1 x.2.2.1
abbrev _root_.Go.Rv.LJ:aG:=⟨KE,JR,DY,[]⟩
theorem _root_.Go.Rv.abh:aF Dr Tryz.prog 168 LJ:=dH mix (.c KU .nil) (by kernel_rfl) fun x=>⟨aC,_,aX _ _ _ _⟩
end rH
abbrev KF:Is:=[.v false [CT.int .u64],.v false [CT.int .u64]]
abbrev JS:Os:=[(true,ct1)]
namespace qF
def aC:Nat→List Nat×List Nat:=fun k=>if k=3 then([0,1,4,5,6],[4,5])else([],[])
def zrc{R:Type}(k0:Nat)(p:List Nat):Env→List Ob→au R→Option R:=bJ Tryz.prog (aU [(165,[],wY),(168,[],LJ)]) 26 0 aC k0 (cu p (dG Tryz.prog 152))
def R0{R:Type}(nx0:GI R)(ex0:rE R)(a2 b2 kx t4x t4x2 sum sum2:Int):Option R:=cond (decide (kx<64)) (if(IntKind.u64.wrap (kx))<0 then none else cond ((IntKind.u64.wrap (((BitVec.ofInt 64 (Int.fdiv b2 (2 ^ (min (((IntKind.u64.wrap (kx)):Int)).toNat 64)))) &&& (BitVec.ofInt 64 1)).toNat))==1) ((DY (0,a2,kx,())).bind fun y1=>(uN (sum,sum2,y1.1,y1.2.1,())).bind fun y2=>nx0 a2 b2 (af (kx+1)) t4x t4x2 y2.1 y2.2.1) (nx0 a2 b2 (af (kx+1)) t4x t4x2 sum sum2)) (ex0 t4x t4x2 sum sum2)
def A0(a b:Int)(t4x t4x2 sum sum2:Int):Option (aO):=some (sum,sum2,())
def T(lo0:GI (aO))(a b:Int):Option (aO):=lo0 a b 0 0 0 0 0
def K0{R:Type}(k0:Nat)(K:au R):au R:=bD 0 (bG (fun env ob=>zrc k0 [1,1,1] env ob (K)) (K))
def L0:GI R:=fun a2 b2 kx t4x t4x2 sum sum2=>iter 0 [0,1,4,5,6] [4,5] (zrc k0 [1,1,0,1,0,0]) k [(0,.int .u64 a2),(1,.int .u64 b2),(4,.ptr 0 0 0 0),(5,.ptr 1 0 0 0),(6,.int .i64 kx)] [.box [.int .u64 t4x,.int .u64 t4x2],.box [.int .u64 sum,.int .u64 sum2]] K
def H0:rE R:=fun t4x t4x2 sum sum2=>K (.exit 0) [(4,.ptr 0 0 0 0),(5,.ptr 1 0 0 0)] [.box [.int .u64 t4x,.int .u64 t4x2],.box [.int .u64 sum,.int .u64 sum2]]
theorem zs0:L0 k0 (k+1) K=R0 (L0 k0 k K) (H0 K):=by kernel_rfl
def G0{R:Type}(k0:Nat)(hx0:rE R):Nat→GI R
 |0=>fun _ _ _ _ _ _ _=>none
 |k+1=>R0 (G0 k0 hx0 k) hx0
theorem aP:∀ k,L0 k0 k K=G0 k0 (H0 K) k:=bK rfl fun k ih=>by rw[zs0,G0];(try simp only[ih]);try rfl
variable (a b:Int)
def aB:au (aO):=dh Tryz.prog [.cell 4 181] KF JS (a,b,())
theorem aY:H0 (K0 k0 (aB a b))=A0 a b:=by kernel_rfl
def FF:Option (aO):=T (G0 k0 (A0 a b) k0) a b
theorem aX:di Tryz.prog (aU [(165,[],wY),(168,[],LJ)]) aC k0 152 KF JS [] (a,b,())=FF k0 a b:=Eq.trans (b:=T (L0 k0 k0 (K0 k0 (aB a b))) a b) (by kernel_rfl) (by rw[FF];(try simp only[aP,aY]);try rfl)
def _root_.Go.Rv.uK:=fun x:aO=>FF (300) x.1 x.2.1
abbrev _root_.Go.Rv.Tn:aG:=⟨KF,JS,uK,[]⟩
theorem _root_.Go.Rv.RV:aF Dr Tryz.prog 152 Tn:=dH mix (.c KU (.c abh .nil)) (by kernel_rfl) fun x=>⟨aC,_,aX _ _ _⟩
end qF
def TY.T(a0 a1 b0 b1:Int):Option (Int×Unit):=cond (a0 != b0) (cond (decide (a0<b0)) (some ((-1),())) (some (1,()))) (cond (decide (a1<b1)) (some ((-1),())) (cond (decide (a1>b1)) (some (1,())) (some (0,()))))
def uM:=fun x:U8=>TY.T x.1 x.2.1 x.2.2.1 x.2.2.2.1
abbrev Tt:aG:=⟨[.v true ct1,.v true ct1],[(false,[CT.int .i64])],uM,[]⟩
theorem KT:aF Dr Tryz.prog 164 Tt:=aZ mix .nil (by kernel_rfl) fun x=>by kernel_rfl
def TB.T(a b c d:Int):Option (Int×Unit):=(uK ((IntKind.u64.wrap (a)),(IntKind.u64.wrap (b)),())).bind fun y1=>(uK ((IntKind.u64.wrap (c)),(IntKind.u64.wrap (d)),())).bind fun y2=>(uM (y1.1,y1.2.1,y2.1,y2.2.1,())).bind fun y3=>some (y3.1,())
def wW:=fun x:U8=>TB.T x.1 x.2.1 x.2.2.1 x.2.2.2.1
abbrev Sv:aG:=⟨[.v false [CT.int .i64],.v false [CT.int .i64],.v false [CT.int .i64],.v false [CT.int .i64]],[(false,[CT.int .i64])],wW,[]⟩
theorem Rn:aF Dr Tryz.prog 150 Sv:=aZ mix (.c RV (.c KT .nil)) (by kernel_rfl) fun x=>by kernel_rfl
def SV.T(a0 a1 a2:Int):Option (Bool×Unit):=(lK (a0,())).bind fun y1=>cond y1.1 ((eG (a1,())).bind fun y2=>cond y2.1 ((gI (a2,())).bind fun y3=>some (y3.1,())) (some (false,()))) (some (false,()))
def zO:=fun x:U9=>SV.T x.1 x.2.1 x.2.2.1
abbrev aa4:aG:=⟨[.v true ct0],[(false,[CT.bool])],zO,[]⟩
theorem aaz:aF Dr Tryz.prog 163 aa4:=aZ mix (.c uH (.c Ak (.c Dn .nil))) (by kernel_rfl) fun x=>by kernel_rfl
def TF.T(a0 a1 a2 b0 b1 b2:Int):Option (Int×Unit):=(zO (a0,a1,a2,())).bind fun y1=>cond (!y1.1) (some (0,())) ((zO (b0,b1,b2,())).bind fun y2=>cond (!y2.1) (some (0,())) ((wW (a1,b2,b1,a2,())).bind fun y3=>cond (y3.1 != 0) (some (y3.1,())) (cond (decide (a0<b0)) (some ((-1),())) (cond (decide (a0>b0)) (some (1,())) (some (0,()))))))
def DL:=fun x:Int×U6=>TF.T x.1 x.2.1 x.2.2.1 x.2.2.2.1 x.2.2.2.2.1 x.2.2.2.2.2.1
abbrev SA:aG:=⟨[.v true ct0,.v true ct0],[(false,[CT.int .i64])],DL,[]⟩
theorem aaV:aF Dr Tryz.prog 149 SA:=aZ mix (.c Rn (.c aaz .nil)) (by kernel_rfl) fun x=>by kernel_rfl
abbrev KD:Is:=[.v true ct1,.v false [CT.int .i64]]
abbrev JQ:Os:=[(true,ct1)]
namespace rG
def aC:Nat→List Nat×List Nat:=fun k=>if k=3 then([1,2,4],[2,4])else([],[])
def zrc{R:Type}(k0:Nat)(p:List Nat):Env→List Ob→au R→Option R:=bJ Tryz.prog (aU []) 29 0 aC k0 (cu p (dG Tryz.prog 178))
def R0{R:Type}(nx0:tY R)(ex0:rE R)(n2 a a2 t4x t4x2:Int):Option R:=cond (decide (n2>0)) (if 2=0 then none else if 2=0 then none else if 2=0 then none else nx0 (af (n2 - 1)) (IntKind.u64.wrap (Int.tdiv a 2)) (IntKind.u64.wrap ((IntKind.u64.wrap (Int.tdiv a2 2))+(IntKind.u64.wrap ((Int.tmod a 2)*9223372036854775808)))) t4x t4x2) (ex0 a a2 t4x t4x2)
def A0(a0 a1 n:Int)(a a2 t4x t4x2:Int):Option (aO):=some (a,a2,())
def T(lo0:tY (aO))(a0 a1 n:Int):Option (aO):=cond (decide (n<0)) (some (0,0,())) (cond (decide (n>127)) (some (0,0,())) (lo0 n a0 a1 0 0))
def K0{R:Type}(k0:Nat)(K:au R):au R:=bD 0 (bG (fun env ob=>zrc k0 [1,1,1] env ob (K)) (K))
def L0:tY R:=fun n2 a a2 t4x t4x2=>iter 0 [1,2,4] [2,4] (zrc k0 [1,1,0,0,0]) k [(1,.int .i64 n2),(2,.ptr 0 0 0 0),(4,.ptr 1 0 0 0)] [.box [.int .u64 a,.int .u64 a2],.box [.int .u64 t4x,.int .u64 t4x2]] K
def H0:rE R:=fun a a2 t4x t4x2=>K (.exit 0) [(2,.ptr 0 0 0 0),(4,.ptr 1 0 0 0)] [.box [.int .u64 a,.int .u64 a2],.box [.int .u64 t4x,.int .u64 t4x2]]
theorem zs0:L0 k0 (k+1) K=R0 (L0 k0 k K) (H0 K):=by kernel_rfl
def G0{R:Type}(k0:Nat)(hx0:rE R):Nat→tY R
 |0=>fun _ _ _ _ _=>none
 |k+1=>R0 (G0 k0 hx0 k) hx0
theorem aP:∀ k,L0 k0 k K=G0 k0 (H0 K) k:=bK rfl fun k ih=>by rw[zs0,G0];(try simp only[ih]);try rfl
variable (a0 a1 n:Int)
def aB:au (aO):=dh Tryz.prog [.cell 4 181] KD JQ (a0,a1,n,())
theorem aY:H0 (K0 k0 (aB a0 a1 n))=A0 a0 a1 n:=by kernel_rfl
def FF:Option (aO):=T (G0 k0 (A0 a0 a1 n) k0) a0 a1 n
theorem aX:di Tryz.prog (aU []) aC k0 178 KD JQ [] (a0,a1,n,())=FF k0 a0 a1 n:=Eq.trans (b:=T (L0 k0 k0 (K0 k0 (aB a0 a1 n))) a0 a1 n) (by kernel_rfl) (by rw[FF];(try simp only[aP,aY]);try rfl)
def _root_.Go.Rv.DX:=fun x:U9=>FF (300) x.1 x.2.1 x.2.2.1
abbrev _root_.Go.Rv.abJ:aG:=⟨KD,JQ,DX,[]⟩
theorem _root_.Go.Rv.abg:aF Dr Tryz.prog 178 abJ:=dH mix .nil (by kernel_rfl) fun x=>⟨aC,_,aX _ _ _ _⟩
end rG
def Um.T(a0 a1 ak:Int):Option (Int×Unit):=(DX (a0,a1,ak,())).bind fun y1=>some ((IntKind.u64.wrap (((BitVec.ofInt 64 y1.2.1) &&& (BitVec.ofInt 64 1)).toNat)),())
def Eb:=fun x:U9=>Um.T x.1 x.2.1 x.2.2.1
abbrev TM:aG:=⟨[.v true ct1,.v false [CT.int .i64]],[(false,[CT.int .u64])],Eb,[]⟩
theorem abz:aF Dr Tryz.prog 166 TM:=aZ mix (.c abg .nil) (by kernel_rfl) fun x=>by kernel_rfl
def TW.T(a0 a1 b0 b1:Int):Option (U7):=cond (decide (a1<b1)) ((uM (a0,a1,b0,b1,())).bind fun y1=>some ((IntKind.u64.wrap ((IntKind.u64.wrap (a0 - b0)) - 1)),(IntKind.u64.wrap (a1 - b1)),(decide (y1.1<0)),0,())) ((uM (a0,a1,b0,b1,())).bind fun y2=>some ((IntKind.u64.wrap (a0 - b0)),(IntKind.u64.wrap (a1 - b1)),(decide (y2.1<0)),0,()))
def DW:=fun x:U8=>TW.T x.1 x.2.1 x.2.2.1 x.2.2.2.1
abbrev Tm:aG:=⟨[.v true ct1,.v true ct1],[(true,YG)],DW,[]⟩
theorem abf:aF Dr Tryz.prog 167 Tm:=aZ mix (.c KT .nil) (by kernel_rfl) fun x=>by kernel_rfl
abbrev KG:Is:=[.v true ct1,.v false [CT.int .u64]]
abbrev JU:Os:=[(true,YN)]
namespace pO
def dA:Tb:=[(164,[],Tt),(165,[],wY),(166,[],TM),(167,[],Tm)]
def aC:Nat→List Nat×List Nat:=fun k=>if k=6 then([1,2,4,5,6,7],[4,5,6])else([],[])
def zrc{R:Type}(k0:Nat)(p:List Nat):Env→List Ob→au R→Option R:=bJ Tryz.prog (aU dA) 55 0 aC k0 (cu p (dG Tryz.prog 151))
def R0{R:Type}(nx0:GH R)(ex0:zu R)(d2 kx a a2 t4x t4x2 t4x3 out out2 out3 rem rem2:Int):Option R:=cond (decide (kx≥0)) ((uN (rem,rem2,rem,rem2,())).bind fun y1=>(Eb (a,a2,kx,())).bind fun y2=>(uN (out,out2,out,out2,())).bind fun y3=>(uM (y1.1,(IntKind.u64.wrap (y1.2.1+y2.1)),0,d2,())).bind fun y4=>cond (decide (y4.1≥0)) ((DW (y1.1,(IntKind.u64.wrap (y1.2.1+y2.1)),0,d2,())).bind fun y5=>nx0 d2 (af (kx - 1)) a a2 t4x t4x2 t4x3 y3.1 (IntKind.u64.wrap (y3.2.1+1)) out3 y5.1 y5.2.1) (nx0 d2 (af (kx - 1)) a a2 t4x t4x2 t4x3 y3.1 y3.2.1 out3 y1.1 (IntKind.u64.wrap (y1.2.1+y2.1)))) (ex0 t4x t4x2 t4x3 out out2 out3 rem rem2)
def A0(a0 a1 d:Int)(t4x t4x2 t4x3 out out2 out3 rem rem2:Int):Option (U9):=some (out,out2,rem2,())
def T(lo0:GH (U9))(a0 a1 d:Int):Option (U9):=cond (d==0) (some (0,0,0,())) (lo0 d 127 a0 a1 0 0 0 0 0 0 0 0)
def K0{R:Type}(k0:Nat)(K:au R):au R:=bD 0 (bG (fun env ob=>zrc k0 [1,1,1,1,1] env ob (K)) (K))
def L0:GH R:=fun d2 kx a a2 t4x t4x2 t4x3 out out2 out3 rem rem2=>iter 0 [1,2,4,5,6,7] [4,5,6] (zrc k0 [1,1,1,1,0,1,0,0]) k [(1,.int .u64 d2),(2,.ptr 0 0 0 0),(4,.ptr 1 0 0 0),(5,.ptr 2 0 0 0),(6,.ptr 3 0 0 0),(7,.int .i64 kx)] [.box [.int .u64 a,.int .u64 a2],.box [.int .u64 t4x,.int .u64 t4x2,.int .u64 t4x3],.box [.int .u64 out,.int .u64 out2,.int .u64 out3],.box [.int .u64 rem,.int .u64 rem2]] K
def H0:zu R:=fun t4x t4x2 t4x3 out out2 out3 rem rem2=>K (.exit 0) [(4,.ptr 0 0 0 0),(5,.ptr 1 0 0 0),(6,.ptr 2 0 0 0)] [.box [.int .u64 t4x,.int .u64 t4x2,.int .u64 t4x3],.box [.int .u64 out,.int .u64 out2,.int .u64 out3],.box [.int .u64 rem,.int .u64 rem2]]
theorem zs0:L0 k0 (k+1) K=R0 (L0 k0 k K) (H0 K):=by kernel_rfl
def G0{R:Type}(k0:Nat)(hx0:zu R):Nat→GH R
 |0=>fun _ _ _ _ _ _ _ _ _ _ _ _=>none
 |k+1=>R0 (G0 k0 hx0 k) hx0
theorem aP:∀ k,L0 k0 k K=G0 k0 (H0 K) k:=bK rfl fun k ih=>by rw[zs0,G0];(try simp only[ih]);try rfl
variable (a0 a1 d:Int)
def aB:au (U9):=dh Tryz.prog [.cell 4 183] KG JU (a0,a1,d,())
theorem aY:H0 (K0 k0 (aB a0 a1 d))=A0 a0 a1 d:=by kernel_rfl
def FF:Option (U9):=T (G0 k0 (A0 a0 a1 d) k0) a0 a1 d
theorem aX:di Tryz.prog (aU dA) aC k0 151 KG JU [] (a0,a1,d,())=FF k0 a0 a1 d:=Eq.trans (b:=T (L0 k0 k0 (K0 k0 (aB a0 a1 d))) a0 a1 d) (by kernel_rfl) (by rw[FF];(try simp only[aP,aY]);try rfl)
def _root_.Go.Rv.Aj:=fun x:U9=>FF (300) x.1 x.2.1 x.2.2.1
abbrev _root_.Go.Rv.Tq:aG:=⟨KG,JU,Aj,[]⟩
theorem _root_.Go.Rv.abj:aF Dr Tryz.prog 151 Tq:=dH mix (.c KT (.c KU (.c abz (.c abf .nil)))) (by kernel_rfl) fun x=>⟨aC,_,aX _ _ _ _⟩
end pO
abbrev KC:Is:=[.v false [CT.int .i64],.v false [CT.sl ct0]]
abbrev JP:Os:=[(false,[CT.sl [CT.int .i64]])]
namespace dB
def dA:Tb:=[(149,[],SA),(150,[],Sv),(151,[],Tq),(152,[],Tn)]
def aC:Nat→List Nat×List Nat:=fun k=>if k=6 then([1,5,6,7,8,9],[1,5,6,7,8])else if k=9 then([1,5,6,7,8],[1,4,5,6,7,8])else if k=11 then([1,5,6,7,8,10,11],[1,5,6,7,8,10])else if k=24 then([1,5,6,7,8,12,13],[1,5,6,12])else if k=30 then([1,5,6,12,14],[5])else([],[])
def zrc{R:Type}(k0:Nat)(p:List Nat):Env→List Ob→au R→Option R:=bJ Tryz.prog (aU dA) 167 0 aC k0 (cu p (dG Tryz.prog 133))
def R0{R:Type}(nx0:wo R)(ex0:lY R)(list2:List U9)(rest all i:Int)(out:List (Int×Unit))(done:List (Bool×Unit)):Option R:=cond (decide (i<(list2.length:Int))) (if 0≤i∧i<(list2.length:Int)then nx0 list2 rest (af (all+(rd (0,0,0,()) list2 i).2.2.1)) (af (i+1)) out done else none) (ex0 list2 rest all out done)
def R1{R:Type}(lo2:tX R)(list2:List U9)(rest all:Int)(out:List (Int×Unit))(done:List (Bool×Unit)):Option R:=lo2 list2 rest all (-1) 0 out done
def R2{R:Type}(nx2:tX R)(ex1:wo R)(list2:List U9)(rest all next i:Int)(out:List (Int×Unit))(done:List (Bool×Unit)):Option R:=cond (decide (i<(list2.length:Int))) (if 0≤i∧i<(done.length:Int)then cond (!(done.getD i.toNat (false,())).1) (cond (decide (next<0)) (nx2 list2 rest all i (af (i+1)) out done) (if 0≤i∧i<(list2.length:Int)then if 0≤next∧next<(list2.length:Int)then(DL ((rd (0,0,0,()) list2 i).1,(rd (0,0,0,()) list2 i).2.1,(rd (0,0,0,()) list2 i).2.2.1,(rd (0,0,0,()) list2 next).1,(rd (0,0,0,()) list2 next).2.1,(rd (0,0,0,()) list2 next).2.2.1,())).bind fun y1=>cond (decide (y1.1<0)) (nx2 list2 rest all i (af (i+1)) out done) (nx2 list2 rest all next (af (i+1)) out done)else none else none)) (nx2 list2 rest all next (af (i+1)) out done)else none) (ex1 list2 rest all next out done)
def R3{R:Type}(nx3:tX R)(rD:Qa R)(list2:List U9)(rest all left i:Int)(out:List (Int×Unit))(done:List (Bool×Unit)):Option R:=cond (decide (i<(list2.length:Int))) (if 0≤i∧i<(done.length:Int)then cond (!(done.getD i.toNat (false,())).1) (if 0≤i∧i<(list2.length:Int)then(uK ((IntKind.u64.wrap (rest)),(IntKind.u64.wrap ((rd (0,0,0,()) list2 i).2.2.1)),())).bind fun y1=>(Aj (y1.1,y1.2.1,(IntKind.u64.wrap (all)),())).bind fun y2=>if 0≤i∧i<(out.length:Int)then if 0≤i∧i<((out.set i.toNat ((af (y2.2.1)),())).length:Int)then nx3 list2 rest all (af (left - ((out.set i.toNat ((af (y2.2.1)),())).getD i.toNat (0,())).1)) (af (i+1)) (out.set i.toNat ((af (y2.2.1)),())) done else none else none else none) (nx3 list2 rest all left (af (i+1)) out done)else none) (rD list2 left out done)
def R4{R:Type}(nx4:lY R)(ex5:zi R)(list2:List U9)(left i:Int)(out:List (Int×Unit))(done:List (Bool×Unit)):Option R:=cond (decide (i<(list2.length:Int))) (cond (decide (left>0)) (if 0≤i∧i<(done.length:Int)then cond (!(done.getD i.toNat (false,())).1) (if 0≤i∧i<(out.length:Int)then if 0≤i∧i<(out.length:Int)then nx4 list2 (af (left - 1)) (af (i+1)) (out.set i.toNat ((af ((out.getD i.toNat (0,())).1+1)),())) done else none else none) (nx4 list2 left (af (i+1)) out done)else none) (ex5 out)) (ex5 out)
def A0(lo1:lY ((List (Int×Unit))×Unit))(amount:Int)(list:List U9)(list2:List U9)(rest all:Int)(out:List (Int×Unit))(done:List (Bool×Unit)):Option ((List (Int×Unit))×Unit):=lo1 list2 rest all out done
def A1{R:Type}(nx1 ex2 ex3:lY R)(list2:List U9)(rest all next:Int)(out:List (Int×Unit))(done:List (Bool×Unit)):Option R:=cond (decide (next<0)) (ex2 list2 rest all out done) (if 0≤next∧next<(list2.length:Int)then if 0≤next∧next<(list2.length:Int)then(wW ((rd (0,0,0,()) list2 next).2.1,all,rest,(rd (0,0,0,()) list2 next).2.2.1,())).bind fun y1=>cond (decide (y1.1>0)) (ex3 list2 rest all out done) (if 0≤next∧next<(done.length:Int)then if 0≤next∧next<(list2.length:Int)then if 0≤next∧next<(out.length:Int)then if 0≤next∧next<(list2.length:Int)then if 0≤next∧next<(list2.length:Int)then nx1 list2 (af (rest - (rd (0,0,0,()) list2 next).2.1)) (af (all - (rd (0,0,0,()) list2 next).2.2.1)) (out.set next.toNat ((rd (0,0,0,()) list2 next).2.1,())) (done.set next.toNat (true,()))else none else none else none else none else none)else none else none)
def A2(amount:Int)(list:List U9)(list2:List U9)(rest all:Int)(t4x:List (Int×Unit))(done:List (Bool×Unit)):Option ((List (Int×Unit))×Unit):=some (t4x,())
def A3(lo3:tX ((List (Int×Unit))×Unit))(amount:Int)(list:List U9)(list2:List U9)(rest all:Int)(out:List (Int×Unit))(done:List (Bool×Unit)):Option ((List (Int×Unit))×Unit):=lo3 list2 rest all rest 0 out done
def A4(lo4:lY ((List (Int×Unit))×Unit))(amount:Int)(list:List U9)(list2:List U9)(left:Int)(out:List (Int×Unit))(done:List (Bool×Unit)):Option ((List (Int×Unit))×Unit):=lo4 list2 left 0 out done
def A5(amount:Int)(list:List U9)(out:List (Int×Unit)):Option ((List (Int×Unit))×Unit):=some (out,())
def T(lo0:wo ((List (Int×Unit))×Unit))(amount:Int)(list:List U9):Option ((List (Int×Unit))×Unit):=if 0≤(list.length:Int)∧(8:Int)*(list.length:Int)≤281474976710656∧(list.length:Int)≤9223372036854775807 then if 0≤(list.length:Int)∧(1:Int)*(list.length:Int)≤281474976710656∧(list.length:Int)≤9223372036854775807 then lo0 list amount 0 0 (List.replicate (((list.length:Int):Int)).toNat (0,())) (List.replicate (((list.length:Int):Int)).toNat (false,()))else none else none
def K0{R:Type}(k0:Nat)(K:au R):au R:=bD 0 (bG (fun env ob=>zrc k0 [1,1,1,1,1,1] env ob (K)) (K))
def K1{R:Type}(k0:Nat)(K:au R):au R:=bD 2 (bG (fun env ob=>zrc k0 [1,1,1,1,1,1,1] env ob (K)) (K))
def K2{R:Type}(k0:Nat)(K:au R):au R:=bD 4 (bG (fun env ob=>zrc k0 [1,1,1,1,1,1,0,0,0,0,1,1] env ob (bD 3 (K))) (bD 3 (K)))
def K3{R:Type}(k0:Nat)(K:au R):au R:=bD 6 (bG (fun env ob=>zrc k0 [1,1,1,1,1,1,1,1,1] env ob (K)) (K))
def K4{R:Type}(k0:Nat)(K:au R):au R:=bD 8 (bG (fun env ob=>zrc k0 [1,1,1,1,1,1,1,1,1,1] env ob (K)) (K))
def P1:au R:=vU 0 [1,5,6,7,8] [1,4,5,6,7,8] (fun env ob=>iter 0 [1,5,6,7,8] [1,4,5,6,7,8] (zrc k0 [1,1,1,1,1,1,0,0,0]) k env ob K) K
def L0:wo R:=fun list2 rest all i out done=>iter 0 [1,5,6,7,8,9] [1,5,6,7,8] (zrc k0 [1,1,1,1,1,0,1,0,0]) k [(1,.sl ct0 list2),(5,.own 0),(6,.own 1),(7,.int .i64 rest),(8,.int .i64 all),(9,.int .i64 i)] [.arr [CT.int .i64] out,.arr [CT.bool] done] K
def L1:lY R:=fun list2 rest all out done=>iter 0 [1,5,6,7,8] [1,4,5,6,7,8] (zrc k0 [1,1,1,1,1,1,0,0,0]) k [(1,.sl ct0 list2),(5,.own 0),(6,.own 1),(7,.int .i64 rest),(8,.int .i64 all)] [.arr [CT.int .i64] out,.arr [CT.bool] done] K
def L2:tX R:=fun list2 rest all next i out done=>iter 0 [1,5,6,7,8,10,11] [1,5,6,7,8,10] (zrc k0 [1,1,1,1,1,1,0,0,0,0,1,0,1,0,0]) k [(1,.sl ct0 list2),(5,.own 0),(6,.own 1),(7,.int .i64 rest),(8,.int .i64 all),(10,.int .i64 next),(11,.int .i64 i)] [.arr [CT.int .i64] out,.arr [CT.bool] done] K
def L3:tX R:=fun list2 rest all left i out done=>iter 0 [1,5,6,7,8,12,13] [1,5,6,12] (zrc k0 [1,1,1,1,1,1,1,1,0,1,0,0]) k [(1,.sl ct0 list2),(5,.own 0),(6,.own 1),(7,.int .i64 rest),(8,.int .i64 all),(12,.int .i64 left),(13,.int .i64 i)] [.arr [CT.int .i64] out,.arr [CT.bool] done] K
def L4:lY R:=fun list2 left i out done=>iter 0 [1,5,6,12,14] [5] (zrc k0 [1,1,1,1,1,1,1,1,1,0,1,0,0]) k [(1,.sl ct0 list2),(5,.own 0),(6,.own 1),(12,.int .i64 left),(14,.int .i64 i)] [.arr [CT.int .i64] out,.arr [CT.bool] done] K
def H0:lY R:=fun list2 rest all out done=>K (.exit 0) [(1,.sl ct0 list2),(5,.own 0),(6,.own 1),(7,.int .i64 rest),(8,.int .i64 all)] [.arr [CT.int .i64] out,.arr [CT.bool] done]
def H1:wo R:=fun list2 rest all next out done=>K (.exit 4) [(1,.sl ct0 list2),(5,.own 0),(6,.own 1),(7,.int .i64 rest),(8,.int .i64 all),(10,.int .i64 next)] [.arr [CT.int .i64] out,.arr [CT.bool] done]
def H2:lY R:=fun list2 rest all t4x done=>K .ret [(1,.sl ct0 list2),(4,.own 0),(5,.own 0),(6,.own 1),(7,.int .i64 rest),(8,.int .i64 all)] [.arr [CT.int .i64] t4x,.arr [CT.bool] done]
def H3:lY R:=fun list2 rest all out done=>K (.exit 2) [(1,.sl ct0 list2),(4,.undef),(5,.own 0),(6,.own 1),(7,.int .i64 rest),(8,.int .i64 all)] [.arr [CT.int .i64] out,.arr [CT.bool] done]
def H4:Qa R:=fun list2 left out done=>K (.exit 6) [(1,.sl ct0 list2),(5,.own 0),(6,.own 1),(12,.int .i64 left)] [.arr [CT.int .i64] out,.arr [CT.bool] done]
def H5:zi R:=fun out=>K (.exit 8) [(5,.own 0)] [.arr [CT.int .i64] out]
theorem zs0:L0 k0 (k+1) K=R0 (L0 k0 k K) (H0 K):=by kernel_rfl
theorem zs1:L1 k0 (k+1) K=R1 (L2 k0 k0 (K2 k0 (P1 k0 k K))):=by kernel_rfl
theorem zs2:L2 k0 (k+1) K=R2 (L2 k0 k K) (H1 K):=by kernel_rfl
theorem PI:L3 k0 (k+1) K=R3 (L3 k0 k K) (H4 K):=by kernel_rfl
theorem PG:L4 k0 (k+1) K=R4 (L4 k0 k K) (H5 K):=by kernel_rfl
theorem cZ:H1 (K2 k0 (P1 k0 k K))=A1 (L1 k0 k K) (H2 K) (H3 K):=by kernel_rfl
def G0{R:Type}(k0:Nat)(hx0:lY R):Nat→wo R
 |0=>fun _ _ _ _ _ _=>none
 |k+1=>R0 (G0 k0 hx0 k) hx0
theorem aP:∀ k,L0 k0 k K=G0 k0 (H0 K) k:=bK rfl fun k ih=>by rw[zs0,G0];(try simp only[ih]);try rfl
def G2{R:Type}(k0:Nat)(hx1:wo R):Nat→tX R
 |0=>fun _ _ _ _ _ _ _=>none
 |k+1=>R2 (G2 k0 hx1 k) hx1
theorem lF:∀ k,L2 k0 k K=G2 k0 (H1 K) k:=bK rfl fun k ih=>by rw[zs2,G2];(try simp only[ih,aP]);try rfl
def G1{R:Type}(k0:Nat)(hx2 hx3:lY R):Nat→lY R
 |0=>fun _ _ _ _ _=>none
 |k+1=>R1 (G2 k0 (A1 (G1 k0 hx2 hx3 k) hx2 hx3) k0)
theorem dJ:∀ k,L1 k0 k K=G1 k0 (H2 K) (H3 K) k:=bK rfl fun k ih=>by rw[zs1,G1];(try simp only[ih,aP,lF,cZ]);try rfl
def G3{R:Type}(k0:Nat)(hx4:Qa R):Nat→tX R
 |0=>fun _ _ _ _ _ _ _=>none
 |k+1=>R3 (G3 k0 hx4 k) hx4
theorem yV:∀ k,L3 k0 k K=G3 k0 (H4 K) k:=bK rfl fun k ih=>by rw[PI,G3];(try simp only[ih,aP,lF,dJ]);try rfl
def G4{R:Type}(k0:Nat)(hx5:zi R):Nat→lY R
 |0=>fun _ _ _ _ _=>none
 |k+1=>R4 (G4 k0 hx5 k) hx5
theorem PK:∀ k,L4 k0 k K=G4 k0 (H5 K) k:=bK rfl fun k ih=>by rw[PG,G4];(try simp only[ih,aP,lF,dJ,yV]);try rfl
variable (amount:Int) (list:List U9)
def aB:au ((List (Int×Unit))×Unit):=dh Tryz.prog [.tmp 4] KC JP (amount,list,())
theorem aY:H0 (K0 k0 (aB amount list))=A0 (L1 k0 k0 (K1 k0 (aB amount list))) amount list:=by kernel_rfl
theorem jY:H2 (K1 k0 (aB amount list))=A2 amount list:=by kernel_rfl
theorem mV:H3 (K1 k0 (aB amount list))=A3 (L3 k0 k0 (K3 k0 (aB amount list))) amount list:=by kernel_rfl
theorem PL:H4 (K3 k0 (aB amount list))=A4 (L4 k0 k0 (K4 k0 (aB amount list))) amount list:=by kernel_rfl
theorem za5:H5 (K4 k0 (aB amount list))=A5 amount list:=by kernel_rfl
def FF:Option ((List (Int×Unit))×Unit):=T (G0 k0 (A0 (G1 k0 (A2 amount list) (A3 (G3 k0 (A4 (G4 k0 (A5 amount list) k0) amount list) k0) amount list) k0) amount list) k0) amount list
theorem aX:di Tryz.prog (aU dA) aC k0 133 KC JP [] (amount,list,())=FF k0 amount list:=Eq.trans (b:=T (L0 k0 k0 (K0 k0 (aB amount list))) amount list) (by kernel_rfl) (by rw[FF];(try simp only[aP,lF,dJ,yV,PK,aY,jY,mV,PL,za5]);try rfl)
def _root_.Go.Rv.xg:=fun x:Int×(List U9)×Unit=>FF (300+x.2.1.length) x.1 x.2.1
abbrev _root_.Go.Rv.LH:aG:=⟨KC,JP,xg,[]⟩
theorem _root_.Go.Rv.abe:aF Dr Tryz.prog 133 LH:=dH mix (.c aaV (.c Rn (.c abj (.c RV .nil)))) (by kernel_rfl) fun x=>⟨aC,_,aX _ _ _⟩
end dB
abbrev KY:Is:=[.v true fZ]
abbrev Kq:Os:=[(false,[CT.sl [CT.int .i64]]),(false,[CT.sl [CT.int .i64]])]
namespace gX
def aC:Nat→List Nat×List Nat:=fun k=>if k=4 then([1,4,5,6],[4,5])else if k=14 then([1,4,5,6,9,11,12],[1,4,5,6])else([],[])
def zrc{R:Type}(k0:Nat)(p:List Nat):Env→List Ob→au R→Option R:=bJ Tryz.prog (aU [(132,[],LG),(133,[],LH)]) 87 0 aC k0 (cu p (dG Tryz.prog 114))
def R0{R:Type}(ex0:P9 R)(lo1:Gz R)(g f:Int)(f3 f4:List U8)(groups members:List (Int×Unit)):Option R:=cond (decide (g<(f3.length:Int))) (cond (decide (g≥0)) (if 0≤g∧g<(f3.length:Int)then if 0≤g∧g<(groups.length:Int)then(Ai (f,f3,f4,(rd (0,0,0,0,()) f3 g).1,())).bind fun y1=>(xg ((groups.getD g.toNat (0,())).1,y1.2.1,())).bind fun y2=>lo1 g 0 f f3 f4 groups members y1.1 y2.1 else none else none) ((Ai (f,f3,f4,0,())).bind fun y3=>(xg (f,y3.2.1,())).bind fun y4=>lo1 g 0 f f3 f4 groups members y3.1 y4.1)) (ex0 groups members)
def R1{R:Type}(nx1:Gz R)(ex1:vZ R)(g i f:Int)(f3 f4:List U8)(groups members:List (Int×Unit))(kids:List aO)(parts:List (Int×Unit)):Option R:=cond (decide (i<(kids.length:Int))) (if 0≤i∧i<(kids.length:Int)then cond (decide ((kids.getD i.toNat (0,0,())).1≥0)) (if 0≤i∧i<(kids.length:Int)then if 0≤i∧i<(parts.length:Int)then if 0≤(kids.getD i.toNat (0,0,())).1∧(kids.getD i.toNat (0,0,())).1<(groups.length:Int)then nx1 g (af (i+1)) f f3 f4 (groups.set (((kids.getD i.toNat (0,0,())).1).toNat) ((parts.getD i.toNat (0,())).1,())) members kids parts else none else none else none) (if 0≤i∧i<(kids.length:Int)then if 0≤i∧i<(parts.length:Int)then if 0≤(kids.getD i.toNat (0,0,())).2.1∧(kids.getD i.toNat (0,0,())).2.1<(members.length:Int)then nx1 g (af (i+1)) f f3 f4 groups (members.set (((kids.getD i.toNat (0,0,())).2.1).toNat) ((parts.getD i.toNat (0,())).1,())) kids parts else none else none else none)else none) (ex1 g f f3 f4 groups members)
def A0(f0:Int)(f1 f2:List U8)(groups members:List (Int×Unit)):Option ((List (Int×Unit))×(List (Int×Unit))×Unit):=some (groups,members,())
def A1{R:Type}(nx0:vZ R)(g f:Int)(f3 f4:List U8)(groups members:List (Int×Unit)):Option R:=nx0 (af (g+1)) f f3 f4 groups members
def T(lo0:vZ ((List (Int×Unit))×(List (Int×Unit))×Unit))(f0:Int)(f1 f2:List U8):Option ((List (Int×Unit))×(List (Int×Unit))×Unit):=if 0≤(f1.length:Int)∧(8:Int)*(f1.length:Int)≤281474976710656∧(f1.length:Int)≤9223372036854775807 then if 0≤(f2.length:Int)∧(8:Int)*(f2.length:Int)≤281474976710656∧(f2.length:Int)≤9223372036854775807 then lo0 (-1) f0 f1 f2 (List.replicate (((f1.length:Int):Int)).toNat (0,())) (List.replicate (((f2.length:Int):Int)).toNat (0,()))else none else none
def K0{R:Type}(k0:Nat)(K:au R):au R:=bD 0 (bG (fun env ob=>zrc k0 [1,1,1,1] env ob (K)) (K))
def K1{R:Type}(k0:Nat)(K:au R):au R:=bD 2 (bD 1 (bG (fun env ob=>zrc k0 [1,1,1,0,1,0,0,1,1] env ob (K)) (K)))
def P0:au R:=vU 0 [1,4,5,6] [4,5] (fun env ob=>iter 0 [1,4,5,6] [4,5] (zrc k0 [1,1,1,0,1,0,0]) k env ob K) K
def L0:vZ R:=fun g f f3 f4 groups members=>iter 0 [1,4,5,6] [4,5] (zrc k0 [1,1,1,0,1,0,0]) k [(1,.ptr 0 0 0 0),(4,.own 1),(5,.own 2),(6,.int .i64 g)] [.box [.int .i64 f,.sl ay f3,.sl ay f4],.arr [CT.int .i64] groups,.arr [CT.int .i64] members] K
def L1:Gz R:=fun g i f f3 f4 groups members kids parts=>iter 0 [1,4,5,6,9,11,12] [1,4,5,6] (zrc k0 [1,1,1,0,1,0,0,1,0,0,1,1,1,1,1,1,0,0]) k [(1,.ptr 0 0 0 0),(4,.own 1),(5,.own 2),(6,.int .i64 g),(9,.own 3),(11,.own 4),(12,.int .i64 i)] [.box [.int .i64 f,.sl ay f3,.sl ay f4],.arr [CT.int .i64] groups,.arr [CT.int .i64] members,.arr eX kids,.arr [CT.int .i64] parts] K
def H0:P9 R:=fun groups members=>K (.exit 0) [(4,.own 0),(5,.own 1)] [.arr [CT.int .i64] groups,.arr [CT.int .i64] members]
def H1:vZ R:=fun g f f3 f4 groups members=>K (.exit 2) [(1,.ptr 0 0 0 0),(4,.own 1),(5,.own 2),(6,.int .i64 g)] [.box [.int .i64 f,.sl ay f3,.sl ay f4],.arr [CT.int .i64] groups,.arr [CT.int .i64] members]
theorem zs0:L0 k0 (k+1) K=R0 (H0 K) (L1 k0 k0 (K1 k0 (P0 k0 k K))):=by kernel_rfl
theorem zs1:L1 k0 (k+1) K=R1 (L1 k0 k K) (H1 K):=by kernel_rfl
theorem cZ:H1 (K1 k0 (P0 k0 k K))=A1 (L0 k0 k K):=by kernel_rfl
def G1{R:Type}(k0:Nat)(hx1:vZ R):Nat→Gz R
 |0=>fun _ _ _ _ _ _ _ _ _=>none
 |k+1=>R1 (G1 k0 hx1 k) hx1
theorem dJ:∀ k,L1 k0 k K=G1 k0 (H1 K) k:=bK rfl fun k ih=>by rw[zs1,G1];(try simp only[ih]);try rfl
def G0{R:Type}(k0:Nat)(hx0:P9 R):Nat→vZ R
 |0=>fun _ _ _ _ _ _=>none
 |k+1=>R0 hx0 (G1 k0 (A1 (G0 k0 hx0 k)) k0)
theorem aP:∀ k,L0 k0 k K=G0 k0 (H0 K) k:=bK rfl fun k ih=>by rw[zs0,G0];(try simp only[ih,dJ,cZ]);try rfl
variable (f0:Int) (f1 f2:List U8)
def aB:au ((List (Int×Unit))×(List (Int×Unit))×Unit):=dh Tryz.prog [.tmp 2,.tmp 3] KY Kq (f0,f1,f2,())
theorem aY:H0 (K0 k0 (aB f0 f1 f2))=A0 f0 f1 f2:=by kernel_rfl
def FF:Option ((List (Int×Unit))×(List (Int×Unit))×Unit):=T (G0 k0 (A0 f0 f1 f2) k0) f0 f1 f2
theorem aX:di Tryz.prog (aU [(132,[],LG),(133,[],LH)]) aC k0 114 KY Kq [] (f0,f1,f2,())=FF k0 f0 f1 f2:=Eq.trans (b:=T (L0 k0 k0 (K0 k0 (aB f0 f1 f2))) f0 f1 f2) (by kernel_rfl) (by rw[FF];(try simp only[dJ,aP,aY]);try rfl)
def _root_.Go.Rv.Ea:=fun x:U3=>FF (300+x.2.1.length+x.2.2.1.length) x.1 x.2.1 x.2.2.1
abbrev _root_.Go.Rv.LV:aG:=⟨KY,Kq,Ea,[]⟩
theorem _root_.Go.Rv.abx:aF Dr Tryz.prog 114 LV:=dH mix (.c abd (.c abe .nil)) (by kernel_rfl) fun x=>⟨aC,_,aX _ _ _ _⟩
end gX
abbrev Jm:Is:=[.v true fZ]
abbrev IW:Os:=[(false,[CT.sl eX])]
namespace ny
def aC:Nat→List Nat×List Nat:=fun k=>if k=6 then([1,3,5,6],[3])else([],[])
def zrc{R:Type}(k0:Nat)(p:List Nat):Env→List Ob→au R→Option R:=bJ Tryz.prog (aU [(30,[],Dw),(114,[],LV)]) 39 0 aC k0 (cu p (dG Tryz.prog 82))
def R0{R:Type}(nx0:Gy R)(ex0:P8 R)(i f:Int)(f3 f4:List U8)(out:List aO)(members:List (Int×Unit)):Option R:=cond (decide (i<(f4.length:Int))) (if 0≤i∧i<(f4.length:Int)then if 0≤i∧i<(members.length:Int)then if out.length+[((rd (0,0,0,0,()) f4 i).1,(members.getD i.toNat (0,())).1,())].length≤maxRow then nx0 (af (i+1)) f f3 f4 (out++[((rd (0,0,0,0,()) f4 i).1,(members.getD i.toNat (0,())).1,())]) members else none else none else none) (ex0 out)
def A0(f0:Int)(f1 f2:List U8)(out:List aO):Option ((List aO)×Unit):=some (out,())
def T(lo0:Gy ((List aO)×Unit))(f0:Int)(f1 f2:List U8):Option ((List aO)×Unit):=(zQ (f0,f1,f2,())).bind fun y1=>cond (!y1.1) (some (([]:List aO),())) ((Ea (f0,f1,f2,())).bind fun y2=>lo0 0 f0 f1 f2 ([]:List aO) y2.2.1)
def K0{R:Type}(k0:Nat)(K:au R):au R:=bD 0 (bG (fun env ob=>zrc k0 [1,1,1,1,1] env ob (K)) (K))
def L0:Gy R:=fun i f f3 f4 out members=>iter 0 [1,3,5,6] [3] (zrc k0 [1,1,1,1,0,1,0,0]) k [(1,.ptr 0 0 0 0),(3,.own 1),(5,.own 2),(6,.int .i64 i)] [.box [.int .i64 f,.sl ay f3,.sl ay f4],.arr eX out,.arr [CT.int .i64] members] K
def H0:P8 R:=fun out=>K (.exit 0) [(3,.own 0)] [.arr eX out]
theorem zs0:L0 k0 (k+1) K=R0 (L0 k0 k K) (H0 K):=by kernel_rfl
def G0{R:Type}(k0:Nat)(hx0:P8 R):Nat→Gy R
 |0=>fun _ _ _ _ _ _=>none
 |k+1=>R0 (G0 k0 hx0 k) hx0
theorem aP:∀ k,L0 k0 k K=G0 k0 (H0 K) k:=bK rfl fun k ih=>by rw[zs0,G0];(try simp only[ih]);try rfl
variable (f0:Int) (f1 f2:List U8)
def aB:au ((List aO)×Unit):=dh Tryz.prog [.tmp 2] Jm IW (f0,f1,f2,())
theorem aY:H0 (K0 k0 (aB f0 f1 f2))=A0 f0 f1 f2:=by kernel_rfl
def FF:Option ((List aO)×Unit):=T (G0 k0 (A0 f0 f1 f2) k0) f0 f1 f2
theorem aX:di Tryz.prog (aU [(30,[],Dw),(114,[],LV)]) aC k0 82 Jm IW [] (f0,f1,f2,())=FF k0 f0 f1 f2:=Eq.trans (b:=T (L0 k0 k0 (K0 k0 (aB f0 f1 f2))) f0 f1 f2) (by kernel_rfl) (by rw[FF];(try simp only[aP,aY]);try rfl)
def _root_.Go.Rv.wP:=fun x:U3=>FF (300+x.2.1.length+x.2.2.1.length) x.1 x.2.1 x.2.2.1
abbrev _root_.Go.Rv.Rf:aG:=⟨Jm,IW,wP,[]⟩
theorem _root_.Go.Rv.aad:aF Dr Tryz.prog 82 Rf:=dH mix (.c JV (.c abx .nil)) (by kernel_rfl) fun x=>⟨aC,_,aX _ _ _ _⟩
end ny
def Eg.T(a b:Int):Option (Int×Unit):=cond (decide (a>b)) (some (a,())) (some (b,()))
def oC:=fun x:aO=>Eg.T x.1 x.2.1
abbrev abX:aG:=⟨[.v false [CT.int .i64],.v false [CT.int .i64]],[(false,[CT.int .i64])],oC,[]⟩
theorem Lu:aF Dr Tryz.prog 55 abX:=aZ mix .nil (by kernel_rfl) fun x=>by kernel_rfl
end Go.Rv
end
