/- What functions come to on pure values (printed by a program of ours). -/
import Derived.Test.YtjknhphmhfbghaaGreatFM17
set_option linter.unusedVariables false
set_option linter.unusedSimpArgs false
set_option linter.unusedSectionVars false
set_option maxRecDepth 100000
noncomputable section
namespace Go.Rv
open Go.Proofs
variable {Dr:Kn} {R:Type} (k0 k:Nat) (K:au R)
def Ry.T(n:Int):Option (Bool×Unit):=cond (decide (n≥1)) (some ((decide (n≤1000)),())) (some (false,()))
def zI:=fun x:Int×Unit=>Ry.T x.1
abbrev QN:aG:=⟨[.v false [CT.int .i64]],[(false,[CT.bool])],zI,[]⟩
theorem Qx:aF Dr Tryz.prog 29 QN:=bC mix .nil (by kernel_rfl) fun x=>by kernel_rfl
def SN.T(n:Int):Option (Bool×Unit):=cond (decide (n≥0)) (some ((decide (n≤1125899906842624)),())) (some (false,()))
def eG:=fun x:Int×Unit=>SN.T x.1
abbrev RU:aG:=⟨[.v false [CT.int .i64]],[(false,[CT.bool])],eG,[]⟩
theorem uI:aF Dr Tryz.prog 63 RU:=bC mix .nil (by kernel_rfl) fun x=>by kernel_rfl
def TV.T(n:Int):Option (Bool×Unit):=cond (decide (n≥1)) (some ((decide (n≤1000000)),())) (some (false,()))
def lM:=fun x:Int×Unit=>TV.T x.1
abbrev Tm:aG:=⟨[.v false [CT.int .i64]],[(false,[CT.bool])],lM,[]⟩
theorem Af:aF Dr Tryz.prog 64 Tm:=bC mix .nil (by kernel_rfl) fun x=>by kernel_rfl
abbrev JE:Is:=[.v true gQ,.v false [CT.int .i64]]
abbrev Jb:Os:=[(false,[CT.int .i64])]
namespace wY
def aC:Nat→List Nat×List Nat:=fun k=>if k=2 then([1,2,5],[4])else([],[])
def zrc{R:Type}(k0:Nat)(p:List Nat):Env→List Ob→au R→Option R:=bJ Tryz.prog (aV []) 22 0 aC k0 (cO p (dH Tryz.prog 65))
def R0{R:Type}(nx0:uq R)(ex0:Y2 R)(ex1:eF R)(id2 i f:Int)(f3 f4:List U8):Option R:=cond (decide (i<(f3.length:Int))) (if 0≤i∧i<(f3.length:Int)then cond ((rd (0,0,0,0,()) f3 i).1==id2) (ex0 i) (nx0 id2 (af (i+1)) f f3 f4)else none) (ex1 ())
def A0(f0:Int)(f1 f2:List U8)(id:Int)(t4x:Int):Option (Int×Unit):=some (t4x,())
def A1(f0:Int)(f1 f2:List U8)(id:Int)(_u:Unit):Option (Int×Unit):=some ((-1),())
def T(lo0:uq (Int×Unit))(f0:Int)(f1 f2:List U8)(id:Int):Option (Int×Unit):=lo0 id 0 f0 f1 f2
def K0{R:Type}(k0:Nat)(K:au R):au R:=bg 0 (bG (fun env ob=>zrc k0 [1,1] env ob (K)) (K))
def L0:uq R:=fun id2 i f f3 f4=>iter 0 [1,2,5] [4] (zrc k0 [1,0,1,0,0]) k [(1,.int .i64 id2),(2,.ptr 0 0 0 0),(5,.int .i64 i)] [.box [.int .i64 f,.sl aA f3,.sl aA f4]] K
def H0:Y2 R:=fun t4x=>K .ret [(4,.int .i64 t4x)] []
def H1:eF R:=fun _=>K (.exit 0) [(4,.undef)] []
theorem zs0:L0 k0 (k+1) K=R0 (L0 k0 k K) (H0 K) (H1 K):=by kernel_rfl
def G0{R:Type}(k0:Nat)(hx0:Y2 R)(hx1:eF R):Nat→uq R
 |0=>fun _ _ _ _ _=>none
 |k+1=>R0 (G0 k0 hx0 hx1 k) hx0 hx1
theorem aQ:∀ k,L0 k0 k K=G0 k0 (H0 K) (H1 K) k:=bK rfl fun k ih=>by rw[zs0,G0];(try simp only[ih]);try rfl
variable (f0:Int) (f1 f2:List U8) (id:Int)
def aB:au (Int×Unit):=di Tryz.prog [.tmp 4] JE Jb (f0,f1,f2,id,())
theorem aY:H0 (K0 k0 (aB f0 f1 f2 id))=A0 f0 f1 f2 id:=by kernel_rfl
theorem dA:H1 (K0 k0 (aB f0 f1 f2 id))=A1 f0 f1 f2 id:=by kernel_rfl
def FF:Option (Int×Unit):=T (G0 k0 (A0 f0 f1 f2 id) (A1 f0 f1 f2 id) k0) f0 f1 f2 id
theorem aX:dw Tryz.prog (aV []) aC k0 65 JE Jb [] (f0,f1,f2,id,())=FF k0 f0 f1 f2 id:=Eq.trans (b:=T (L0 k0 k0 (K0 k0 (aB f0 f1 f2 id))) f0 f1 f2 id) (by kernel_rfl) (by rw[FF];(try simp only[aQ,aY,dA]);try rfl)
def _root_.Go.Rv.jU:=fun x:Int×(List U8)×(List U8)×Int×Unit=>FF (300+x.2.1.length+x.2.2.1.length) x.1 x.2.1 x.2.2.1 x.2.2.2.1
abbrev _root_.Go.Rv.wP:aG:=⟨JE,Jb,jU,[]⟩
theorem _root_.Go.Rv.wM:aF Dr Tryz.prog 65 wP:=dI mix .nil (by kernel_rfl) fun x=>⟨aC,_,aX _ _ _ _ _⟩
end wY
def Rz.T(n:Int):Option (Bool×Unit):=cond (decide (n≥1)) (some ((decide (n≤1073741824)),())) (some (false,()))
def gG:=fun x:Int×Unit=>Rz.T x.1
abbrev QO:aG:=⟨[.v false [CT.int .i64]],[(false,[CT.bool])],gG,[]⟩
theorem C9:aF Dr Tryz.prog 66 QO:=bC mix .nil (by kernel_rfl) fun x=>by kernel_rfl
abbrev Jh:Is:=[.v true gQ]
abbrev IK:Os:=[(false,[CT.bool])]
namespace iR
def dF:Tb:=[(63,[],RU),(64,[],Tm),(65,[],wP),(66,[],QO)]
def aC:Nat→List Nat×List Nat:=fun k=>if k=4 then([1,3],[1,2])else if k=10 then([1,5],[2])else([],[])
def zrc{R:Type}(k0:Nat)(p:List Nat):Env→List Ob→au R→Option R:=bJ Tryz.prog (aV dF) 142 0 aC k0 (cO p (dH Tryz.prog 30))
def R0{R:Type}(nx0:uo R)(ex0:zl R)(ex1:zk R)(i f:Int)(f3 f4:List U8):Option R:=cond (decide (i<(f3.length:Int))) (if 0≤i∧i<(f3.length:Int)then(lM ((rd (0,0,0,0,()) f3 i).1,())).bind fun y1=>cond (!y1.1) (ex0 false f f3 f4) (cond (decide (i>0)) (if 0≤(af (i - 1))∧(af (i - 1))<(f3.length:Int)then cond (decide ((rd (0,0,0,0,()) f3 i).1≤(rd (0,0,0,0,()) f3 (af (i - 1))).1)) (ex0 false f f3 f4) (cond ((rd (0,0,0,0,()) f3 i).2.1 != 0) ((jU (f,f3,f4,(rd (0,0,0,0,()) f3 i).2.1,())).bind fun y2=>cond (decide (y2.1<0)) (ex0 false f f3 f4) (cond (decide ((rd (0,0,0,0,()) f3 i).2.1≥(rd (0,0,0,0,()) f3 i).1)) (ex0 false f f3 f4) ((eG ((rd (0,0,0,0,()) f3 i).2.2.1,())).bind fun y3=>cond (!y3.1) (ex0 false f f3 f4) ((gG ((rd (0,0,0,0,()) f3 i).2.2.2.1,())).bind fun y4=>cond (!y4.1) (ex0 false f f3 f4) (nx0 (af (i+1)) f f3 f4))))) ((eG ((rd (0,0,0,0,()) f3 i).2.2.1,())).bind fun y5=>cond (!y5.1) (ex0 false f f3 f4) ((gG ((rd (0,0,0,0,()) f3 i).2.2.2.1,())).bind fun y6=>cond (!y6.1) (ex0 false f f3 f4) (nx0 (af (i+1)) f f3 f4))))else none) (cond ((rd (0,0,0,0,()) f3 i).2.1 != 0) ((jU (f,f3,f4,(rd (0,0,0,0,()) f3 i).2.1,())).bind fun y7=>cond (decide (y7.1<0)) (ex0 false f f3 f4) (cond (decide ((rd (0,0,0,0,()) f3 i).2.1≥(rd (0,0,0,0,()) f3 i).1)) (ex0 false f f3 f4) ((eG ((rd (0,0,0,0,()) f3 i).2.2.1,())).bind fun y8=>cond (!y8.1) (ex0 false f f3 f4) ((gG ((rd (0,0,0,0,()) f3 i).2.2.2.1,())).bind fun y9=>cond (!y9.1) (ex0 false f f3 f4) (nx0 (af (i+1)) f f3 f4))))) ((eG ((rd (0,0,0,0,()) f3 i).2.2.1,())).bind fun y10=>cond (!y10.1) (ex0 false f f3 f4) ((gG ((rd (0,0,0,0,()) f3 i).2.2.2.1,())).bind fun y11=>cond (!y11.1) (ex0 false f f3 f4) (nx0 (af (i+1)) f f3 f4)))))else none) (ex1 f f3 f4)
def R1{R:Type}(nx1:uo R)(ex2:jr R)(ex3:eF R)(i f:Int)(f3 f4:List U8):Option R:=cond (decide (i<(f4.length:Int))) (if 0≤i∧i<(f4.length:Int)then(lM ((rd (0,0,0,0,()) f4 i).1,())).bind fun y1=>cond (!y1.1) (ex2 false) (cond (decide (i>0)) (if 0≤(af (i - 1))∧(af (i - 1))<(f4.length:Int)then cond (decide ((rd (0,0,0,0,()) f4 i).1≤(rd (0,0,0,0,()) f4 (af (i - 1))).1)) (ex2 false) (cond ((rd (0,0,0,0,()) f4 i).2.1 != 0) ((jU (f,f3,f4,(rd (0,0,0,0,()) f4 i).2.1,())).bind fun y2=>cond (decide (y2.1<0)) (ex2 false) ((eG ((rd (0,0,0,0,()) f4 i).2.2.1,())).bind fun y3=>cond (!y3.1) (ex2 false) ((gG ((rd (0,0,0,0,()) f4 i).2.2.2.1,())).bind fun y4=>cond (!y4.1) (ex2 false) (nx1 (af (i+1)) f f3 f4)))) ((eG ((rd (0,0,0,0,()) f4 i).2.2.1,())).bind fun y5=>cond (!y5.1) (ex2 false) ((gG ((rd (0,0,0,0,()) f4 i).2.2.2.1,())).bind fun y6=>cond (!y6.1) (ex2 false) (nx1 (af (i+1)) f f3 f4))))else none) (cond ((rd (0,0,0,0,()) f4 i).2.1 != 0) ((jU (f,f3,f4,(rd (0,0,0,0,()) f4 i).2.1,())).bind fun y7=>cond (decide (y7.1<0)) (ex2 false) ((eG ((rd (0,0,0,0,()) f4 i).2.2.1,())).bind fun y8=>cond (!y8.1) (ex2 false) ((gG ((rd (0,0,0,0,()) f4 i).2.2.2.1,())).bind fun y9=>cond (!y9.1) (ex2 false) (nx1 (af (i+1)) f f3 f4)))) ((eG ((rd (0,0,0,0,()) f4 i).2.2.1,())).bind fun y10=>cond (!y10.1) (ex2 false) ((gG ((rd (0,0,0,0,()) f4 i).2.2.2.1,())).bind fun y11=>cond (!y11.1) (ex2 false) (nx1 (af (i+1)) f f3 f4)))))else none) (ex3 ())
def A0(f0:Int)(f1 f2:List U8)(t2x:Bool)(f:Int)(f3 f4:List U8):Option (Bool×Unit):=some (t2x,())
def A1(lo1:uo (Bool×Unit))(f0:Int)(f1 f2:List U8)(f:Int)(f3 f4:List U8):Option (Bool×Unit):=lo1 0 f f3 f4
def A2(f0:Int)(f1 f2:List U8)(t2x:Bool):Option (Bool×Unit):=some (t2x,())
def A3(f0:Int)(f1 f2:List U8)(_u:Unit):Option (Bool×Unit):=some (true,())
def T(lo0:uo (Bool×Unit))(f0:Int)(f1 f2:List U8):Option (Bool×Unit):=(eG (f0,())).bind fun y1=>cond (!y1.1) (some (false,())) (cond (decide ((f1.length:Int)>30)) (some (false,())) (cond (decide ((f2.length:Int)>60)) (some (false,())) (lo0 0 f0 f1 f2)))
def K0{R:Type}(k0:Nat)(K:au R):au R:=bg 0 (bG (fun env ob=>zrc k0 [1,1,1] env ob (K)) (K))
def K1{R:Type}(k0:Nat)(K:au R):au R:=bg 2 (bG (fun env ob=>zrc k0 [1,1,1,1] env ob (K)) (K))
def L0:uo R:=fun i f f3 f4=>iter 0 [1,3] [1,2] (zrc k0 [1,1,0,1,0,0]) k [(1,.ptr 0 0 0 0),(3,.int .i64 i)] [.box [.int .i64 f,.sl aA f3,.sl aA f4]] K
def L1:uo R:=fun i f f3 f4=>iter 0 [1,5] [2] (zrc k0 [1,1,1,0,1,0,0]) k [(1,.ptr 0 0 0 0),(5,.int .i64 i)] [.box [.int .i64 f,.sl aA f3,.sl aA f4]] K
def H0:zl R:=fun t2x f f3 f4=>K .ret [(1,.ptr 0 0 0 0),(2,.bool t2x)] [.box [.int .i64 f,.sl aA f3,.sl aA f4]]
def H1:zk R:=fun f f3 f4=>K (.exit 0) [(1,.ptr 0 0 0 0),(2,.undef)] [.box [.int .i64 f,.sl aA f3,.sl aA f4]]
def H2:jr R:=fun t2x=>K .ret [(2,.bool t2x)] []
def H3:eF R:=fun _=>K (.exit 2) [(2,.undef)] []
theorem zs0:L0 k0 (k+1) K=R0 (L0 k0 k K) (H0 K) (H1 K):=by kernel_rfl
theorem zs1:L1 k0 (k+1) K=R1 (L1 k0 k K) (H2 K) (H3 K):=by kernel_rfl
def G0{R:Type}(k0:Nat)(hx0:zl R)(hx1:zk R):Nat→uo R
 |0=>fun _ _ _ _=>none
 |k+1=>R0 (G0 k0 hx0 hx1 k) hx0 hx1
theorem aQ:∀ k,L0 k0 k K=G0 k0 (H0 K) (H1 K) k:=bK rfl fun k ih=>by rw[zs0,G0];(try simp only[ih]);try rfl
def G1{R:Type}(k0:Nat)(hx2:jr R)(hx3:eF R):Nat→uo R
 |0=>fun _ _ _ _=>none
 |k+1=>R1 (G1 k0 hx2 hx3 k) hx2 hx3
theorem dK:∀ k,L1 k0 k K=G1 k0 (H2 K) (H3 K) k:=bK rfl fun k ih=>by rw[zs1,G1];(try simp only[ih,aQ]);try rfl
variable (f0:Int) (f1 f2:List U8)
def aB:au (Bool×Unit):=di Tryz.prog [.tmp 2] Jh IK (f0,f1,f2,())
theorem aY:H0 (K0 k0 (aB f0 f1 f2))=A0 f0 f1 f2:=by kernel_rfl
theorem dA:H1 (K0 k0 (aB f0 f1 f2))=A1 (L1 k0 k0 (K1 k0 (aB f0 f1 f2))) f0 f1 f2:=by kernel_rfl
theorem lI:H2 (K1 k0 (aB f0 f1 f2))=A2 f0 f1 f2:=by kernel_rfl
theorem oQ:H3 (K1 k0 (aB f0 f1 f2))=A3 f0 f1 f2:=by kernel_rfl
def FF:Option (Bool×Unit):=T (G0 k0 (A0 f0 f1 f2) (A1 (G1 k0 (A2 f0 f1 f2) (A3 f0 f1 f2) k0) f0 f1 f2) k0) f0 f1 f2
theorem aX:dw Tryz.prog (aV dF) aC k0 30 Jh IK [] (f0,f1,f2,())=FF k0 f0 f1 f2:=Eq.trans (b:=T (L0 k0 k0 (K0 k0 (aB f0 f1 f2))) f0 f1 f2) (by kernel_rfl) (by rw[FF];(try simp only[aQ,dK,aY,dA,lI,oQ]);try rfl)
def _root_.Go.Rv.zL:=fun x:U3=>FF (300+x.2.1.length+x.2.2.1.length) x.1 x.2.1 x.2.2.1
abbrev _root_.Go.Rv.Dk:aG:=⟨Jh,IK,zL,[]⟩
theorem _root_.Go.Rv.JB:aF Dr Tryz.prog 30 Dk:=dI mix (.c uI (.c Af (.c wM (.c C9 .nil)))) (by kernel_rfl) fun x=>⟨aC,_,aX _ _ _ _⟩
end iR
def SK.T(n:Int):Option (Bool×Unit):=cond (decide (n≥0)) (some ((decide (n≤1000000)),())) (some (false,()))
def DC:=fun x:Int×Unit=>SK.T x.1
abbrev aaZ:aG:=⟨[.v false [CT.int .i64]],[(false,[CT.bool])],DC,[]⟩
theorem aav:aF Dr Tryz.prog 97 aaZ:=bC mix .nil (by kernel_rfl) fun x=>by kernel_rfl
def Sj.T(l0 l1 l2:Int):Option (Bool×Unit):=(lM (l0,())).bind fun y1=>cond y1.1 ((eG (l1,())).bind fun y2=>cond y2.1 ((DC (l2,())).bind fun y3=>some (y3.1,())) (some (false,()))) (some (false,()))
def zV:=fun x:U9=>Sj.T x.1 x.2.1 x.2.2.1
abbrev zU:aG:=⟨[.v true ct0],[(false,[CT.bool])],zV,[]⟩
theorem QI:aF Dr Tryz.prog 67 zU:=bC mix (.c uI (.c Af (.c aav .nil))) (by kernel_rfl) fun x=>by kernel_rfl
abbrev Iw:Is:=[.v false [CT.sl ct0]]
abbrev Ib:Os:=[(false,[CT.bool])]
namespace kT
def aC:Nat→List Nat×List Nat:=fun k=>if k=4 then([0,3],[2])else([],[])
def zrc{R:Type}(k0:Nat)(p:List Nat):Env→List Ob→au R→Option R:=bJ Tryz.prog (aV [(67,[],zU)]) 37 0 aC k0 (cO p (dH Tryz.prog 31))
def R0{R:Type}(nx0:Gt R)(ex0:jr R)(ex1:eF R)(list2:List U9)(i:Int):Option R:=cond (decide (i<(list2.length:Int))) (if 0≤i∧i<(list2.length:Int)then(zV ((rd (0,0,0,()) list2 i).1,(rd (0,0,0,()) list2 i).2.1,(rd (0,0,0,()) list2 i).2.2.1,())).bind fun y1=>cond (!y1.1) (ex0 false) (cond (decide (i>0)) (if 0≤i∧i<(list2.length:Int)then if 0≤(af (i - 1))∧(af (i - 1))<(list2.length:Int)then cond (decide ((rd (0,0,0,()) list2 i).1≤(rd (0,0,0,()) list2 (af (i - 1))).1)) (ex0 false) (nx0 list2 (af (i+1)))else none else none) (nx0 list2 (af (i+1))))else none) (ex1 ())
def A0(list:List U9)(t2x:Bool):Option (Bool×Unit):=some (t2x,())
def A1(list:List U9)(_u:Unit):Option (Bool×Unit):=some (true,())
def T(lo0:Gt (Bool×Unit))(list:List U9):Option (Bool×Unit):=cond (decide ((list.length:Int)>60)) (some (false,())) (lo0 list 0)
def K0{R:Type}(k0:Nat)(K:au R):au R:=bg 0 (bG (fun env ob=>zrc k0 [1,1,1] env ob (K)) (K))
def L0:Gt R:=fun list2 i=>iter 0 [0,3] [2] (zrc k0 [1,1,0,1,0,0]) k [(0,.sl ct0 list2),(3,.int .i64 i)] [] K
def H0:jr R:=fun t2x=>K .ret [(2,.bool t2x)] []
def H1:eF R:=fun _=>K (.exit 0) [(2,.undef)] []
theorem zs0:L0 k0 (k+1) K=R0 (L0 k0 k K) (H0 K) (H1 K):=by kernel_rfl
def G0{R:Type}(k0:Nat)(hx0:jr R)(hx1:eF R):Nat→Gt R
 |0=>fun _ _=>none
 |k+1=>R0 (G0 k0 hx0 hx1 k) hx0 hx1
theorem aQ:∀ k,L0 k0 k K=G0 k0 (H0 K) (H1 K) k:=bK rfl fun k ih=>by rw[zs0,G0];(try simp only[ih]);try rfl
variable (list:List U9)
def aB:au (Bool×Unit):=di Tryz.prog [.tmp 2] Iw Ib (list,())
theorem aY:H0 (K0 k0 (aB list))=A0 list:=by kernel_rfl
theorem dA:H1 (K0 k0 (aB list))=A1 list:=by kernel_rfl
def FF:Option (Bool×Unit):=T (G0 k0 (A0 list) (A1 list) k0) list
theorem aX:dw Tryz.prog (aV [(67,[],zU)]) aC k0 31 Iw Ib [] (list,())=FF k0 list:=Eq.trans (b:=T (L0 k0 k0 (K0 k0 (aB list))) list) (by kernel_rfl) (by rw[FF];(try simp only[aQ,aY,dA]);try rfl)
def _root_.Go.Rv.wI:=fun x:(List U9)×Unit=>FF (300+x.1.length) x.1
abbrev _root_.Go.Rv.wH:aG:=⟨Iw,Ib,wI,[]⟩
theorem _root_.Go.Rv.CS:aF Dr Tryz.prog 31 wH:=dI mix (.c QI .nil) (by kernel_rfl) fun x=>⟨aC,_,aX _ _⟩
end kT
abbrev Iu:Is:=[.v true iZ]
abbrev Ia:Os:=[(false,[CT.bool])]
namespace kS
def dF:Tb:=[(29,[],QN),(30,[],Dk),(31,[],wH)]
def aC:Nat→List Nat×List Nat:=fun k=>if k=4 then([1,3],[2])else([],[])
def zrc{R:Type}(k0:Nat)(p:List Nat):Env→List Ob→au R→Option R:=bJ Tryz.prog (aV dF) 93 0 aC k0 (cO p (dH Tryz.prog 8))
def R0{R:Type}(nx0:Gs R)(ex0:jr R)(ex1:eF R)(i s s7 s8 s9:Int)(s10 s11:List U8)(s12:List U9):Option R:=cond (decide (i<(s12.length:Int))) (if 0≤i∧i<(s12.length:Int)then if 0≤i∧i<(s11.length:Int)then cond ((rd (0,0,0,()) s12 i).1 != (rd (0,0,0,0,()) s11 i).1) (ex0 false) (if 0≤i∧i<(s12.length:Int)then cond (decide ((rd (0,0,0,()) s12 i).2.2.1≤s8)) (ex0 false) (if 0≤i∧i<(s12.length:Int)then cond (decide ((rd (0,0,0,()) s12 i).2.2.1>(af (s8+s)))) (ex0 false) (nx0 (af (i+1)) s s7 s8 s9 s10 s11 s12)else none)else none)else none else none) (ex1 ())
def A0(s0 s1 s2 s3:Int)(s4 s5:List U8)(s6:List U9)(t2x:Bool):Option (Bool×Unit):=some (t2x,())
def A1(s0 s1 s2 s3:Int)(s4 s5:List U8)(s6:List U9)(_u:Unit):Option (Bool×Unit):=some (true,())
def T(lo0:Gs (Bool×Unit))(s0 s1 s2 s3:Int)(s4 s5:List U8)(s6:List U9):Option (Bool×Unit):=(zI (s0,())).bind fun y1=>cond (!y1.1) (some (false,())) (cond (decide (s1<0)) (some (false,())) (cond (decide (s1>s2)) (some (false,())) (cond (decide (s2>999000)) (some (false,())) ((zL (s3,s4,s5,())).bind fun y2=>cond (!y2.1) (some (false,())) ((wI (s6,())).bind fun y3=>cond (!y3.1) (some (false,())) (cond ((s6.length:Int) != (s5.length:Int)) (some (false,())) (lo0 0 s0 s1 s2 s3 s4 s5 s6)))))))
def K0{R:Type}(k0:Nat)(K:au R):au R:=bg 0 (bG (fun env ob=>zrc k0 [1,1,1] env ob (K)) (K))
def L0:Gs R:=fun i s s7 s8 s9 s10 s11 s12=>iter 0 [1,3] [2] (zrc k0 [1,1,0,1,0,0]) k [(1,.ptr 0 0 0 0),(3,.int .i64 i)] [.box [.int .i64 s,.int .i64 s7,.int .i64 s8,.int .i64 s9,.sl aA s10,.sl aA s11,.sl ct0 s12]] K
def H0:jr R:=fun t2x=>K .ret [(2,.bool t2x)] []
def H1:eF R:=fun _=>K (.exit 0) [(2,.undef)] []
theorem zs0:L0 k0 (k+1) K=R0 (L0 k0 k K) (H0 K) (H1 K):=by kernel_rfl
def G0{R:Type}(k0:Nat)(hx0:jr R)(hx1:eF R):Nat→Gs R
 |0=>fun _ _ _ _ _ _ _ _=>none
 |k+1=>R0 (G0 k0 hx0 hx1 k) hx0 hx1
theorem aQ:∀ k,L0 k0 k K=G0 k0 (H0 K) (H1 K) k:=bK rfl fun k ih=>by rw[zs0,G0];(try simp only[ih]);try rfl
variable (s0 s1 s2 s3:Int) (s4 s5:List U8) (s6:List U9)
def aB:au (Bool×Unit):=di Tryz.prog [.tmp 2] Iu Ia (s0,s1,s2,s3,s4,s5,s6,())
theorem aY:H0 (K0 k0 (aB s0 s1 s2 s3 s4 s5 s6))=A0 s0 s1 s2 s3 s4 s5 s6:=by kernel_rfl
theorem dA:H1 (K0 k0 (aB s0 s1 s2 s3 s4 s5 s6))=A1 s0 s1 s2 s3 s4 s5 s6:=by kernel_rfl
def FF:Option (Bool×Unit):=T (G0 k0 (A0 s0 s1 s2 s3 s4 s5 s6) (A1 s0 s1 s2 s3 s4 s5 s6) k0) s0 s1 s2 s3 s4 s5 s6
theorem aX:dw Tryz.prog (aV dF) aC k0 8 Iu Ia [] (s0,s1,s2,s3,s4,s5,s6,())=FF k0 s0 s1 s2 s3 s4 s5 s6:=Eq.trans (b:=T (L0 k0 k0 (K0 k0 (aB s0 s1 s2 s3 s4 s5 s6))) s0 s1 s2 s3 s4 s5 s6) (by kernel_rfl) (by rw[FF];(try simp only[aQ,aY,dA]);try rfl)
def _root_.Go.Rv.zG:=fun x:U1=>FF (300+x.2.2.2.2.1.length+x.2.2.2.2.2.1.length+x.2.2.2.2.2.2.1.length) x.1 x.2.1 x.2.2.1 x.2.2.2.1 x.2.2.2.2.1 x.2.2.2.2.2.1 x.2.2.2.2.2.2.1
abbrev _root_.Go.Rv.Jo:aG:=⟨Iu,Ia,zG,[]⟩
theorem _root_.Go.Rv.IV:aF Dr Tryz.prog 8 Jo:=dI mix (.c Qx (.c JB (.c CS .nil))) (by kernel_rfl) fun x=>⟨aC,_,aX _ _ _ _ _ _ _ _⟩
end kS
def WG.T(n low high:Int):Option (Bool×Unit):=cond (decide (low≤n)) (some ((decide (n≤high)),())) (some (false,()))
def mr:=fun x:U9=>WG.T x.1 x.2.1 x.2.2.1
abbrev UW:aG:=⟨[.v false [CT.int .i64],.v false [CT.int .i64],.v false [CT.int .i64]],[(false,[CT.bool])],mr,[]⟩
theorem xA:aF Dr Tryz.prog 43 UW:=bC mix .nil (by kernel_rfl) fun x=>by kernel_rfl
def Ep.T(n:Int):Option (Bool×Unit):=(mr (n,1,1000000,())).bind fun y1=>some (y1.1,())
def gI:=fun x:Int×Unit=>Ep.T x.1
abbrev TL:aG:=⟨[.v false [CT.int .i64]],[(false,[CT.bool])],gI,[]⟩
theorem D5:aF Dr Tryz.prog 68 TL:=bC mix (.c xA .nil) (by kernel_rfl) fun x=>by kernel_rfl
def D9.T(n:Int):Option (Bool×Unit):=(mr (n,0,1125899906842624,())).bind fun y1=>some (y1.1,())
def jc:=fun x:Int×Unit=>D9.T x.1
abbrev SE:aG:=⟨[.v false [CT.int .i64]],[(false,[CT.bool])],jc,[]⟩
theorem Aa:aF Dr Tryz.prog 69 SE:=bC mix (.c xA .nil) (by kernel_rfl) fun x=>by kernel_rfl
def DT.T(n:Int):Option (Bool×Unit):=(mr (n,1,1073741824,())).bind fun y1=>some (y1.1,())
def kG:=fun x:Int×Unit=>DT.T x.1
abbrev Rt:aG:=⟨[.v false [CT.int .i64]],[(false,[CT.bool])],kG,[]⟩
theorem JS:aF Dr Tryz.prog 70 Rt:=bC mix (.c xA .nil) (by kernel_rfl) fun x=>by kernel_rfl
abbrev Jk:Is:=[.v true gQ]
abbrev IU:Os:=[(false,[CT.bool])]
namespace iT
def dF:Tb:=[(68,[],TL),(69,[],SE),(70,[],Rt),(92,[],Qi)]
def aC:Nat→List Nat×List Nat:=fun k=>if k=4 then([1,25,26,27],[1,2])else if k=11 then([1,78,79,80],[2])else([],[])
def zrc{R:Type}(k0:Nat)(p:List Nat):Env→List Ob→au R→Option R:=bJ Tryz.prog (aV dF) 125 0 aC k0 (cO p (dH Tryz.prog 44))
def R0{R:Type}(nx0:um R)(ex0:zl R)(ex1:zk R)(t25x:List U8)(t26x t27x f:Int)(f3 f4:List U8):Option R:=cond (decide (t27x<t26x)) (if 0≤t27x∧t27x<(t25x.length:Int)then if 0≤t27x∧t27x≤(f3.length:Int)then(gI ((rd (0,0,0,0,()) t25x t27x).1,())).bind fun y1=>cond (!y1.1) (ex0 false f f3 f4) (cond (decide (t27x>0)) (if 0≤(af (t27x - 1))∧(af (t27x - 1))<(f3.length:Int)then cond (decide ((rd (0,0,0,0,()) f3 (af (t27x - 1))).1≥(rd (0,0,0,0,()) t25x t27x).1)) (ex0 false f f3 f4) ((mY (0,(f3.take (t27x.toNat)),[],(rd (0,0,0,0,()) t25x t27x).2.1,())).bind fun y2=>cond (!y2.1) (ex0 false f f3 f4) ((jc ((rd (0,0,0,0,()) t25x t27x).2.2.1,())).bind fun y3=>cond (!y3.1) (ex0 false f f3 f4) ((kG ((rd (0,0,0,0,()) t25x t27x).2.2.2.1,())).bind fun y4=>cond (!y4.1) (ex0 false f f3 f4) (nx0 t25x t26x (af (t27x+1)) f f3 f4))))else none) ((mY (0,(f3.take (t27x.toNat)),[],(rd (0,0,0,0,()) t25x t27x).2.1,())).bind fun y5=>cond (!y5.1) (ex0 false f f3 f4) ((jc ((rd (0,0,0,0,()) t25x t27x).2.2.1,())).bind fun y6=>cond (!y6.1) (ex0 false f f3 f4) ((kG ((rd (0,0,0,0,()) t25x t27x).2.2.2.1,())).bind fun y7=>cond (!y7.1) (ex0 false f f3 f4) (nx0 t25x t26x (af (t27x+1)) f f3 f4)))))else none else none) (ex1 f f3 f4)
def R1{R:Type}(nx1:um R)(ex2:jr R)(ex3:eF R)(t78x:List U8)(t79x t80x f:Int)(f3 f4:List U8):Option R:=cond (decide (t80x<t79x)) (if 0≤t80x∧t80x<(t78x.length:Int)then(gI ((rd (0,0,0,0,()) t78x t80x).1,())).bind fun y1=>cond (!y1.1) (ex2 false) (cond (decide (t80x>0)) (if 0≤(af (t80x - 1))∧(af (t80x - 1))<(f4.length:Int)then cond (decide ((rd (0,0,0,0,()) f4 (af (t80x - 1))).1≥(rd (0,0,0,0,()) t78x t80x).1)) (ex2 false) ((mY (f,f3,f4,(rd (0,0,0,0,()) t78x t80x).2.1,())).bind fun y2=>cond (!y2.1) (ex2 false) ((jc ((rd (0,0,0,0,()) t78x t80x).2.2.1,())).bind fun y3=>cond (!y3.1) (ex2 false) ((kG ((rd (0,0,0,0,()) t78x t80x).2.2.2.1,())).bind fun y4=>cond (!y4.1) (ex2 false) (nx1 t78x t79x (af (t80x+1)) f f3 f4))))else none) ((mY (f,f3,f4,(rd (0,0,0,0,()) t78x t80x).2.1,())).bind fun y5=>cond (!y5.1) (ex2 false) ((jc ((rd (0,0,0,0,()) t78x t80x).2.2.1,())).bind fun y6=>cond (!y6.1) (ex2 false) ((kG ((rd (0,0,0,0,()) t78x t80x).2.2.2.1,())).bind fun y7=>cond (!y7.1) (ex2 false) (nx1 t78x t79x (af (t80x+1)) f f3 f4)))))else none) (ex3 ())
def A0(f0:Int)(f1 f2:List U8)(t2x:Bool)(f:Int)(f3 f4:List U8):Option (Bool×Unit):=some (t2x,())
def A1(lo1:um (Bool×Unit))(f0:Int)(f1 f2:List U8)(f:Int)(f3 f4:List U8):Option (Bool×Unit):=lo1 f4 (f4.length:Int) 0 f f3 f4
def A2(f0:Int)(f1 f2:List U8)(t2x:Bool):Option (Bool×Unit):=some (t2x,())
def A3(f0:Int)(f1 f2:List U8)(_u:Unit):Option (Bool×Unit):=some (true,())
def T(lo0:um (Bool×Unit))(f0:Int)(f1 f2:List U8):Option (Bool×Unit):=(jc (f0,())).bind fun y1=>cond (!y1.1) (some (false,())) (cond (decide ((f1.length:Int)>30)) (some (false,())) (cond (decide ((f2.length:Int)>60)) (some (false,())) (lo0 f1 (f1.length:Int) 0 f0 f1 f2)))
def K0{R:Type}(k0:Nat)(K:au R):au R:=bg 0 (bG (fun env ob=>zrc k0 [1,1,1] env ob (K)) (K))
def K1{R:Type}(k0:Nat)(K:au R):au R:=bg 2 (bG (fun env ob=>zrc k0 [1,1,1,1] env ob (K)) (K))
def L0:um R:=fun t25x t26x t27x f f3 f4=>iter 0 [1,25,26,27] [1,2] (zrc k0 [1,1,0,1,0,0]) k [(1,.ptr 0 0 0 0),(25,.sl aA t25x),(26,.int .i64 t26x),(27,.int .i64 t27x)] [.box [.int .i64 f,.sl aA f3,.sl aA f4]] K
def L1:um R:=fun t78x t79x t80x f f3 f4=>iter 0 [1,78,79,80] [2] (zrc k0 [1,1,1,0,1,0,0]) k [(1,.ptr 0 0 0 0),(78,.sl aA t78x),(79,.int .i64 t79x),(80,.int .i64 t80x)] [.box [.int .i64 f,.sl aA f3,.sl aA f4]] K
def H0:zl R:=fun t2x f f3 f4=>K .ret [(1,.ptr 0 0 0 0),(2,.bool t2x)] [.box [.int .i64 f,.sl aA f3,.sl aA f4]]
def H1:zk R:=fun f f3 f4=>K (.exit 0) [(1,.ptr 0 0 0 0),(2,.undef)] [.box [.int .i64 f,.sl aA f3,.sl aA f4]]
def H2:jr R:=fun t2x=>K .ret [(2,.bool t2x)] []
def H3:eF R:=fun _=>K (.exit 2) [(2,.undef)] []
theorem zs0:L0 k0 (k+1) K=R0 (L0 k0 k K) (H0 K) (H1 K):=by kernel_rfl
theorem zs1:L1 k0 (k+1) K=R1 (L1 k0 k K) (H2 K) (H3 K):=by kernel_rfl
def G0{R:Type}(k0:Nat)(hx0:zl R)(hx1:zk R):Nat→um R
 |0=>fun _ _ _ _ _ _=>none
 |k+1=>R0 (G0 k0 hx0 hx1 k) hx0 hx1
theorem aQ:∀ k,L0 k0 k K=G0 k0 (H0 K) (H1 K) k:=bK rfl fun k ih=>by rw[zs0,G0];(try simp only[ih]);try rfl
def G1{R:Type}(k0:Nat)(hx2:jr R)(hx3:eF R):Nat→um R
 |0=>fun _ _ _ _ _ _=>none
 |k+1=>R1 (G1 k0 hx2 hx3 k) hx2 hx3
theorem dK:∀ k,L1 k0 k K=G1 k0 (H2 K) (H3 K) k:=bK rfl fun k ih=>by rw[zs1,G1];(try simp only[ih,aQ]);try rfl
variable (f0:Int) (f1 f2:List U8)
def aB:au (Bool×Unit):=di Tryz.prog [.tmp 2] Jk IU (f0,f1,f2,())
theorem aY:H0 (K0 k0 (aB f0 f1 f2))=A0 f0 f1 f2:=by kernel_rfl
theorem dA:H1 (K0 k0 (aB f0 f1 f2))=A1 (L1 k0 k0 (K1 k0 (aB f0 f1 f2))) f0 f1 f2:=by kernel_rfl
theorem lI:H2 (K1 k0 (aB f0 f1 f2))=A2 f0 f1 f2:=by kernel_rfl
theorem oQ:H3 (K1 k0 (aB f0 f1 f2))=A3 f0 f1 f2:=by kernel_rfl
def FF:Option (Bool×Unit):=T (G0 k0 (A0 f0 f1 f2) (A1 (G1 k0 (A2 f0 f1 f2) (A3 f0 f1 f2) k0) f0 f1 f2) k0) f0 f1 f2
theorem aX:dw Tryz.prog (aV dF) aC k0 44 Jk IU [] (f0,f1,f2,())=FF k0 f0 f1 f2:=Eq.trans (b:=T (L0 k0 k0 (K0 k0 (aB f0 f1 f2))) f0 f1 f2) (by kernel_rfl) (by rw[FF];(try simp only[aQ,dK,aY,dA,lI,oQ]);try rfl)
def _root_.Go.Rv.Kq:=fun x:U3=>FF (300+x.2.1.length+x.2.2.1.length) x.1 x.2.1 x.2.2.1
abbrev _root_.Go.Rv.QY:aG:=⟨Jk,IU,Kq,[]⟩
theorem _root_.Go.Rv.Z4:aF Dr Tryz.prog 44 QY:=dI mix (.c D5 (.c Aa (.c JS (.c CO .nil)))) (by kernel_rfl) fun x=>⟨aC,_,aX _ _ _ _⟩
end iT
def TG.T(n:Int):Option (Bool×Unit):=(mr (n,0,1000000,())).bind fun y1=>some (y1.1,())
def DY:=fun x:Int×Unit=>TG.T x.1
abbrev abn:aG:=⟨[.v false [CT.int .i64]],[(false,[CT.bool])],DY,[]⟩
theorem aaW:aF Dr Tryz.prog 115 abn:=bC mix (.c xA .nil) (by kernel_rfl) fun x=>by kernel_rfl
def Qp.T(l0 l1 l2:Int):Option (Bool×Unit):=(gI (l0,())).bind fun y1=>cond y1.1 ((jc (l1,())).bind fun y2=>cond y2.1 ((DY (l2,())).bind fun y3=>some (y3.1,())) (some (false,()))) (some (false,()))
def CQ:=fun x:U9=>Qp.T x.1 x.2.1 x.2.2.1
abbrev IC:aG:=⟨[.v true ct0],[(false,[CT.bool])],CQ,[]⟩
theorem Zc:aF Dr Tryz.prog 93 IC:=bC mix (.c D5 (.c Aa (.c aaW .nil))) (by kernel_rfl) fun x=>by kernel_rfl
abbrev IA:Is:=[.v false [CT.sl ct0]]
abbrev Ig:Os:=[(false,[CT.bool])]
namespace kD
def aC:Nat→List Nat×List Nat:=fun k=>if k=2 then([0,5,6,7],[0,2])else([],[])
def zrc{R:Type}(k0:Nat)(p:List Nat):Env→List Ob→au R→Option R:=bJ Tryz.prog (aV [(93,[],IC)]) 34 0 aC k0 (cO p (dH Tryz.prog 45))
def R0{R:Type}(nx0:Gq R)(ex0:PO R)(ex1:PN R)(list2 t5x:List U9)(t6x t7x:Int):Option R:=cond (decide (t7x<t6x)) (if 0≤t7x∧t7x<(t5x.length:Int)then(CQ ((rd (0,0,0,()) t5x t7x).1,(rd (0,0,0,()) t5x t7x).2.1,(rd (0,0,0,()) t5x t7x).2.2.1,())).bind fun y1=>cond (!y1.1) (ex0 list2 false) (cond (decide (t7x>0)) (if 0≤(af (t7x - 1))∧(af (t7x - 1))<(list2.length:Int)then cond (decide ((rd (0,0,0,()) list2 (af (t7x - 1))).1≥(rd (0,0,0,()) t5x t7x).1)) (ex0 list2 false) (nx0 list2 t5x t6x (af (t7x+1)))else none) (nx0 list2 t5x t6x (af (t7x+1))))else none) (ex1 list2)
def A0(list:List U9)(list2:List U9)(t2x:Bool):Option (Bool×Unit):=some (t2x,())
def A1(list:List U9)(list2:List U9):Option (Bool×Unit):=some ((decide ((list2.length:Int)≤60)),())
def T(lo0:Gq (Bool×Unit))(list:List U9):Option (Bool×Unit):=lo0 list list (list.length:Int) 0
def K0{R:Type}(k0:Nat)(K:au R):au R:=bg 0 (bG (fun env ob=>zrc k0 [1,1] env ob (K)) (K))
def L0:Gq R:=fun list2 t5x t6x t7x=>iter 0 [0,5,6,7] [0,2] (zrc k0 [1,0,1,0,0]) k [(0,.sl ct0 list2),(5,.sl ct0 t5x),(6,.int .i64 t6x),(7,.int .i64 t7x)] [] K
def H0:PO R:=fun list2 t2x=>K .ret [(0,.sl ct0 list2),(2,.bool t2x)] []
def H1:PN R:=fun list2=>K (.exit 0) [(0,.sl ct0 list2),(2,.undef)] []
theorem zs0:L0 k0 (k+1) K=R0 (L0 k0 k K) (H0 K) (H1 K):=by kernel_rfl
def G0{R:Type}(k0:Nat)(hx0:PO R)(hx1:PN R):Nat→Gq R
 |0=>fun _ _ _ _=>none
 |k+1=>R0 (G0 k0 hx0 hx1 k) hx0 hx1
theorem aQ:∀ k,L0 k0 k K=G0 k0 (H0 K) (H1 K) k:=bK rfl fun k ih=>by rw[zs0,G0];(try simp only[ih]);try rfl
variable (list:List U9)
def aB:au (Bool×Unit):=di Tryz.prog [.tmp 2] IA Ig (list,())
theorem aY:H0 (K0 k0 (aB list))=A0 list:=by kernel_rfl
theorem dA:H1 (K0 k0 (aB list))=A1 list:=by kernel_rfl
def FF:Option (Bool×Unit):=T (G0 k0 (A0 list) (A1 list) k0) list
theorem aX:dw Tryz.prog (aV [(93,[],IC)]) aC k0 45 IA Ig [] (list,())=FF k0 list:=Eq.trans (b:=T (L0 k0 k0 (K0 k0 (aB list))) list) (by kernel_rfl) (by rw[FF];(try simp only[aQ,aY,dA]);try rfl)
def _root_.Go.Rv.Jq:=fun x:(List U9)×Unit=>FF (300+x.1.length) x.1
abbrev _root_.Go.Rv.Qu:aG:=⟨IA,Ig,Jq,[]⟩
theorem _root_.Go.Rv.Zo:aF Dr Tryz.prog 45 Qu:=dI mix (.c Zc .nil) (by kernel_rfl) fun x=>⟨aC,_,aX _ _⟩
end kD
abbrev Iz:Is:=[.v true iZ]
abbrev Ie:Os:=[(false,[CT.bool])]
namespace kU
def dF:Tb:=[(43,[],UW),(44,[],QY),(45,[],Qu)]
def aC:Nat→List Nat×List Nat:=fun k=>if k=4 then([1,46,47,48],[2])else([],[])
def zrc{R:Type}(k0:Nat)(p:List Nat):Env→List Ob→au R→Option R:=bJ Tryz.prog (aV dF) 78 0 aC k0 (cO p (dH Tryz.prog 12))
def R0{R:Type}(nx0:Gp R)(ex0:jr R)(ex1:eF R)(t46x:List U9)(t47x t48x s s7 s8 s9:Int)(s10 s11:List U8)(s12:List U9):Option R:=cond (decide (t48x<t47x)) (if 0≤t48x∧t48x<(t46x.length:Int)then if 0≤t48x∧t48x<(s11.length:Int)then cond ((rd (0,0,0,()) t46x t48x).1 != (rd (0,0,0,0,()) s11 t48x).1) (ex0 false) ((mr ((rd (0,0,0,()) t46x t48x).2.2.1,(af (s8+1)),(af (s8+s)),())).bind fun y1=>cond (!y1.1) (ex0 false) (nx0 t46x t47x (af (t48x+1)) s s7 s8 s9 s10 s11 s12))else none else none) (ex1 ())
def A0(s0 s1 s2 s3:Int)(s4 s5:List U8)(s6:List U9)(t2x:Bool):Option (Bool×Unit):=some (t2x,())
def A1(s0 s1 s2 s3:Int)(s4 s5:List U8)(s6:List U9)(_u:Unit):Option (Bool×Unit):=some (true,())
def T(lo0:Gp (Bool×Unit))(s0 s1 s2 s3:Int)(s4 s5:List U8)(s6:List U9):Option (Bool×Unit):=(mr (s0,1,1000,())).bind fun y1=>cond (!y1.1) (some (false,())) ((mr (s2,0,999000,())).bind fun y2=>cond (!y2.1) (some (false,())) ((mr (s1,0,s2,())).bind fun y3=>cond (!y3.1) (some (false,())) ((Kq (s3,s4,s5,())).bind fun y4=>cond (!y4.1) (some (false,())) ((Jq (s6,())).bind fun y5=>cond (!y5.1) (some (false,())) (cond ((s6.length:Int) != (s5.length:Int)) (some (false,())) (lo0 s6 (s6.length:Int) 0 s0 s1 s2 s3 s4 s5 s6))))))
def K0{R:Type}(k0:Nat)(K:au R):au R:=bg 0 (bG (fun env ob=>zrc k0 [1,1,1] env ob (K)) (K))
def L0:Gp R:=fun t46x t47x t48x s s7 s8 s9 s10 s11 s12=>iter 0 [1,46,47,48] [2] (zrc k0 [1,1,0,1,0,0]) k [(1,.ptr 0 0 0 0),(46,.sl ct0 t46x),(47,.int .i64 t47x),(48,.int .i64 t48x)] [.box [.int .i64 s,.int .i64 s7,.int .i64 s8,.int .i64 s9,.sl aA s10,.sl aA s11,.sl ct0 s12]] K
def H0:jr R:=fun t2x=>K .ret [(2,.bool t2x)] []
def H1:eF R:=fun _=>K (.exit 0) [(2,.undef)] []
theorem zs0:L0 k0 (k+1) K=R0 (L0 k0 k K) (H0 K) (H1 K):=by kernel_rfl
def G0{R:Type}(k0:Nat)(hx0:jr R)(hx1:eF R):Nat→Gp R
 |0=>fun _ _ _ _ _ _ _ _ _ _=>none
 |k+1=>R0 (G0 k0 hx0 hx1 k) hx0 hx1
theorem aQ:∀ k,L0 k0 k K=G0 k0 (H0 K) (H1 K) k:=bK rfl fun k ih=>by rw[zs0,G0];(try simp only[ih]);try rfl
variable (s0 s1 s2 s3:Int) (s4 s5:List U8) (s6:List U9)
def aB:au (Bool×Unit):=di Tryz.prog [.tmp 2] Iz Ie (s0,s1,s2,s3,s4,s5,s6,())
theorem aY:H0 (K0 k0 (aB s0 s1 s2 s3 s4 s5 s6))=A0 s0 s1 s2 s3 s4 s5 s6:=by kernel_rfl
theorem dA:H1 (K0 k0 (aB s0 s1 s2 s3 s4 s5 s6))=A1 s0 s1 s2 s3 s4 s5 s6:=by kernel_rfl
def FF:Option (Bool×Unit):=T (G0 k0 (A0 s0 s1 s2 s3 s4 s5 s6) (A1 s0 s1 s2 s3 s4 s5 s6) k0) s0 s1 s2 s3 s4 s5 s6
theorem aX:dw Tryz.prog (aV dF) aC k0 12 Iz Ie [] (s0,s1,s2,s3,s4,s5,s6,())=FF k0 s0 s1 s2 s3 s4 s5 s6:=Eq.trans (b:=T (L0 k0 k0 (K0 k0 (aB s0 s1 s2 s3 s4 s5 s6))) s0 s1 s2 s3 s4 s5 s6) (by kernel_rfl) (by rw[FF];(try simp only[aQ,aY,dA]);try rfl)
def _root_.Go.Rv.CX:=fun x:U1=>FF (300+x.2.2.2.2.1.length+x.2.2.2.2.2.1.length+x.2.2.2.2.2.2.1.length) x.1 x.2.1 x.2.2.1 x.2.2.2.1 x.2.2.2.2.1 x.2.2.2.2.2.1 x.2.2.2.2.2.2.1
abbrev _root_.Go.Rv.Qs:aG:=⟨Iz,Ie,CX,[]⟩
theorem _root_.Go.Rv.Qj:aF Dr Tryz.prog 12 Qs:=dI mix (.c xA (.c Z4 (.c Zo .nil))) (by kernel_rfl) fun x=>⟨aC,_,aX _ _ _ _ _ _ _ _⟩
end kU
def Ac.T(e0 e1 e2 e3 e4:Int):Option (Bool×Unit):=cond (e2==0) (cond (e0==1) ((jc (e3,())).bind fun y1=>(kG (e4,())).bind fun y2=>(gI (e1,())).bind fun y3=>cond y3.1 (cond y1.1 (some (y2.1,())) (some (false,()))) (cond (e0==8) (cond (e1==0) (cond y1.1 (some (y2.1,())) (some (false,()))) (some (false,()))) (some (false,())))) (cond (e0==6) ((jc (e3,())).bind fun y4=>(kG (e4,())).bind fun y5=>(gI (e1,())).bind fun y6=>cond y6.1 (cond y4.1 (some (y5.1,())) (some (false,()))) (cond (e0==8) (cond (e1==0) (cond y4.1 (some (y5.1,())) (some (false,()))) (some (false,()))) (some (false,())))) (cond (e0==3) ((jc (e3,())).bind fun y7=>(gI (e1,())).bind fun y8=>cond y8.1 (cond (e2==0) (cond y7.1 (some ((e4==0),())) (some (false,()))) (some (false,()))) (cond (e0==8) (cond (e1==0) (cond (e2==0) (cond y7.1 (some ((e4==0),())) (some (false,()))) (some (false,()))) (some (false,()))) (some (false,())))) (cond (e0==8) ((jc (e3,())).bind fun y9=>(gI (e1,())).bind fun y10=>cond y10.1 (cond (e2==0) (cond y9.1 (some ((e4==0),())) (some (false,()))) (some (false,()))) (cond (e0==8) (cond (e1==0) (cond (e2==0) (cond y9.1 (some ((e4==0),())) (some (false,()))) (some (false,()))) (some (false,()))) (some (false,())))) (cond (e0==4) ((kG (e3,())).bind fun y11=>(gI (e1,())).bind fun y12=>cond y12.1 (cond (e2==0) (cond y11.1 (some ((e4==0),())) (some (false,()))) (some (false,()))) (cond (e0==8) (cond (e1==0) (cond (e2==0) (cond y11.1 (some ((e4==0),())) (some (false,()))) (some (false,()))) (some (false,()))) (some (false,())))) (cond (e0==5) ((gI (e1,())).bind fun y13=>cond y13.1 (cond (e3==0) (some ((e4==0),())) (some (false,()))) (cond (e0==8) (cond (e1==0) (cond (e3==0) (some ((e4==0),())) (some (false,()))) (some (false,()))) (some (false,())))) (cond (e0==2) ((gI (e1,())).bind fun y14=>cond y14.1 (cond (e2==0) (cond (e3==0) (some ((e4==0),())) (some (false,()))) (some (false,()))) (cond (e0==8) (cond (e1==0) (cond (e2==0) (cond (e3==0) (some ((e4==0),())) (some (false,()))) (some (false,()))) (some (false,()))) (some (false,())))) (cond (e0==7) ((gI (e1,())).bind fun y15=>cond y15.1 (cond (e2==0) (cond (e3==0) (some ((e4==0),())) (some (false,()))) (some (false,()))) (cond (e0==8) (cond (e1==0) (cond (e2==0) (cond (e3==0) (some ((e4==0),())) (some (false,()))) (some (false,()))) (some (false,()))) (some (false,())))) (some (false,())))))))))) ((gI (e2,())).bind fun y16=>cond (e0==1) ((jc (e3,())).bind fun y17=>(kG (e4,())).bind fun y18=>(gI (e1,())).bind fun y19=>cond y19.1 (cond y16.1 (cond y17.1 (some (y18.1,())) (some (false,()))) (some (false,()))) (cond (e0==8) (cond (e1==0) (cond y16.1 (cond y17.1 (some (y18.1,())) (some (false,()))) (some (false,()))) (some (false,()))) (some (false,())))) (cond (e0==6) ((jc (e3,())).bind fun y20=>(kG (e4,())).bind fun y21=>(gI (e1,())).bind fun y22=>cond y22.1 (cond y16.1 (cond y20.1 (some (y21.1,())) (some (false,()))) (some (false,()))) (cond (e0==8) (cond (e1==0) (cond y16.1 (cond y20.1 (some (y21.1,())) (some (false,()))) (some (false,()))) (some (false,()))) (some (false,())))) (cond (e0==3) ((jc (e3,())).bind fun y23=>(gI (e1,())).bind fun y24=>cond y24.1 (cond (e2==0) (cond y23.1 (some ((e4==0),())) (some (false,()))) (some (false,()))) (cond (e0==8) (cond (e1==0) (cond (e2==0) (cond y23.1 (some ((e4==0),())) (some (false,()))) (some (false,()))) (some (false,()))) (some (false,())))) (cond (e0==8) ((jc (e3,())).bind fun y25=>(gI (e1,())).bind fun y26=>cond y26.1 (cond (e2==0) (cond y25.1 (some ((e4==0),())) (some (false,()))) (some (false,()))) (cond (e0==8) (cond (e1==0) (cond (e2==0) (cond y25.1 (some ((e4==0),())) (some (false,()))) (some (false,()))) (some (false,()))) (some (false,())))) (cond (e0==4) ((kG (e3,())).bind fun y27=>(gI (e1,())).bind fun y28=>cond y28.1 (cond (e2==0) (cond y27.1 (some ((e4==0),())) (some (false,()))) (some (false,()))) (cond (e0==8) (cond (e1==0) (cond (e2==0) (cond y27.1 (some ((e4==0),())) (some (false,()))) (some (false,()))) (some (false,()))) (some (false,())))) (cond (e0==5) ((gI (e1,())).bind fun y29=>cond y29.1 (cond y16.1 (cond (e3==0) (some ((e4==0),())) (some (false,()))) (some (false,()))) (cond (e0==8) (cond (e1==0) (cond y16.1 (cond (e3==0) (some ((e4==0),())) (some (false,()))) (some (false,()))) (some (false,()))) (some (false,())))) (cond (e0==2) ((gI (e1,())).bind fun y30=>cond y30.1 (cond (e2==0) (cond (e3==0) (some ((e4==0),())) (some (false,()))) (some (false,()))) (cond (e0==8) (cond (e1==0) (cond (e2==0) (cond (e3==0) (some ((e4==0),())) (some (false,()))) (some (false,()))) (some (false,()))) (some (false,())))) (cond (e0==7) ((gI (e1,())).bind fun y31=>cond y31.1 (cond (e2==0) (cond (e3==0) (some ((e4==0),())) (some (false,()))) (some (false,()))) (cond (e0==8) (cond (e1==0) (cond (e2==0) (cond (e3==0) (some ((e4==0),())) (some (false,()))) (some (false,()))) (some (false,()))) (some (false,())))) (some (false,()))))))))))
def pq:=fun x:U6=>Ac.T x.1 x.2.1 x.2.2.1 x.2.2.2.1 x.2.2.2.2.1
abbrev aau:aG:=⟨[.v true fE],[(false,[CT.bool])],pq,[]⟩
theorem Z5:aF Dr Tryz.prog 98 aau:=bC mix (.c D5 (.c Aa (.c JS .nil))) (by kernel_rfl) fun x=>by kernel_rfl
def TI.T(e0 e1 e2 e3 e4:Int):Option (Bool×Unit):=(pq (e0,e1,e2,e3,e4,())).bind fun y1=>cond y1.1 (cond (e0 != 6) (some (true,())) (some ((decide (e2<e1)),()))) (some (false,()))
def Ll:=fun x:U6=>TI.T x.1 x.2.1 x.2.2.1 x.2.2.2.1 x.2.2.2.2.1
abbrev abo:aG:=⟨[.v true fE],[(false,[CT.bool])],Ll,[]⟩
theorem aaX:aF Dr Tryz.prog 71 abo:=bC mix (.c Z5 .nil) (by kernel_rfl) fun x=>by kernel_rfl
def Ti.T(o0 o1 o2 o3 o4:Int):Option (Bool×Unit):=cond (o0==1) ((gI (o1,())).bind fun y1=>cond y1.1 (cond (o2==0) ((jc (o3,())).bind fun y2=>cond y2.1 ((kG (o4,())).bind fun y3=>some (y3.1,())) (some (false,()))) ((gI (o2,())).bind fun y4=>cond y4.1 ((jc (o3,())).bind fun y5=>cond y5.1 ((kG (o4,())).bind fun y6=>some (y6.1,())) (some (false,()))) (some (false,())))) (some (false,()))) (cond (o0==2) ((gI (o1,())).bind fun y7=>cond y7.1 (some (((o0==2)&&((o1==o1)&&((o2==0)&&((o3==0)&&((o4==0)&&true))))),())) (some (false,()))) (cond (o0==4) (some (((o0==o0)&&((o1==0)&&((o2==0)&&((o3==0)&&((o4==0)&&true))))),())) (cond (o0==5) (some (((o0==o0)&&((o1==0)&&((o2==0)&&((o3==0)&&((o4==0)&&true))))),())) ((nC (o0,o1,o2,o3,o4,())).bind fun y8=>(Ll (y8.1,y8.2.1,y8.2.2.1,y8.2.2.2.1,y8.2.2.2.2.1,())).bind fun y9=>some (y9.1,())))))
def DR:=fun x:U6=>Ti.T x.1 x.2.1 x.2.2.1 x.2.2.2.1 x.2.2.2.2.1
abbrev aa8:aG:=⟨[.v true fE],[(false,[CT.bool])],DR,[]⟩
theorem aaI:aF Dr Tryz.prog 32 aa8:=bC mix (.c D5 (.c Aa (.c JS (.c aaX (.c Rf .nil))))) (by kernel_rfl) fun x=>by kernel_rfl
def Ht.T(s:List U8):Option ((List U8)×Unit):=if s.length=0 then(@ite _ (some ([],())=if([]:List U8).length+s.length≤maxRow then some ((([]:List U8)++s),())else none) (Classical.propDecidable _) (if([]:List U8).length+s.length≤maxRow then some ((([]:List U8)++s),())else none) none)else if([]:List U8).length+s.length≤maxRow then some ((([]:List U8)++s),())else none
def Hq:=fun x:(List U8)×Unit=>Ht.T x.1
abbrev YN:aG:=⟨[.v false [CT.sl aA]],[(false,[CT.sl aA])],Hq,[]⟩
theorem YL:aF Dr Tryz.prog 99 YN:=bC mix .nil (by kernel_rfl) fun x=>by kernel_rfl
def Hl.T(s:List U8):Option ((List U8)×Unit):=if s.length=0 then(@ite _ (some ([],())=if([]:List U8).length+s.length≤maxRow then some ((([]:List U8)++s),())else none) (Classical.propDecidable _) (if([]:List U8).length+s.length≤maxRow then some ((([]:List U8)++s),())else none) none)else if([]:List U8).length+s.length≤maxRow then some ((([]:List U8)++s),())else none
def Hf:=fun x:(List U8)×Unit=>Hl.T x.1
abbrev YK:aG:=⟨[.v false [CT.sl aA]],[(false,[CT.sl aA])],Hf,[]⟩
theorem YD:aF Dr Tryz.prog 100 YK:=bC mix .nil (by kernel_rfl) fun x=>by kernel_rfl
def J5.T(f0:Int)(f1 f2:List U8):Option (U3):=(Hq (f1,())).bind fun y1=>(Hf (f2,())).bind fun y2=>some (f0,y1.1,y2.1,())
def Jr:=fun x:U3=>J5.T x.1 x.2.1 x.2.2.1
abbrev ZK:aG:=⟨[.v true gQ],[(true,gQ)],Jr,[]⟩
theorem Zq:aF Dr Tryz.prog 73 ZK:=bC mix (.c YL (.c YD .nil)) (by kernel_rfl) fun x=>by kernel_rfl
def Jl.T(s0 s1 s2 s3:Int)(s4 s5:List U8)(s6:List U9):Option (U1):=(Jr (s3,s4,s5,())).bind fun y1=>(CB (s6,())).bind fun y2=>some (s0,s1,s2,y1.1,y1.2.1,y1.2.2.1,y2.1,())
def IG:=fun x:U1=>Jl.T x.1 x.2.1 x.2.2.1 x.2.2.2.1 x.2.2.2.2.1 x.2.2.2.2.2.1 x.2.2.2.2.2.2.1
abbrev Zj:aG:=⟨[.v true iZ],[(true,iZ)],IG,[]⟩
theorem Zb:aF Dr Tryz.prog 33 Zj:=bC mix (.c Zq (.c P9 .nil)) (by kernel_rfl) fun x=>by kernel_rfl
def qE.T(s0 s1 s2 s3:Int)(s4 s5:List U8)(s6:List U9)(o0 o1 o2 o3 o4:Int):Option (U0):=(CX (s0,s1,s2,s3,s4,s5,s6,())).bind fun y1=>cond (!y1.1) (some (0,0,0,0,[],[],[],0,0,1,())) ((DR (o0,o1,o2,o3,o4,())).bind fun y2=>cond (!y2.1) (some (0,0,0,0,[],[],[],0,0,1,())) ((IG (s0,s1,s2,s3,s4,s5,s6,())).bind fun y3=>(wO (y3.1,y3.2.1,y3.2.2.1,y3.2.2.2.1,y3.2.2.2.2.1,y3.2.2.2.2.2.1,y3.2.2.2.2.2.2.1,o0,o1,o2,o3,o4,())).bind fun y4=>cond (y4.2.2.1 != 0) (some (0,0,0,0,[],[],[],0,0,y4.2.2.1,())) (some (y4.2.2.2.1,y4.2.2.2.2.1,y4.2.2.2.2.2.1,y4.2.2.2.2.2.2.1,y4.2.2.2.2.2.2.2.1,y4.2.2.2.2.2.2.2.2.1,y4.2.2.2.2.2.2.2.2.2.1,y4.1,y4.2.1,0,()))))
def pF:=fun x:Int×Int×Int×Int×(List U8)×(List U8)×(List U9)×U6=>qE.T x.1 x.2.1 x.2.2.1 x.2.2.2.1 x.2.2.2.2.1 x.2.2.2.2.2.1 x.2.2.2.2.2.2.1 x.2.2.2.2.2.2.2.1 x.2.2.2.2.2.2.2.2.1 x.2.2.2.2.2.2.2.2.2.1 x.2.2.2.2.2.2.2.2.2.2.1 x.2.2.2.2.2.2.2.2.2.2.2.1
abbrev Ru:aG:=⟨[.v true iZ,.v true fE],[(true,FQ)],pF,[]⟩
theorem aao:aF KN Tryz.prog 10 Ru:=bC mix (.c Qj (.c aaI (.c Zb (.c Qz .nil)))) (by kernel_rfl) fun x=>by kernel_rfl
abbrev Jg:Is:=[.v false [CT.sh [CT.int .u8]]]
abbrev IJ:Os:=[(true,rq),(false,[])]
namespace nZ
def aC:Nat→List Nat×List Nat:=fun k=>if k=3 then([0,3,4],[0,3])else([],[])
def zrc{R:Type}(k0:Nat)(p:List Nat):Env→List Ob→au R→Option R:=bJ Tryz.prog (aV []) 47 0 aC k0 (cO p (dH Tryz.prog 26))
def R0{R:Type}(nx0:Gn R)(ex0:PL R)(code2:List (Int×Unit))(i:Int)(s:List (Int×Unit))(s2 s3 s4:Int):Option R:=cond (decide (i<(code2.length:Int))) (cond (decide (i<64)) (if 0≤i∧i<(code2.length:Int)then nx0 code2 (af (i+1)) s s2 (IntKind.u64.wrap ((IntKind.u64.wrap (((BitVec.ofInt 64 s3) ^^^ (BitVec.ofInt 64 (IntKind.u64.wrap ((rd (0,()) code2 i).1)))).toNat))*1099511628211)) s4 else none) (ex0 code2 s s2 s3 s4)) (ex0 code2 s s2 s3 s4)
def A0(code:List (Int×Unit))(code2 s:List (Int×Unit))(s2 s3 s4:Int):Option (U5):=if 20=0 then none else cond (decide ((af (Int.tdiv (code2.length:Int) 20))>12)) (some (s,s2,s3,12,())) (some (s,s2,s3,(af (Int.tdiv (code2.length:Int) 20)),()))
def T(lo0:Gn (U5))(code:List (Int×Unit)):Option (U5):=lo0 code 0 code 0 88172645463325252 0
def K0{R:Type}(k0:Nat)(K:au R):au R:=bg 0 (bG (fun env ob=>zrc k0 [1,1,1] env ob (K)) (K))
def L0:Gn R:=fun code2 i s s2 s3 s4=>iter 0 [0,3,4] [0,3] (zrc k0 [1,1,0,1,0,0]) k [(0,.sh [CT.int .u8] code2),(3,.ptr 0 0 0 0),(4,.int .i64 i)] [.box [.sh [CT.int .u8] s,.int .i64 s2,.int .u64 s3,.int .i64 s4]] K
def H0:PL R:=fun code2 s s2 s3 s4=>K (.exit 0) [(0,.sh [CT.int .u8] code2),(3,.ptr 0 0 0 0)] [.box [.sh [CT.int .u8] s,.int .i64 s2,.int .u64 s3,.int .i64 s4]]
theorem zs0:L0 k0 (k+1) K=R0 (L0 k0 k K) (H0 K):=by kernel_rfl
def G0{R:Type}(k0:Nat)(hx0:PL R):Nat→Gn R
 |0=>fun _ _ _ _ _ _=>none
 |k+1=>R0 (G0 k0 hx0 k) hx0
theorem aQ:∀ k,L0 k0 k K=G0 k0 (H0 K) k:=bK rfl fun k ih=>by rw[zs0,G0];(try simp only[ih]);try rfl
variable (code:List (Int×Unit))
def aB:au (U5):=di Tryz.prog [.tmp 2] Jg IJ (code,())
theorem aY:H0 (K0 k0 (aB code))=A0 code:=by kernel_rfl
def FF:Option (U5):=T (G0 k0 (A0 code) k0) code
theorem aX:dw Tryz.prog (aV []) aC k0 26 Jg IJ [] (code,())=FF k0 code:=Eq.trans (b:=T (L0 k0 k0 (K0 k0 (aB code))) code) (by kernel_rfl) (by rw[FF];(try simp only[aQ,aY]);try rfl)
def _root_.Go.Rv.Dl:=fun x:(List (Int×Unit))×Unit=>FF (300+x.1.length) x.1
abbrev _root_.Go.Rv.aaq:aG:=⟨Jg,IJ,Dl,[]⟩
theorem _root_.Go.Rv.ZM:aF Dr Tryz.prog 26 aaq:=dI mix .nil (by kernel_rfl) fun x=>⟨aC,_,aX _ _⟩
end nZ
def abq.T(o0 o1 o2 o3 o4:Int):Option (U6):=cond (o0==3) (some (8,o1,o2,o3,o4,())) (cond (o0==6) (some (6,o1,o2,o3,o4,())) (cond (o0==7) (some (7,o1,o2,o3,o4,())) (some (0,o1,o2,o3,o4,()))))
def pI:=fun x:U6=>abq.T x.1 x.2.1 x.2.2.1 x.2.2.2.1 x.2.2.2.2.1
abbrev RS:aG:=⟨[.v true fE],[(true,fE)],pI,[]⟩
theorem Q7:aF Dr Tryz.prog 41 RS:=bC mix .nil (by kernel_rfl) fun x=>by kernel_rfl
def zY.T(e0 e1 e2 e3 e4:Int):Option (Bool×Unit):=(lM (e1,())).bind fun y1=>cond (!y1.1) (cond (e0==8) (cond (!(e1==0)) (some (false,())) (cond (e2 != 0) ((lM (e2,())).bind fun y2=>cond (!y2.1) (some (false,())) (cond (e0==1) ((eG (e3,())).bind fun y3=>cond y3.1 ((gG (e4,())).bind fun y4=>some (y4.1,())) (some (false,()))) (cond (e0==6) ((eG (e3,())).bind fun y5=>cond y5.1 ((gG (e4,())).bind fun y6=>some (y6.1,())) (some (false,()))) (cond (e0==2) (cond (e2==0) (cond (e3==0) (some ((e4==0),())) (some (false,()))) (some (false,()))) (cond (e0==7) (cond (e2==0) (cond (e3==0) (some ((e4==0),())) (some (false,()))) (some (false,()))) (cond (e0==3) (cond (e2==0) ((eG (e3,())).bind fun y7=>cond y7.1 (some ((e4==0),())) (some (false,()))) (some (false,()))) (cond (e0==8) (cond (e2==0) ((eG (e3,())).bind fun y8=>cond y8.1 (some ((e4==0),())) (some (false,()))) (some (false,()))) (cond (e0==4) (cond (e2==0) ((gG (e3,())).bind fun y9=>cond y9.1 (some ((e4==0),())) (some (false,()))) (some (false,()))) (cond (e0==5) (cond (e3==0) (some ((e4==0),())) (some (false,()))) (some (false,()))))))))))) (cond (e0==1) ((eG (e3,())).bind fun y10=>cond y10.1 ((gG (e4,())).bind fun y11=>some (y11.1,())) (some (false,()))) (cond (e0==6) ((eG (e3,())).bind fun y12=>cond y12.1 ((gG (e4,())).bind fun y13=>some (y13.1,())) (some (false,()))) (cond (e0==2) (cond (e2==0) (cond (e3==0) (some ((e4==0),())) (some (false,()))) (some (false,()))) (cond (e0==7) (cond (e2==0) (cond (e3==0) (some ((e4==0),())) (some (false,()))) (some (false,()))) (cond (e0==3) (cond (e2==0) ((eG (e3,())).bind fun y14=>cond y14.1 (some ((e4==0),())) (some (false,()))) (some (false,()))) (cond (e0==8) (cond (e2==0) ((eG (e3,())).bind fun y15=>cond y15.1 (some ((e4==0),())) (some (false,()))) (some (false,()))) (cond (e0==4) (cond (e2==0) ((gG (e3,())).bind fun y16=>cond y16.1 (some ((e4==0),())) (some (false,()))) (some (false,()))) (cond (e0==5) (cond (e3==0) (some ((e4==0),())) (some (false,()))) (some (false,())))))))))))) (some (false,()))) (cond (e2 != 0) ((lM (e2,())).bind fun y17=>cond (!y17.1) (some (false,())) (cond (e0==1) ((eG (e3,())).bind fun y18=>cond y18.1 ((gG (e4,())).bind fun y19=>some (y19.1,())) (some (false,()))) (cond (e0==6) ((eG (e3,())).bind fun y20=>cond y20.1 ((gG (e4,())).bind fun y21=>some (y21.1,())) (some (false,()))) (cond (e0==2) (cond (e2==0) (cond (e3==0) (some ((e4==0),())) (some (false,()))) (some (false,()))) (cond (e0==7) (cond (e2==0) (cond (e3==0) (some ((e4==0),())) (some (false,()))) (some (false,()))) (cond (e0==3) (cond (e2==0) ((eG (e3,())).bind fun y22=>cond y22.1 (some ((e4==0),())) (some (false,()))) (some (false,()))) (cond (e0==8) (cond (e2==0) ((eG (e3,())).bind fun y23=>cond y23.1 (some ((e4==0),())) (some (false,()))) (some (false,()))) (cond (e0==4) (cond (e2==0) ((gG (e3,())).bind fun y24=>cond y24.1 (some ((e4==0),())) (some (false,()))) (some (false,()))) (cond (e0==5) (cond (e3==0) (some ((e4==0),())) (some (false,()))) (some (false,()))))))))))) (cond (e0==1) ((eG (e3,())).bind fun y25=>cond y25.1 ((gG (e4,())).bind fun y26=>some (y26.1,())) (some (false,()))) (cond (e0==6) ((eG (e3,())).bind fun y27=>cond y27.1 ((gG (e4,())).bind fun y28=>some (y28.1,())) (some (false,()))) (cond (e0==2) (cond (e2==0) (cond (e3==0) (some ((e4==0),())) (some (false,()))) (some (false,()))) (cond (e0==7) (cond (e2==0) (cond (e3==0) (some ((e4==0),())) (some (false,()))) (some (false,()))) (cond (e0==3) (cond (e2==0) ((eG (e3,())).bind fun y29=>cond y29.1 (some ((e4==0),())) (some (false,()))) (some (false,()))) (cond (e0==8) (cond (e2==0) ((eG (e3,())).bind fun y30=>cond y30.1 (some ((e4==0),())) (some (false,()))) (some (false,()))) (cond (e0==4) (cond (e2==0) ((gG (e3,())).bind fun y31=>cond y31.1 (some ((e4==0),())) (some (false,()))) (some (false,()))) (cond (e0==5) (cond (e3==0) (some ((e4==0),())) (some (false,()))) (some (false,())))))))))))
def jT:=fun x:U6=>zY.T x.1 x.2.1 x.2.2.1 x.2.2.2.1 x.2.2.2.2.1
abbrev aas:aG:=⟨[.v true fE],[(false,[CT.bool])],jT,[]⟩
theorem Qy:aF Dr Tryz.prog 81 aas:=bC mix (.c uI (.c Af (.c C9 .nil))) (by kernel_rfl) fun x=>by kernel_rfl
def TU.T(o0 o1 o2 o3 o4:Int):Option (Bool×Unit):=cond (o0==1) ((lM (o1,())).bind fun y1=>cond y1.1 (cond (o2==0) ((eG (o3,())).bind fun y2=>cond y2.1 ((gG (o4,())).bind fun y3=>some (y3.1,())) (some (false,()))) ((lM (o2,())).bind fun y4=>cond y4.1 ((eG (o3,())).bind fun y5=>cond y5.1 ((gG (o4,())).bind fun y6=>some (y6.1,())) (some (false,()))) (some (false,())))) (some (false,()))) (cond (o0==2) ((lM (o1,())).bind fun y7=>cond y7.1 (cond (o2==0) (cond (o3==0) (some ((o4==0),())) (some (false,()))) (some (false,()))) (some (false,()))) (cond (o0==4) (cond (o1==0) (cond (o2==0) (cond (o3==0) (some ((o4==0),())) (some (false,()))) (some (false,()))) (some (false,()))) (cond (o0==5) (cond (o1==0) (cond (o2==0) (cond (o3==0) (some ((o4==0),())) (some (false,()))) (some (false,()))) (some (false,()))) (cond (o0==6) ((pI (o0,o1,o2,o3,o4,())).bind fun y8=>(jT (y8.1,y8.2.1,y8.2.2.1,y8.2.2.2.1,y8.2.2.2.2.1,())).bind fun y9=>cond y9.1 (some ((decide (o2<o1)),())) (some (false,()))) (cond (o0==3) ((pI (o0,o1,o2,o3,o4,())).bind fun y10=>(jT (y10.1,y10.2.1,y10.2.2.1,y10.2.2.2.1,y10.2.2.2.2.1,())).bind fun y11=>some (y11.1,())) (cond (o0==7) ((pI (o0,o1,o2,o3,o4,())).bind fun y12=>(jT (y12.1,y12.2.1,y12.2.2.1,y12.2.2.2.1,y12.2.2.2.2.1,())).bind fun y13=>some (y13.1,())) (some (false,()))))))))
def D6:=fun x:U6=>TU.T x.1 x.2.1 x.2.2.1 x.2.2.2.1 x.2.2.2.2.1
abbrev Tj:aG:=⟨[.v true fE],[(false,[CT.bool])],D6,[]⟩
theorem abe:aF Dr Tryz.prog 35 Tj:=bC mix (.c Q7 (.c uI (.c Af (.c C9 (.c Qy .nil))))) (by kernel_rfl) fun x=>by kernel_rfl
def aa9.T(code:Int):Option (U0):=some (0,0,0,0,[],[],[],0,0,code,())
def mg:=fun x:Int×Unit=>aa9.T x.1
abbrev KF:aG:=⟨[.v false [CT.int .i64]],[(true,FQ)],mg,[]⟩
theorem QH:aF Dr Tryz.prog 36 KF:=bC mix .nil (by kernel_rfl) fun x=>by kernel_rfl
abbrev Jf:Is:=[.v true gQ,.v false [CT.int .i64]]
abbrev II:Os:=[(false,[CT.int .i64])]
namespace wS
def aC:Nat→List Nat×List Nat:=fun k=>if k=2 then([1,2,5],[4])else([],[])
def zrc{R:Type}(k0:Nat)(p:List Nat):Env→List Ob→au R→Option R:=bJ Tryz.prog (aV []) 22 0 aC k0 (cO p (dH Tryz.prog 38))
def R0{R:Type}(nx0:uq R)(ex0:Y2 R)(ex1:eF R)(id2 i f:Int)(f3 f4:List U8):Option R:=cond (decide (i<(f4.length:Int))) (if 0≤i∧i<(f4.length:Int)then cond ((rd (0,0,0,0,()) f4 i).1==id2) (ex0 i) (nx0 id2 (af (i+1)) f f3 f4)else none) (ex1 ())
def A0(f0:Int)(f1 f2:List U8)(id:Int)(t4x:Int):Option (Int×Unit):=some (t4x,())
def A1(f0:Int)(f1 f2:List U8)(id:Int)(_u:Unit):Option (Int×Unit):=some ((-1),())
def T(lo0:uq (Int×Unit))(f0:Int)(f1 f2:List U8)(id:Int):Option (Int×Unit):=lo0 id 0 f0 f1 f2
def K0{R:Type}(k0:Nat)(K:au R):au R:=bg 0 (bG (fun env ob=>zrc k0 [1,1] env ob (K)) (K))
def L0:uq R:=fun id2 i f f3 f4=>iter 0 [1,2,5] [4] (zrc k0 [1,0,1,0,0]) k [(1,.int .i64 id2),(2,.ptr 0 0 0 0),(5,.int .i64 i)] [.box [.int .i64 f,.sl aA f3,.sl aA f4]] K
def H0:Y2 R:=fun t4x=>K .ret [(4,.int .i64 t4x)] []
def H1:eF R:=fun _=>K (.exit 0) [(4,.undef)] []
theorem zs0:L0 k0 (k+1) K=R0 (L0 k0 k K) (H0 K) (H1 K):=by kernel_rfl
def G0{R:Type}(k0:Nat)(hx0:Y2 R)(hx1:eF R):Nat→uq R
 |0=>fun _ _ _ _ _=>none
 |k+1=>R0 (G0 k0 hx0 hx1 k) hx0 hx1
theorem aQ:∀ k,L0 k0 k K=G0 k0 (H0 K) (H1 K) k:=bK rfl fun k ih=>by rw[zs0,G0];(try simp only[ih]);try rfl
variable (f0:Int) (f1 f2:List U8) (id:Int)
def aB:au (Int×Unit):=di Tryz.prog [.tmp 4] Jf II (f0,f1,f2,id,())
theorem aY:H0 (K0 k0 (aB f0 f1 f2 id))=A0 f0 f1 f2 id:=by kernel_rfl
theorem dA:H1 (K0 k0 (aB f0 f1 f2 id))=A1 f0 f1 f2 id:=by kernel_rfl
def FF:Option (Int×Unit):=T (G0 k0 (A0 f0 f1 f2 id) (A1 f0 f1 f2 id) k0) f0 f1 f2 id
theorem aX:dw Tryz.prog (aV []) aC k0 38 Jf II [] (f0,f1,f2,id,())=FF k0 f0 f1 f2 id:=Eq.trans (b:=T (L0 k0 k0 (K0 k0 (aB f0 f1 f2 id))) f0 f1 f2 id) (by kernel_rfl) (by rw[FF];(try simp only[aQ,aY,dA]);try rfl)
def _root_.Go.Rv.qB:=fun x:Int×(List U8)×(List U8)×Int×Unit=>FF (300+x.2.1.length+x.2.2.1.length) x.1 x.2.1 x.2.2.1 x.2.2.2.1
abbrev _root_.Go.Rv.Dj:aG:=⟨Jf,II,qB,[]⟩
theorem _root_.Go.Rv.CZ:aF Dr Tryz.prog 38 Dj:=dI mix .nil (by kernel_rfl) fun x=>⟨aC,_,aX _ _ _ _ _⟩
end wS
def abb.T(code:Int):Option (U2):=some (0,[],[],0,code,())
def jB:=fun x:Int×Unit=>abb.T x.1
abbrev Dv:aG:=⟨[.v false [CT.int .i64]],[(true,BO)],jB,[]⟩
theorem Di:aF Dr Tryz.prog 87 Dv:=bC mix .nil (by kernel_rfl) fun x=>by kernel_rfl
def SL.T(f0:Int)(f1 f2:List U8):Option (U3):=if([]:List U8).length+f1.length≤maxRow then if([]:List U8).length+f2.length≤maxRow then some (f0,(([]:List U8)++f1),(([]:List U8)++f2),())else none else none
def pJ:=fun x:U3=>SL.T x.1 x.2.1 x.2.2.1
abbrev Dz:aG:=⟨[.v true gQ],[(true,gQ)],pJ,[]⟩
theorem zT:aF Dr Tryz.prog 88 Dz:=bC mix .nil (by kernel_rfl) fun x=>by kernel_rfl
abbrev JU:Is:=[.v true gQ,.v true fE]
abbrev Js:Os:=[(true,BO)]
namespace kV
def dF:Tb:=[(38,[],Dj),(65,[],wP),(87,[],Dv),(88,[],Dz)]
def aC:Nat→List Nat×List Nat:=fun k=>if k=11 then([2,3,4,5,6,7],[3,4,5,6])else([],[])
def zrc{R:Type}(k0:Nat)(p:List Nat):Env→List Ob→au R→Option R:=bJ Tryz.prog (aV dF) 96 0 aC k0 (cO p (dH Tryz.prog 89))
def R0{R:Type}(nx0:uj R)(ex0:zi R)(done:Bool)(i f:Int)(f3 f4:List U8)(e e5 e6 e7 e8 t4x t4x2 t4x3 out:Int)(o4 o5:List U8):Option R:=cond (decide (i<(f4.length:Int))) (cond (!done) (if 0≤i∧i<(f4.length:Int)then cond (decide ((rd (0,0,0,0,()) f4 i).1>e5)) (if o5.length+[(e5,e6,e7,e8,())].length≤maxRow then if 0≤i∧i<(f4.length:Int)then if(o5++[(e5,e6,e7,e8,())]).length+[((rd (0,0,0,0,()) f4 i).1,(rd (0,0,0,0,()) f4 i).2.1,(rd (0,0,0,0,()) f4 i).2.2.1,(rd (0,0,0,0,()) f4 i).2.2.2.1,())].length≤maxRow then nx0 true (af (i+1)) f f3 f4 e e5 e6 e7 e8 t4x t4x2 t4x3 out o4 ((o5++[(e5,e6,e7,e8,())])++[((rd (0,0,0,0,()) f4 i).1,(rd (0,0,0,0,()) f4 i).2.1,(rd (0,0,0,0,()) f4 i).2.2.1,(rd (0,0,0,0,()) f4 i).2.2.2.1,())])else none else none else none) (if 0≤i∧i<(f4.length:Int)then if o5.length+[((rd (0,0,0,0,()) f4 i).1,(rd (0,0,0,0,()) f4 i).2.1,(rd (0,0,0,0,()) f4 i).2.2.1,(rd (0,0,0,0,()) f4 i).2.2.2.1,())].length≤maxRow then nx0 done (af (i+1)) f f3 f4 e e5 e6 e7 e8 t4x t4x2 t4x3 out o4 (o5++[((rd (0,0,0,0,()) f4 i).1,(rd (0,0,0,0,()) f4 i).2.1,(rd (0,0,0,0,()) f4 i).2.2.1,(rd (0,0,0,0,()) f4 i).2.2.2.1,())])else none else none)else none) (if 0≤i∧i<(f4.length:Int)then if o5.length+[((rd (0,0,0,0,()) f4 i).1,(rd (0,0,0,0,()) f4 i).2.1,(rd (0,0,0,0,()) f4 i).2.2.1,(rd (0,0,0,0,()) f4 i).2.2.2.1,())].length≤maxRow then nx0 done (af (i+1)) f f3 f4 e e5 e6 e7 e8 t4x t4x2 t4x3 out o4 (o5++[((rd (0,0,0,0,()) f4 i).1,(rd (0,0,0,0,()) f4 i).2.1,(rd (0,0,0,0,()) f4 i).2.2.1,(rd (0,0,0,0,()) f4 i).2.2.2.1,())])else none else none)) (ex0 done e e5 e6 e7 e8 t4x t4x2 t4x3 out o4 o5)
def A0(f0:Int)(f1 f2:List U8)(e0 e1 e2 e3 e4:Int)(done:Bool)(e e5 e6 e7 e8 t4x t4x2 t4x3 out:Int)(o3 o4:List U8):Option (U2):=cond (!done) (if o4.length+[(e5,e6,e7,e8,())].length≤maxRow then some (out,o3,(o4++[(e5,e6,e7,e8,())]),0,0,())else none) (some (out,o3,o4,0,0,()))
def T(lo0:uj (U2))(f0:Int)(f1 f2:List U8)(e0 e1 e2 e3 e4:Int):Option (U2):=(qB (f0,f1,f2,e1,())).bind fun y1=>cond (decide (y1.1≥0)) ((jB (5,())).bind fun y2=>some (y2.1,y2.2.1,y2.2.2.1,y2.2.2.2.1,y2.2.2.2.2.1,())) (cond (e2 != 0) ((jU (f0,f1,f2,e2,())).bind fun y3=>cond (decide (y3.1<0)) ((jB (4,())).bind fun y4=>some (y4.1,y4.2.1,y4.2.2.1,y4.2.2.2.1,y4.2.2.2.2.1,())) (cond (decide ((f2.length:Int)≥60)) ((jB (6,())).bind fun y5=>some (y5.1,y5.2.1,y5.2.2.1,y5.2.2.2.1,y5.2.2.2.2.1,())) ((pJ (f0,f1,f2,())).bind fun y6=>lo0 false 0 f0 f1 f2 e0 e1 e2 e3 e4 0 0 0 y6.1 y6.2.1 ([]:List U8)))) (cond (decide ((f2.length:Int)≥60)) ((jB (6,())).bind fun y7=>some (y7.1,y7.2.1,y7.2.2.1,y7.2.2.2.1,y7.2.2.2.2.1,())) ((pJ (f0,f1,f2,())).bind fun y8=>lo0 false 0 f0 f1 f2 e0 e1 e2 e3 e4 0 0 0 y8.1 y8.2.1 ([]:List U8))))
def K0{R:Type}(k0:Nat)(K:au R):au R:=bg 0 (bG (fun env ob=>zrc k0 [1,1,1,1,1,1,1,1] env ob (K)) (K))
def L0:uj R:=fun done i f f3 f4 e e5 e6 e7 e8 t4x t4x2 t4x3 out o4 o5=>iter 0 [2,3,4,5,6,7] [3,4,5,6] (zrc k0 [1,1,1,1,1,1,1,0,1,0,0]) k [(2,.ptr 0 0 0 0),(3,.ptr 1 0 0 0),(4,.ptr 2 0 0 0),(5,.ptr 3 0 0 0),(6,.bool done),(7,.int .i64 i)] [.box [.int .i64 f,.sl aA f3,.sl aA f4],.box [.int .i64 e,.int .i64 e5,.int .i64 e6,.int .i64 e7,.int .i64 e8],.box [.int .i64 t4x,.nils,.nils,.int .i64 t4x2,.int .i64 t4x3],.box [.int .i64 out,.own 4,.own 5],.arr aA o4,.arr aA o5] K
def H0:zi R:=fun done e e5 e6 e7 e8 t4x t4x2 t4x3 out o3 o4=>K (.exit 0) [(3,.ptr 0 0 0 0),(4,.ptr 1 0 0 0),(5,.ptr 2 0 0 0),(6,.bool done)] [.box [.int .i64 e,.int .i64 e5,.int .i64 e6,.int .i64 e7,.int .i64 e8],.box [.int .i64 t4x,.nils,.nils,.int .i64 t4x2,.int .i64 t4x3],.box [.int .i64 out,.own 3,.own 4],.arr aA o3,.arr aA o4]
theorem zs0:L0 k0 (k+1) K=R0 (L0 k0 k K) (H0 K):=by kernel_rfl
def G0{R:Type}(k0:Nat)(hx0:zi R):Nat→uj R
 |0=>fun _ _ _ _ _ _ _ _ _ _ _ _ _ _ _ _=>none
 |k+1=>R0 (G0 k0 hx0 k) hx0
theorem aQ:∀ k,L0 k0 k K=G0 k0 (H0 K) k:=bK rfl fun k ih=>by rw[zs0,G0];(try simp only[ih]);try rfl
variable (f0:Int) (f1 f2:List U8) (e0 e1 e2 e3 e4:Int)
def aB:au (U2):=di Tryz.prog [.cell 4 81] JU Js (f0,f1,f2,e0,e1,e2,e3,e4,())
theorem aY:H0 (K0 k0 (aB f0 f1 f2 e0 e1 e2 e3 e4))=A0 f0 f1 f2 e0 e1 e2 e3 e4:=by kernel_rfl
def FF:Option (U2):=T (G0 k0 (A0 f0 f1 f2 e0 e1 e2 e3 e4) k0) f0 f1 f2 e0 e1 e2 e3 e4
theorem aX:dw Tryz.prog (aV dF) aC k0 89 JU Js [] (f0,f1,f2,e0,e1,e2,e3,e4,())=FF k0 f0 f1 f2 e0 e1 e2 e3 e4:=Eq.trans (b:=T (L0 k0 k0 (K0 k0 (aB f0 f1 f2 e0 e1 e2 e3 e4))) f0 f1 f2 e0 e1 e2 e3 e4) (by kernel_rfl) (by rw[FF];(try simp only[aQ,aY]);try rfl)
def _root_.Go.Rv.DF:=fun x:Int×(List U8)×(List U8)×U6=>FF (300+x.2.1.length+x.2.2.1.length) x.1 x.2.1 x.2.2.1 x.2.2.2.1 x.2.2.2.2.1 x.2.2.2.2.2.1 x.2.2.2.2.2.2.1 x.2.2.2.2.2.2.2.1
abbrev _root_.Go.Rv.aa0:aG:=⟨JU,Js,DF,[]⟩
theorem _root_.Go.Rv.aaw:aF Dr Tryz.prog 89 aa0:=dI mix (.c CZ (.c wM (.c Di (.c zT .nil)))) (by kernel_rfl) fun x=>⟨aC,_,aX _ _ _ _ _ _ _ _ _⟩
end kV
abbrev JC:Is:=[.v true gQ,.v true fE]
abbrev I9:Os:=[(true,BO)]
namespace jb
def dF:Tb:=[(65,[],wP),(87,[],Dv),(88,[],Dz)]
def aC:Nat→List Nat×List Nat:=fun k=>if k=13 then([2,3,4,5,6,7],[3,4,5,6])else([],[])
def zrc{R:Type}(k0:Nat)(p:List Nat):Env→List Ob→au R→Option R:=bJ Tryz.prog (aV dF) 102 0 aC k0 (cO p (dH Tryz.prog 90))
def R0{R:Type}(nx0:uj R)(ex0:zi R)(done:Bool)(i f:Int)(f3 f4:List U8)(e e5 e6 e7 e8 t4x t4x2 t4x3 out:Int)(o4 o5:List U8):Option R:=cond (decide (i<(f3.length:Int))) (cond (!done) (if 0≤i∧i<(f3.length:Int)then cond (decide ((rd (0,0,0,0,()) f3 i).1>e5)) (if o4.length+[(e5,e6,e7,e8,())].length≤maxRow then if 0≤i∧i<(f3.length:Int)then if(o4++[(e5,e6,e7,e8,())]).length+[((rd (0,0,0,0,()) f3 i).1,(rd (0,0,0,0,()) f3 i).2.1,(rd (0,0,0,0,()) f3 i).2.2.1,(rd (0,0,0,0,()) f3 i).2.2.2.1,())].length≤maxRow then nx0 true (af (i+1)) f f3 f4 e e5 e6 e7 e8 t4x t4x2 t4x3 out ((o4++[(e5,e6,e7,e8,())])++[((rd (0,0,0,0,()) f3 i).1,(rd (0,0,0,0,()) f3 i).2.1,(rd (0,0,0,0,()) f3 i).2.2.1,(rd (0,0,0,0,()) f3 i).2.2.2.1,())]) o5 else none else none else none) (if 0≤i∧i<(f3.length:Int)then if o4.length+[((rd (0,0,0,0,()) f3 i).1,(rd (0,0,0,0,()) f3 i).2.1,(rd (0,0,0,0,()) f3 i).2.2.1,(rd (0,0,0,0,()) f3 i).2.2.2.1,())].length≤maxRow then nx0 done (af (i+1)) f f3 f4 e e5 e6 e7 e8 t4x t4x2 t4x3 out (o4++[((rd (0,0,0,0,()) f3 i).1,(rd (0,0,0,0,()) f3 i).2.1,(rd (0,0,0,0,()) f3 i).2.2.1,(rd (0,0,0,0,()) f3 i).2.2.2.1,())]) o5 else none else none)else none) (if 0≤i∧i<(f3.length:Int)then if o4.length+[((rd (0,0,0,0,()) f3 i).1,(rd (0,0,0,0,()) f3 i).2.1,(rd (0,0,0,0,()) f3 i).2.2.1,(rd (0,0,0,0,()) f3 i).2.2.2.1,())].length≤maxRow then nx0 done (af (i+1)) f f3 f4 e e5 e6 e7 e8 t4x t4x2 t4x3 out (o4++[((rd (0,0,0,0,()) f3 i).1,(rd (0,0,0,0,()) f3 i).2.1,(rd (0,0,0,0,()) f3 i).2.2.1,(rd (0,0,0,0,()) f3 i).2.2.2.1,())]) o5 else none else none)) (ex0 done e e5 e6 e7 e8 t4x t4x2 t4x3 out o4 o5)
def A0(f0:Int)(f1 f2:List U8)(e0 e1 e2 e3 e4:Int)(done:Bool)(e e5 e6 e7 e8 t4x t4x2 t4x3 out:Int)(o3 o4:List U8):Option (U2):=cond (!done) (if o3.length+[(e5,e6,e7,e8,())].length≤maxRow then some (out,(o3++[(e5,e6,e7,e8,())]),o4,0,0,())else none) (some (out,o3,o4,0,0,()))
def T(lo0:uj (U2))(f0:Int)(f1 f2:List U8)(e0 e1 e2 e3 e4:Int):Option (U2):=cond (decide (e2≥e1)) ((jB (1,())).bind fun y1=>some (y1.1,y1.2.1,y1.2.2.1,y1.2.2.2.1,y1.2.2.2.2.1,())) ((jU (f0,f1,f2,e1,())).bind fun y2=>cond (decide (y2.1≥0)) ((jB (5,())).bind fun y3=>some (y3.1,y3.2.1,y3.2.2.1,y3.2.2.2.1,y3.2.2.2.2.1,())) (cond (e2 != 0) ((jU (f0,f1,f2,e2,())).bind fun y4=>cond (decide (y4.1<0)) ((jB (4,())).bind fun y5=>some (y5.1,y5.2.1,y5.2.2.1,y5.2.2.2.1,y5.2.2.2.2.1,())) (cond (decide ((f1.length:Int)≥30)) ((jB (6,())).bind fun y6=>some (y6.1,y6.2.1,y6.2.2.1,y6.2.2.2.1,y6.2.2.2.2.1,())) ((pJ (f0,f1,f2,())).bind fun y7=>lo0 false 0 f0 f1 f2 e0 e1 e2 e3 e4 0 0 0 y7.1 ([]:List U8) y7.2.2.1))) (cond (decide ((f1.length:Int)≥30)) ((jB (6,())).bind fun y8=>some (y8.1,y8.2.1,y8.2.2.1,y8.2.2.2.1,y8.2.2.2.2.1,())) ((pJ (f0,f1,f2,())).bind fun y9=>lo0 false 0 f0 f1 f2 e0 e1 e2 e3 e4 0 0 0 y9.1 ([]:List U8) y9.2.2.1))))
def K0{R:Type}(k0:Nat)(K:au R):au R:=bg 0 (bG (fun env ob=>zrc k0 [1,1,1,1,1,1,1,1,1] env ob (K)) (K))
def L0:uj R:=fun done i f f3 f4 e e5 e6 e7 e8 t4x t4x2 t4x3 out o4 o5=>iter 0 [2,3,4,5,6,7] [3,4,5,6] (zrc k0 [1,1,1,1,1,1,1,1,0,1,0,0]) k [(2,.ptr 0 0 0 0),(3,.ptr 1 0 0 0),(4,.ptr 2 0 0 0),(5,.ptr 3 0 0 0),(6,.bool done),(7,.int .i64 i)] [.box [.int .i64 f,.sl aA f3,.sl aA f4],.box [.int .i64 e,.int .i64 e5,.int .i64 e6,.int .i64 e7,.int .i64 e8],.box [.int .i64 t4x,.nils,.nils,.int .i64 t4x2,.int .i64 t4x3],.box [.int .i64 out,.own 4,.own 5],.arr aA o4,.arr aA o5] K
def H0:zi R:=fun done e e5 e6 e7 e8 t4x t4x2 t4x3 out o3 o4=>K (.exit 0) [(3,.ptr 0 0 0 0),(4,.ptr 1 0 0 0),(5,.ptr 2 0 0 0),(6,.bool done)] [.box [.int .i64 e,.int .i64 e5,.int .i64 e6,.int .i64 e7,.int .i64 e8],.box [.int .i64 t4x,.nils,.nils,.int .i64 t4x2,.int .i64 t4x3],.box [.int .i64 out,.own 3,.own 4],.arr aA o3,.arr aA o4]
theorem zs0:L0 k0 (k+1) K=R0 (L0 k0 k K) (H0 K):=by kernel_rfl
def G0{R:Type}(k0:Nat)(hx0:zi R):Nat→uj R
 |0=>fun _ _ _ _ _ _ _ _ _ _ _ _ _ _ _ _=>none
 |k+1=>R0 (G0 k0 hx0 k) hx0
theorem aQ:∀ k,L0 k0 k K=G0 k0 (H0 K) k:=bK rfl fun k ih=>by rw[zs0,G0];(try simp only[ih]);try rfl
variable (f0:Int) (f1 f2:List U8) (e0 e1 e2 e3 e4:Int)
def aB:au (U2):=di Tryz.prog [.cell 4 81] JC I9 (f0,f1,f2,e0,e1,e2,e3,e4,())
theorem aY:H0 (K0 k0 (aB f0 f1 f2 e0 e1 e2 e3 e4))=A0 f0 f1 f2 e0 e1 e2 e3 e4:=by kernel_rfl
def FF:Option (U2):=T (G0 k0 (A0 f0 f1 f2 e0 e1 e2 e3 e4) k0) f0 f1 f2 e0 e1 e2 e3 e4
theorem aX:dw Tryz.prog (aV dF) aC k0 90 JC I9 [] (f0,f1,f2,e0,e1,e2,e3,e4,())=FF k0 f0 f1 f2 e0 e1 e2 e3 e4:=Eq.trans (b:=T (L0 k0 k0 (K0 k0 (aB f0 f1 f2 e0 e1 e2 e3 e4))) f0 f1 f2 e0 e1 e2 e3 e4) (by kernel_rfl) (by rw[FF];(try simp only[aQ,aY]);try rfl)
def _root_.Go.Rv.uJ:=fun x:Int×(List U8)×(List U8)×U6=>FF (300+x.2.1.length+x.2.2.1.length) x.1 x.2.1 x.2.2.1 x.2.2.2.1 x.2.2.2.2.1 x.2.2.2.2.2.1 x.2.2.2.2.2.2.1 x.2.2.2.2.2.2.2.1
abbrev _root_.Go.Rv.aaK:aG:=⟨JC,I9,uJ,[]⟩
theorem _root_.Go.Rv.aai:aF Dr Tryz.prog 90 aaK:=dI mix (.c wM (.c Di (.c zT .nil))) (by kernel_rfl) fun x=>⟨aC,_,aX _ _ _ _ _ _ _ _ _⟩
end jb
abbrev JV:Is:=[.v true gQ,.v true fE]
abbrev Jt:Os:=[(true,BO)]
namespace jd
def dF:Tb:=[(65,[],wP),(87,[],Dv),(88,[],Dz)]
def aC:Nat→List Nat×List Nat:=fun k=>if k=5 then([2,3,4,5,6],[2,3,4,5])else if k=10 then([2,3,4,5,7],[2,4,5])else([],[])
def zrc{R:Type}(k0:Nat)(p:List Nat):Env→List Ob→au R→Option R:=bJ Tryz.prog (aV dF) 67 0 aC k0 (cO p (dH Tryz.prog 91))
def R0{R:Type}(nx0:ug R)(ex0:PK R)(ex1:PI R)(atx i f:Int)(f3 f4:List U8)(e e5 e6 e7 e8 t4x t4x2 t4x3:Int):Option R:=cond (decide (i<(f3.length:Int))) (if 0≤i∧i<(f3.length:Int)then cond ((rd (0,0,0,0,()) f3 i).2.1==e5) ((jB (9,())).bind fun y1=>ex0 atx f f3 f4 e e5 e6 e7 e8 y1.1 y1.2.2.2.1 y1.2.2.2.2.1 y1.2.1 y1.2.2.1) (nx0 atx (af (i+1)) f f3 f4 e e5 e6 e7 e8 t4x t4x2 t4x3)else none) (ex1 atx f f3 f4 e e5 e6 e7 e8 t4x t4x2 t4x3)
def R1{R:Type}(nx1:ug R)(ex2:PG R)(ex3:PE R)(atx i f:Int)(f3 f4:List U8)(e e5 e6 e7 e8 t4x t4x2 t4x3:Int):Option R:=cond (decide (i<(f4.length:Int))) (if 0≤i∧i<(f4.length:Int)then cond ((rd (0,0,0,0,()) f4 i).2.1==e5) ((jB (9,())).bind fun y1=>ex2 atx f f3 f4 y1.1 y1.2.2.2.1 y1.2.2.2.2.1 y1.2.1 y1.2.2.1) (nx1 atx (af (i+1)) f f3 f4 e e5 e6 e7 e8 t4x t4x2 t4x3)else none) (ex3 atx f f3 f4 t4x t4x2 t4x3)
def A0(f0:Int)(f1 f2:List U8)(e0 e1 e2 e3 e4:Int)(atx f:Int)(f3 f4:List U8)(e e5 e6 e7 e8 t4x t4x2 t4x3:Int)(o3 o4:List U8):Option (U2):=some (t4x,o3,o4,t4x2,t4x3,())
def A1(lo1:ug (U2))(f0:Int)(f1 f2:List U8)(e0 e1 e2 e3 e4:Int)(atx f:Int)(f3 f4:List U8)(e e5 e6 e7 e8 t4x t4x2 t4x3:Int):Option (U2):=lo1 atx 0 f f3 f4 e e5 e6 e7 e8 t4x t4x2 t4x3
def A2(f0:Int)(f1 f2:List U8)(e0 e1 e2 e3 e4:Int)(atx f:Int)(f3 f4:List U8)(t4x t4x2 t4x3:Int)(o2 o3:List U8):Option (U2):=some (t4x,o2,o3,t4x2,t4x3,())
def A3(f0:Int)(f1 f2:List U8)(e0 e1 e2 e3 e4:Int)(atx f:Int)(f3 f4:List U8)(t4x t4x2 t4x3:Int):Option (U2):=(pJ (f,f3,f4,())).bind fun y1=>if 0≤atx∧atx≤(f3.length:Int)then if([]:List U8).length+(f3.take (atx.toNat)).length≤maxRow then if 0≤(af (atx+1))∧(af (atx+1))≤(f3.length:Int)then if(([]:List U8)++(f3.take (atx.toNat))).length+(f3.drop ((af (atx+1)).toNat)).length≤maxRow then some (y1.1,((([]:List U8)++(f3.take (atx.toNat)))++(f3.drop ((af (atx+1)).toNat))),y1.2.2.1,0,0,())else none else none else none else none
def T(lo0:ug (U2))(f0:Int)(f1 f2:List U8)(e0 e1 e2 e3 e4:Int):Option (U2):=(jU (f0,f1,f2,e1,())).bind fun y1=>cond (decide (y1.1<0)) ((jB (4,())).bind fun y2=>some (y2.1,y2.2.1,y2.2.2.1,y2.2.2.2.1,y2.2.2.2.2.1,())) (lo0 y1.1 0 f0 f1 f2 e0 e1 e2 e3 e4 0 0 0)
def K0{R:Type}(k0:Nat)(K:au R):au R:=bg 0 (bG (fun env ob=>zrc k0 [1,1,1,1] env ob (K)) (K))
def K1{R:Type}(k0:Nat)(K:au R):au R:=bg 2 (bG (fun env ob=>zrc k0 [1,1,1,1,1] env ob (K)) (K))
def L0:ug R:=fun atx i f f3 f4 e e5 e6 e7 e8 t4x t4x2 t4x3=>iter 0 [2,3,4,5,6] [2,3,4,5] (zrc k0 [1,1,1,0,1,0,0]) k [(2,.ptr 0 0 0 0),(3,.ptr 1 0 0 0),(4,.ptr 2 0 0 0),(5,.int .i64 atx),(6,.int .i64 i)] [.box [.int .i64 f,.sl aA f3,.sl aA f4],.box [.int .i64 e,.int .i64 e5,.int .i64 e6,.int .i64 e7,.int .i64 e8],.box [.int .i64 t4x,.nils,.nils,.int .i64 t4x2,.int .i64 t4x3]] K
def L1:ug R:=fun atx i f f3 f4 e e5 e6 e7 e8 t4x t4x2 t4x3=>iter 0 [2,3,4,5,7] [2,4,5] (zrc k0 [1,1,1,1,0,1,0,0]) k [(2,.ptr 0 0 0 0),(3,.ptr 1 0 0 0),(4,.ptr 2 0 0 0),(5,.int .i64 atx),(7,.int .i64 i)] [.box [.int .i64 f,.sl aA f3,.sl aA f4],.box [.int .i64 e,.int .i64 e5,.int .i64 e6,.int .i64 e7,.int .i64 e8],.box [.int .i64 t4x,.nils,.nils,.int .i64 t4x2,.int .i64 t4x3]] K
def H0:PK R:=fun atx f f3 f4 e e5 e6 e7 e8 t4x t4x2 t4x3 o3 o4=>K .ret [(2,.ptr 0 0 0 0),(3,.ptr 1 0 0 0),(4,.ptr 2 0 0 0),(5,.int .i64 atx)] [.box [.int .i64 f,.sl aA f3,.sl aA f4],.box [.int .i64 e,.int .i64 e5,.int .i64 e6,.int .i64 e7,.int .i64 e8],.box [.int .i64 t4x,.own 3,.own 4,.int .i64 t4x2,.int .i64 t4x3],.arr aA o3,.arr aA o4]
def H1:PI R:=fun atx f f3 f4 e e5 e6 e7 e8 t4x t4x2 t4x3=>K (.exit 0) [(2,.ptr 0 0 0 0),(3,.ptr 1 0 0 0),(4,.ptr 2 0 0 0),(5,.int .i64 atx)] [.box [.int .i64 f,.sl aA f3,.sl aA f4],.box [.int .i64 e,.int .i64 e5,.int .i64 e6,.int .i64 e7,.int .i64 e8],.box [.int .i64 t4x,.nils,.nils,.int .i64 t4x2,.int .i64 t4x3]]
def H2:PG R:=fun atx f f3 f4 t4x t4x2 t4x3 o2 o3=>K .ret [(2,.ptr 0 0 0 0),(4,.ptr 1 0 0 0),(5,.int .i64 atx)] [.box [.int .i64 f,.sl aA f3,.sl aA f4],.box [.int .i64 t4x,.own 2,.own 3,.int .i64 t4x2,.int .i64 t4x3],.arr aA o2,.arr aA o3]
def H3:PE R:=fun atx f f3 f4 t4x t4x2 t4x3=>K (.exit 2) [(2,.ptr 0 0 0 0),(4,.ptr 1 0 0 0),(5,.int .i64 atx)] [.box [.int .i64 f,.sl aA f3,.sl aA f4],.box [.int .i64 t4x,.nils,.nils,.int .i64 t4x2,.int .i64 t4x3]]
theorem zs0:L0 k0 (k+1) K=R0 (L0 k0 k K) (H0 K) (H1 K):=by kernel_rfl
theorem zs1:L1 k0 (k+1) K=R1 (L1 k0 k K) (H2 K) (H3 K):=by kernel_rfl
def G0{R:Type}(k0:Nat)(hx0:PK R)(hx1:PI R):Nat→ug R
 |0=>fun _ _ _ _ _ _ _ _ _ _ _ _ _=>none
 |k+1=>R0 (G0 k0 hx0 hx1 k) hx0 hx1
theorem aQ:∀ k,L0 k0 k K=G0 k0 (H0 K) (H1 K) k:=bK rfl fun k ih=>by rw[zs0,G0];(try simp only[ih]);try rfl
def G1{R:Type}(k0:Nat)(hx2:PG R)(hx3:PE R):Nat→ug R
 |0=>fun _ _ _ _ _ _ _ _ _ _ _ _ _=>none
 |k+1=>R1 (G1 k0 hx2 hx3 k) hx2 hx3
theorem dK:∀ k,L1 k0 k K=G1 k0 (H2 K) (H3 K) k:=bK rfl fun k ih=>by rw[zs1,G1];(try simp only[ih,aQ]);try rfl
variable (f0:Int) (f1 f2:List U8) (e0 e1 e2 e3 e4:Int)
def aB:au (U2):=di Tryz.prog [.cell 4 81] JV Jt (f0,f1,f2,e0,e1,e2,e3,e4,())
theorem aY:H0 (K0 k0 (aB f0 f1 f2 e0 e1 e2 e3 e4))=A0 f0 f1 f2 e0 e1 e2 e3 e4:=by kernel_rfl
theorem dA:H1 (K0 k0 (aB f0 f1 f2 e0 e1 e2 e3 e4))=A1 (L1 k0 k0 (K1 k0 (aB f0 f1 f2 e0 e1 e2 e3 e4))) f0 f1 f2 e0 e1 e2 e3 e4:=by kernel_rfl
theorem lI:H2 (K1 k0 (aB f0 f1 f2 e0 e1 e2 e3 e4))=A2 f0 f1 f2 e0 e1 e2 e3 e4:=by kernel_rfl
theorem oQ:H3 (K1 k0 (aB f0 f1 f2 e0 e1 e2 e3 e4))=A3 f0 f1 f2 e0 e1 e2 e3 e4:=by kernel_rfl
def FF:Option (U2):=T (G0 k0 (A0 f0 f1 f2 e0 e1 e2 e3 e4) (A1 (G1 k0 (A2 f0 f1 f2 e0 e1 e2 e3 e4) (A3 f0 f1 f2 e0 e1 e2 e3 e4) k0) f0 f1 f2 e0 e1 e2 e3 e4) k0) f0 f1 f2 e0 e1 e2 e3 e4
theorem aX:dw Tryz.prog (aV dF) aC k0 91 JV Jt [] (f0,f1,f2,e0,e1,e2,e3,e4,())=FF k0 f0 f1 f2 e0 e1 e2 e3 e4:=Eq.trans (b:=T (L0 k0 k0 (K0 k0 (aB f0 f1 f2 e0 e1 e2 e3 e4))) f0 f1 f2 e0 e1 e2 e3 e4) (by kernel_rfl) (by rw[FF];(try simp only[aQ,dK,aY,dA,lI,oQ]);try rfl)
def _root_.Go.Rv.wV:=fun x:Int×(List U8)×(List U8)×U6=>FF (300+x.2.1.length+x.2.2.1.length) x.1 x.2.1 x.2.2.1 x.2.2.2.1 x.2.2.2.2.1 x.2.2.2.2.2.1 x.2.2.2.2.2.2.1 x.2.2.2.2.2.2.2.1
abbrev _root_.Go.Rv.aa1:aG:=⟨JV,Jt,wV,[]⟩
theorem _root_.Go.Rv.aax:aF Dr Tryz.prog 91 aa1:=dI mix (.c wM (.c Di (.c zT .nil))) (by kernel_rfl) fun x=>⟨aC,_,aX _ _ _ _ _ _ _ _ _⟩
end jd
def wZ.T(f0:Int)(f1 f2:List U8)(e0 e1 e2 e3 e4:Int):Option (U2):=(zL (f0,f1,f2,())).bind fun y1=>cond (!y1.1) ((jB (1,())).bind fun y2=>some (y2.1,y2.2.1,y2.2.2.1,y2.2.2.2.1,y2.2.2.2.2.1,())) ((jT (e0,e1,e2,e3,e4,())).bind fun y3=>cond (!y3.1) ((jB (1,())).bind fun y4=>some (y4.1,y4.2.1,y4.2.2.1,y4.2.2.2.1,y4.2.2.2.2.1,())) ((pJ (f0,f1,f2,())).bind fun y5=>cond (e0==1) ((DF (f0,f1,f2,e0,e1,e2,e3,e4,())).bind fun y6=>some (y6.1,y6.2.1,y6.2.2.1,y6.2.2.2.1,y6.2.2.2.2.1,())) (cond (e0==6) ((uJ (f0,f1,f2,e0,e1,e2,e3,e4,())).bind fun y7=>some (y7.1,y7.2.1,y7.2.2.1,y7.2.2.2.1,y7.2.2.2.2.1,())) (cond (e0==7) ((wV (f0,f1,f2,e0,e1,e2,e3,e4,())).bind fun y8=>some (y8.1,y8.2.1,y8.2.2.1,y8.2.2.2.1,y8.2.2.2.2.1,())) (cond (e0==8) (cond (e1==0) (some (e3,y5.2.1,y5.2.2.1,0,0,())) ((jU (f0,f1,f2,e1,())).bind fun y9=>cond (decide (y9.1<0)) ((jB (4,())).bind fun y10=>some (y10.1,y10.2.1,y10.2.2.1,y10.2.2.2.1,y10.2.2.2.2.1,())) (if 0≤y9.1∧y9.1<(y5.2.1.length:Int)then some (y5.1,(y5.2.1.set ((y9.1).toNat) ((y5.2.1.getD ((y9.1).toNat) (0,0,0,0,())).1,(y5.2.1.getD ((y9.1).toNat) (0,0,0,0,())).2.1,e3,(y5.2.1.getD ((y9.1).toNat) (0,0,0,0,())).2.2.2.1,())),y5.2.2.1,0,0,())else none))) ((qB (f0,f1,f2,e1,())).bind fun y11=>cond (decide (y11.1<0)) ((jB (4,())).bind fun y12=>some (y12.1,y12.2.1,y12.2.2.1,y12.2.2.2.1,y12.2.2.2.2.1,())) (cond (e2 != 0) ((jU (f0,f1,f2,e2,())).bind fun y13=>cond (decide (y13.1<0)) ((jB (4,())).bind fun y14=>some (y14.1,y14.2.1,y14.2.2.1,y14.2.2.2.1,y14.2.2.2.2.1,())) (cond (e0==2) (if 0≤y11.1∧y11.1≤(f2.length:Int)then if([]:List U8).length+(f2.take (y11.1.toNat)).length≤maxRow then if 0≤(af (y11.1+1))∧(af (y11.1+1))≤(f2.length:Int)then if(([]:List U8)++(f2.take (y11.1.toNat))).length+(f2.drop ((af (y11.1+1)).toNat)).length≤maxRow then some (y5.1,y5.2.1,((([]:List U8)++(f2.take (y11.1.toNat)))++(f2.drop ((af (y11.1+1)).toNat))),0,0,())else none else none else none else none) (cond (e0==3) (if 0≤y11.1∧y11.1<(y5.2.2.1.length:Int)then some (y5.1,y5.2.1,(y5.2.2.1.set ((y11.1).toNat) ((y5.2.2.1.getD ((y11.1).toNat) (0,0,0,0,())).1,(y5.2.2.1.getD ((y11.1).toNat) (0,0,0,0,())).2.1,e3,(y5.2.2.1.getD ((y11.1).toNat) (0,0,0,0,())).2.2.2.1,())),0,0,())else none) (cond (e0==4) (if 0≤y11.1∧y11.1<(y5.2.2.1.length:Int)then some (y5.1,y5.2.1,(y5.2.2.1.set ((y11.1).toNat) ((y5.2.2.1.getD ((y11.1).toNat) (0,0,0,0,())).1,(y5.2.2.1.getD ((y11.1).toNat) (0,0,0,0,())).2.1,(y5.2.2.1.getD ((y11.1).toNat) (0,0,0,0,())).2.2.1,e3,())),0,0,())else none) (if 0≤y11.1∧y11.1<(y5.2.2.1.length:Int)then some (y5.1,y5.2.1,(y5.2.2.1.set ((y11.1).toNat) ((y5.2.2.1.getD ((y11.1).toNat) (0,0,0,0,())).1,e2,(y5.2.2.1.getD ((y11.1).toNat) (0,0,0,0,())).2.2.1,(y5.2.2.1.getD ((y11.1).toNat) (0,0,0,0,())).2.2.2.1,())),0,0,())else none))))) (cond (e0==2) (if 0≤y11.1∧y11.1≤(f2.length:Int)then if([]:List U8).length+(f2.take (y11.1.toNat)).length≤maxRow then if 0≤(af (y11.1+1))∧(af (y11.1+1))≤(f2.length:Int)then if(([]:List U8)++(f2.take (y11.1.toNat))).length+(f2.drop ((af (y11.1+1)).toNat)).length≤maxRow then some (y5.1,y5.2.1,((([]:List U8)++(f2.take (y11.1.toNat)))++(f2.drop ((af (y11.1+1)).toNat))),0,0,())else none else none else none else none) (cond (e0==3) (if 0≤y11.1∧y11.1<(y5.2.2.1.length:Int)then some (y5.1,y5.2.1,(y5.2.2.1.set ((y11.1).toNat) ((y5.2.2.1.getD ((y11.1).toNat) (0,0,0,0,())).1,(y5.2.2.1.getD ((y11.1).toNat) (0,0,0,0,())).2.1,e3,(y5.2.2.1.getD ((y11.1).toNat) (0,0,0,0,())).2.2.2.1,())),0,0,())else none) (cond (e0==4) (if 0≤y11.1∧y11.1<(y5.2.2.1.length:Int)then some (y5.1,y5.2.1,(y5.2.2.1.set ((y11.1).toNat) ((y5.2.2.1.getD ((y11.1).toNat) (0,0,0,0,())).1,(y5.2.2.1.getD ((y11.1).toNat) (0,0,0,0,())).2.1,(y5.2.2.1.getD ((y11.1).toNat) (0,0,0,0,())).2.2.1,e3,())),0,0,())else none) (if 0≤y11.1∧y11.1<(y5.2.2.1.length:Int)then some (y5.1,y5.2.1,(y5.2.2.1.set ((y11.1).toNat) ((y5.2.2.1.getD ((y11.1).toNat) (0,0,0,0,())).1,e2,(y5.2.2.1.getD ((y11.1).toNat) (0,0,0,0,())).2.2.1,(y5.2.2.1.getD ((y11.1).toNat) (0,0,0,0,())).2.2.2.1,())),0,0,())else none)))))))))))
def kF:=fun x:Int×(List U8)×(List U8)×U6=>wZ.T x.1 x.2.1 x.2.2.1 x.2.2.2.1 x.2.2.2.2.1 x.2.2.2.2.2.1 x.2.2.2.2.2.2.1 x.2.2.2.2.2.2.2.1
abbrev KH:aG:=⟨[.v true gQ,.v true fE],[(true,BO)],kF,[]⟩
theorem QK:aF Dr Tryz.prog 40 KH:=bC mix (.c JB (.c CZ (.c wM (.c Qy (.c Di (.c zT (.c aaw (.c aai (.c aax .nil))))))))) (by kernel_rfl) fun x=>by kernel_rfl
def SI.T(s0 s1 s2 s3:Int)(s4 s5:List U8)(s6:List U9):Option (U1):=(pJ (s3,s4,s5,())).bind fun y1=>if([]:List U9).length+s6.length≤maxRow then some (s0,s1,s2,y1.1,y1.2.1,y1.2.2.1,(([]:List U9)++s6),())else none
def oh:=fun x:U1=>SI.T x.1 x.2.1 x.2.2.1 x.2.2.2.1 x.2.2.2.2.1 x.2.2.2.2.2.1 x.2.2.2.2.2.2.1
abbrev uK:aG:=⟨[.v true iZ],[(true,iZ)],oh,[]⟩
theorem zS:aF Dr Tryz.prog 42 uK:=bC mix (.c zT .nil) (by kernel_rfl) fun x=>by kernel_rfl
def Lu.T(a b:Int):Option (Int×Unit):=cond (decide (a<b)) (some (a,())) (some (b,()))
def uP:=fun x:aH=>Lu.T x.1 x.2.1
abbrev DU:aG:=⟨[.v false [CT.int .i64],.v false [CT.int .i64]],[(false,[CT.int .i64])],uP,[]⟩
theorem RI:aF Dr Tryz.prog 83 DU:=bC mix .nil (by kernel_rfl) fun x=>by kernel_rfl
abbrev JD:Is:=[.v true gQ]
abbrev Ja:Os:=[(false,[CT.sl [CT.int .i64]])]
namespace gU
def aC:Nat→List Nat×List Nat:=fun k=>if k=3 then([1,3,4],[3])else if k=7 then([1,3,4,5,6],[1,3,4,5])else if k=12 then([1,3,4,5,7],[1,3,4,5])else([],[])
def zrc{R:Type}(k0:Nat)(p:List Nat):Env→List Ob→au R→Option R:=bJ Tryz.prog (aV [(83,[],DU)]) 88 0 aC k0 (cO p (dH Tryz.prog 148))
def R0{R:Type}(ex0:zh R)(lo1:uf R)(i f:Int)(f3 f4:List U8)(out:List (Int×Unit)):Option R:=cond (decide (i≥0)) (lo1 i 0 (af (i+1)) f f3 f4 out) (ex0 out)
def R1{R:Type}(nx1:uf R)(ex1:zf R)(i sum kx f:Int)(f3 f4:List U8)(out:List (Int×Unit)):Option R:=cond (decide (kx<(f3.length:Int))) (if 0≤kx∧kx<(f3.length:Int)then if 0≤i∧i<(f3.length:Int)then cond ((rd (0,0,0,0,()) f3 kx).2.1==(rd (0,0,0,0,()) f3 i).1) (if 0≤kx∧kx<(out.length:Int)then nx1 i (af (sum+(out.getD kx.toNat (0,())).1)) (af (kx+1)) f f3 f4 out else none) (nx1 i sum (af (kx+1)) f f3 f4 out)else none else none) (ex1 i sum f f3 f4 out)
def R2{R:Type}(nx2:uf R)(ex2:zf R)(i sum kx f:Int)(f3 f4:List U8)(out:List (Int×Unit)):Option R:=cond (decide (kx<(f4.length:Int))) (if 0≤kx∧kx<(f4.length:Int)then if 0≤i∧i<(f3.length:Int)then cond ((rd (0,0,0,0,()) f4 kx).2.1==(rd (0,0,0,0,()) f3 i).1) (if 0≤kx∧kx<(f4.length:Int)then nx2 i (af (sum+(rd (0,0,0,0,()) f4 kx).2.2.1)) (af (kx+1)) f f3 f4 out else none) (nx2 i sum (af (kx+1)) f f3 f4 out)else none else none) (ex2 i sum f f3 f4 out)
def A0(f0:Int)(f1 f2:List U8)(out:List (Int×Unit)):Option ((List (Int×Unit))×Unit):=some (out,())
def A1{R:Type}(lo2:uf R)(i sum f:Int)(f3 f4:List U8)(out:List (Int×Unit)):Option R:=lo2 i sum 0 f f3 f4 out
def A2{R:Type}(nx0:Gm R)(i sum f:Int)(f3 f4:List U8)(out:List (Int×Unit)):Option R:=if 0≤i∧i<(f3.length:Int)then(uP (sum,(rd (0,0,0,0,()) f3 i).2.2.1,())).bind fun y1=>if 0≤i∧i<(out.length:Int)then nx0 (af (i - 1)) f f3 f4 (out.set i.toNat (y1.1,()))else none else none
def T(lo0:Gm ((List (Int×Unit))×Unit))(f0:Int)(f1 f2:List U8):Option ((List (Int×Unit))×Unit):=if 0≤(f1.length:Int)∧(8:Int)*(f1.length:Int)≤281474976710656∧(f1.length:Int)≤9223372036854775807 then lo0 (af ((f1.length:Int) - 1)) f0 f1 f2 (List.replicate (((f1.length:Int):Int)).toNat (0,()))else none
def K0{R:Type}(k0:Nat)(K:au R):au R:=bg 0 (bG (fun env ob=>zrc k0 [1,1,1] env ob (K)) (K))
def K1{R:Type}(k0:Nat)(K:au R):au R:=bg 2 (bG (fun env ob=>zrc k0 [1,1,0,1,0,0,1,0,0,1,1] env ob (bg 1 (bG (fun env ob=>zrc k0 [1,1,0,1,0,0,1,1] env ob (K)) (K)))) (bg 1 (bG (fun env ob=>zrc k0 [1,1,0,1,0,0,1,1] env ob (K)) (K))))
def K2{R:Type}(k0:Nat)(K:au R):au R:=bg 4 (bG (fun env ob=>zrc k0 [1,1,0,1,0,0,1,0,0,1,1,1] env ob (bg 1 (bG (fun env ob=>zrc k0 [1,1,0,1,0,0,1,1] env ob (K)) (K)))) (bg 1 (bG (fun env ob=>zrc k0 [1,1,0,1,0,0,1,1] env ob (K)) (K))))
def P0:au R:=sV 0 [1,3,4] [3] (fun env ob=>iter 0 [1,3,4] [3] (zrc k0 [1,1,0,1,0,0]) k env ob K) K
def L0:Gm R:=fun i f f3 f4 out=>iter 0 [1,3,4] [3] (zrc k0 [1,1,0,1,0,0]) k [(1,.ptr 0 0 0 0),(3,.own 1),(4,.int .i64 i)] [.box [.int .i64 f,.sl aA f3,.sl aA f4],.arr [CT.int .i64] out] K
def L1:uf R:=fun i sum kx f f3 f4 out=>iter 0 [1,3,4,5,6] [1,3,4,5] (zrc k0 [1,1,0,1,0,0,1,0,0,1,0,1,0,0]) k [(1,.ptr 0 0 0 0),(3,.own 1),(4,.int .i64 i),(5,.int .i64 sum),(6,.int .i64 kx)] [.box [.int .i64 f,.sl aA f3,.sl aA f4],.arr [CT.int .i64] out] K
def L2:uf R:=fun i sum kx f f3 f4 out=>iter 0 [1,3,4,5,7] [1,3,4,5] (zrc k0 [1,1,0,1,0,0,1,0,0,1,1,0,1,0,0]) k [(1,.ptr 0 0 0 0),(3,.own 1),(4,.int .i64 i),(5,.int .i64 sum),(7,.int .i64 kx)] [.box [.int .i64 f,.sl aA f3,.sl aA f4],.arr [CT.int .i64] out] K
def H0:zh R:=fun out=>K (.exit 0) [(3,.own 0)] [.arr [CT.int .i64] out]
def H1:zf R:=fun i sum f f3 f4 out=>K (.exit 2) [(1,.ptr 0 0 0 0),(3,.own 1),(4,.int .i64 i),(5,.int .i64 sum)] [.box [.int .i64 f,.sl aA f3,.sl aA f4],.arr [CT.int .i64] out]
def H2:zf R:=fun i sum f f3 f4 out=>K (.exit 4) [(1,.ptr 0 0 0 0),(3,.own 1),(4,.int .i64 i),(5,.int .i64 sum)] [.box [.int .i64 f,.sl aA f3,.sl aA f4],.arr [CT.int .i64] out]
theorem zs0:L0 k0 (k+1) K=R0 (H0 K) (L1 k0 k0 (K1 k0 (P0 k0 k K))):=by kernel_rfl
theorem zs1:L1 k0 (k+1) K=R1 (L1 k0 k K) (H1 K):=by kernel_rfl
theorem zs2:L2 k0 (k+1) K=R2 (L2 k0 k K) (H2 K):=by kernel_rfl
theorem dA:H1 (K1 k0 (P0 k0 k K))=A1 (L2 k0 k0 (K2 k0 (P0 k0 k K))):=by kernel_rfl
theorem lI:H2 (K2 k0 (P0 k0 k K))=A2 (L0 k0 k K):=by kernel_rfl
def G1{R:Type}(k0:Nat)(hx1:zf R):Nat→uf R
 |0=>fun _ _ _ _ _ _ _=>none
 |k+1=>R1 (G1 k0 hx1 k) hx1
theorem dK:∀ k,L1 k0 k K=G1 k0 (H1 K) k:=bK rfl fun k ih=>by rw[zs1,G1];(try simp only[ih]);try rfl
def G2{R:Type}(k0:Nat)(hx2:zf R):Nat→uf R
 |0=>fun _ _ _ _ _ _ _=>none
 |k+1=>R2 (G2 k0 hx2 k) hx2
theorem jS:∀ k,L2 k0 k K=G2 k0 (H2 K) k:=bK rfl fun k ih=>by rw[zs2,G2];(try simp only[ih,dK]);try rfl
def G0{R:Type}(k0:Nat)(hx0:zh R):Nat→Gm R
 |0=>fun _ _ _ _ _=>none
 |k+1=>R0 hx0 (G1 k0 (A1 (G2 k0 (A2 (G0 k0 hx0 k)) k0)) k0)
theorem aQ:∀ k,L0 k0 k K=G0 k0 (H0 K) k:=bK rfl fun k ih=>by rw[zs0,G0];(try simp only[ih,dK,jS,dA,lI]);try rfl
variable (f0:Int) (f1 f2:List U8)
def aB:au ((List (Int×Unit))×Unit):=di Tryz.prog [.tmp 2] JD Ja (f0,f1,f2,())
theorem aY:H0 (K0 k0 (aB f0 f1 f2))=A0 f0 f1 f2:=by kernel_rfl
def FF:Option ((List (Int×Unit))×Unit):=T (G0 k0 (A0 f0 f1 f2) k0) f0 f1 f2
theorem aX:dw Tryz.prog (aV [(83,[],DU)]) aC k0 148 JD Ja [] (f0,f1,f2,())=FF k0 f0 f1 f2:=Eq.trans (b:=T (L0 k0 k0 (K0 k0 (aB f0 f1 f2))) f0 f1 f2) (by kernel_rfl) (by rw[FF];(try simp only[dK,jS,aQ,aY]);try rfl)
def _root_.Go.Rv.Dw:=fun x:U3=>FF (300+x.2.1.length+x.2.2.1.length) x.1 x.2.1 x.2.2.1
abbrev _root_.Go.Rv.KG:aG:=⟨JD,Ja,Dw,[]⟩
theorem _root_.Go.Rv.aaj:aF Dr Tryz.prog 148 KG:=dI mix (.c RI .nil) (by kernel_rfl) fun x=>⟨aC,_,aX _ _ _ _⟩
end gU
abbrev JW:Is:=[.v true gQ,.v false [CT.int .i64]]
abbrev Ju:Os:=[(false,[CT.sl dM]),(false,[CT.sl ct0])]
namespace je
def aC:Nat→List Nat×List Nat:=fun k=>if k=5 then([1,2,6,7,8,9],[1,2,7,8])else if k=11 then([1,2,7,8,10],[7,8])else([],[])
def zrc{R:Type}(k0:Nat)(p:List Nat):Env→List Ob→au R→Option R:=bJ Tryz.prog (aV [(148,[],KG)]) 91 0 aC k0 (cO p (dH Tryz.prog 132))
def R0{R:Type}(nx0:Gl R)(ex0:PD R)(group2 i f:Int)(f3 f4:List U8)(wants:List (Int×Unit))(kids:List aH)(items:List U9):Option R:=cond (decide (i<(f3.length:Int))) (if 0≤i∧i<(f3.length:Int)then cond ((rd (0,0,0,0,()) f3 i).2.1==group2) (if kids.length+[(i,(-1),())].length≤maxRow then if 0≤i∧i<(wants.length:Int)then if 0≤i∧i<(f3.length:Int)then if items.length+([(((kids++[(i,(-1),())]).length:Int),(wants.getD i.toNat (0,())).1,(rd (0,0,0,0,()) f3 i).2.2.2.1,())]).length≤maxRow then nx0 group2 (af (i+1)) f f3 f4 wants (kids++[(i,(-1),())]) (items++[(((kids++[(i,(-1),())]).length:Int),(wants.getD i.toNat (0,())).1,(rd (0,0,0,0,()) f3 i).2.2.2.1,())])else none else none else none else none) (nx0 group2 (af (i+1)) f f3 f4 wants kids items)else none) (ex0 group2 f f3 f4 kids items)
def R1{R:Type}(nx1:Gj R)(ex1:Pz R)(group2 i f:Int)(f3 f4:List U8)(kids:List aH)(items:List U9):Option R:=cond (decide (i<(f4.length:Int))) (if 0≤i∧i<(f4.length:Int)then cond ((rd (0,0,0,0,()) f4 i).2.1==group2) (if kids.length+[((-1),i,())].length≤maxRow then if 0≤i∧i<(f4.length:Int)then if 0≤i∧i<(f4.length:Int)then if items.length+([(((kids++[((-1),i,())]).length:Int),(rd (0,0,0,0,()) f4 i).2.2.1,(rd (0,0,0,0,()) f4 i).2.2.2.1,())]).length≤maxRow then nx1 group2 (af (i+1)) f f3 f4 (kids++[((-1),i,())]) (items++[(((kids++[((-1),i,())]).length:Int),(rd (0,0,0,0,()) f4 i).2.2.1,(rd (0,0,0,0,()) f4 i).2.2.2.1,())])else none else none else none else none) (nx1 group2 (af (i+1)) f f3 f4 kids items)else none) (ex1 kids items)
def A0(lo1:Gj ((List aH)×(List U9)×Unit))(f0:Int)(f1 f2:List U8)(group:Int)(group2 f:Int)(f3 f4:List U8)(kids:List aH)(items:List U9):Option ((List aH)×(List U9)×Unit):=lo1 group2 0 f f3 f4 kids items
def A1(f0:Int)(f1 f2:List U8)(group:Int)(kids:List aH)(items:List U9):Option ((List aH)×(List U9)×Unit):=some (kids,items,())
def T(lo0:Gl ((List aH)×(List U9)×Unit))(f0:Int)(f1 f2:List U8)(group:Int):Option ((List aH)×(List U9)×Unit):=(Dw (f0,f1,f2,())).bind fun y1=>lo0 group 0 f0 f1 f2 y1.1 ([]:List aH) ([]:List U9)
def K0{R:Type}(k0:Nat)(K:au R):au R:=bg 0 (bG (fun env ob=>zrc k0 [1,1,1,1,1] env ob (K)) (K))
def K1{R:Type}(k0:Nat)(K:au R):au R:=bg 2 (bG (fun env ob=>zrc k0 [1,1,1,1,1,1] env ob (K)) (K))
def L0:Gl R:=fun group2 i f f3 f4 wants kids items=>iter 0 [1,2,6,7,8,9] [1,2,7,8] (zrc k0 [1,1,1,1,0,1,0,0]) k [(1,.int .i64 group2),(2,.ptr 0 0 0 0),(6,.own 1),(7,.own 2),(8,.own 3),(9,.int .i64 i)] [.box [.int .i64 f,.sl aA f3,.sl aA f4],.arr [CT.int .i64] wants,.arr dM kids,.arr ct0 items] K
def L1:Gj R:=fun group2 i f f3 f4 kids items=>iter 0 [1,2,7,8,10] [7,8] (zrc k0 [1,1,1,1,1,0,1,0,0]) k [(1,.int .i64 group2),(2,.ptr 0 0 0 0),(7,.own 1),(8,.own 2),(10,.int .i64 i)] [.box [.int .i64 f,.sl aA f3,.sl aA f4],.arr dM kids,.arr ct0 items] K
def H0:PD R:=fun group2 f f3 f4 kids items=>K (.exit 0) [(1,.int .i64 group2),(2,.ptr 0 0 0 0),(7,.own 1),(8,.own 2)] [.box [.int .i64 f,.sl aA f3,.sl aA f4],.arr dM kids,.arr ct0 items]
def H1:Pz R:=fun kids items=>K (.exit 2) [(7,.own 0),(8,.own 1)] [.arr dM kids,.arr ct0 items]
theorem zs0:L0 k0 (k+1) K=R0 (L0 k0 k K) (H0 K):=by kernel_rfl
theorem zs1:L1 k0 (k+1) K=R1 (L1 k0 k K) (H1 K):=by kernel_rfl
def G0{R:Type}(k0:Nat)(hx0:PD R):Nat→Gl R
 |0=>fun _ _ _ _ _ _ _ _=>none
 |k+1=>R0 (G0 k0 hx0 k) hx0
theorem aQ:∀ k,L0 k0 k K=G0 k0 (H0 K) k:=bK rfl fun k ih=>by rw[zs0,G0];(try simp only[ih]);try rfl
def G1{R:Type}(k0:Nat)(hx1:Pz R):Nat→Gj R
 |0=>fun _ _ _ _ _ _ _=>none
 |k+1=>R1 (G1 k0 hx1 k) hx1
theorem dK:∀ k,L1 k0 k K=G1 k0 (H1 K) k:=bK rfl fun k ih=>by rw[zs1,G1];(try simp only[ih,aQ]);try rfl
variable (f0:Int) (f1 f2:List U8) (group:Int)
def aB:au ((List aH)×(List U9)×Unit):=di Tryz.prog [.tmp 4,.tmp 5] JW Ju (f0,f1,f2,group,())
theorem aY:H0 (K0 k0 (aB f0 f1 f2 group))=A0 (L1 k0 k0 (K1 k0 (aB f0 f1 f2 group))) f0 f1 f2 group:=by kernel_rfl
theorem dA:H1 (K1 k0 (aB f0 f1 f2 group))=A1 f0 f1 f2 group:=by kernel_rfl
def FF:Option ((List aH)×(List U9)×Unit):=T (G0 k0 (A0 (G1 k0 (A1 f0 f1 f2 group) k0) f0 f1 f2 group) k0) f0 f1 f2 group
theorem aX:dw Tryz.prog (aV [(148,[],KG)]) aC k0 132 JW Ju [] (f0,f1,f2,group,())=FF k0 f0 f1 f2 group:=Eq.trans (b:=T (L0 k0 k0 (K0 k0 (aB f0 f1 f2 group))) f0 f1 f2 group) (by kernel_rfl) (by rw[FF];(try simp only[aQ,dK,aY,dA]);try rfl)
def _root_.Go.Rv.Ad:=fun x:Int×(List U8)×(List U8)×Int×Unit=>FF (300+x.2.1.length+x.2.2.1.length) x.1 x.2.1 x.2.2.1 x.2.2.2.1
abbrev _root_.Go.Rv.KQ:aG:=⟨JW,Ju,Ad,[]⟩
theorem _root_.Go.Rv.aay:aF Dr Tryz.prog 132 KQ:=dI mix (.c aaj .nil) (by kernel_rfl) fun x=>⟨aC,_,aX _ _ _ _ _⟩
end je
def SX.T(a0 a1 b0 b1:Int):Option (U7):=cond (decide ((IntKind.u64.wrap (a1+b1))<a1)) (cond (decide ((IntKind.u64.wrap (a0+b0))<a0)) (some ((IntKind.u64.wrap ((IntKind.u64.wrap (a0+b0))+1)),(IntKind.u64.wrap (a1+b1)),true,0,())) (some ((IntKind.u64.wrap ((IntKind.u64.wrap (a0+b0))+1)),(IntKind.u64.wrap (a1+b1)),(decide ((IntKind.u64.wrap ((IntKind.u64.wrap (a0+b0))+1))<(IntKind.u64.wrap (a0+b0)))),0,()))) (cond (decide ((IntKind.u64.wrap (a0+b0))<a0)) (some ((IntKind.u64.wrap ((IntKind.u64.wrap (a0+b0))+0)),(IntKind.u64.wrap (a1+b1)),true,0,())) (some ((IntKind.u64.wrap ((IntKind.u64.wrap (a0+b0))+0)),(IntKind.u64.wrap (a1+b1)),(decide ((IntKind.u64.wrap ((IntKind.u64.wrap (a0+b0))+0))<(IntKind.u64.wrap (a0+b0)))),0,())))
def uO:=fun x:U8=>SX.T x.1 x.2.1 x.2.2.1 x.2.2.2.1
abbrev wU:aG:=⟨[.v true ct1,.v true ct1],[(true,X9)],uO,[]⟩
theorem Ku:aF Dr Tryz.prog 165 wU:=bC mix .nil (by kernel_rfl) fun x=>by kernel_rfl
abbrev JZ:Is:=[.v true ct1,.v false [CT.int .i64]]
abbrev Jy:Os:=[(true,ct1)]
namespace rH
def aC:Nat→List Nat×List Nat:=fun k=>if k=3 then([1,2,4],[2,4])else([],[])
def zrc{R:Type}(k0:Nat)(p:List Nat):Env→List Ob→au R→Option R:=bJ Tryz.prog (aV [(165,[],wU)]) 21 0 aC k0 (cO p (dH Tryz.prog 168))
def R0{R:Type}(nx0:tZ R)(ex0:rD R)(n2 a a2 t4x t4x2:Int):Option R:=cond (decide (n2>0)) ((uO (a,a2,a,a2,())).bind fun y1=>nx0 (af (n2 - 1)) y1.1 y1.2.1 t4x t4x2) (ex0 a a2 t4x t4x2)
def A0(a0 a1 n:Int)(a a2 t4x t4x2:Int):Option (aH):=some (a,a2,())
def T(lo0:tZ (aH))(a0 a1 n:Int):Option (aH):=cond (decide (n<0)) (some (0,0,())) (cond (decide (n>127)) (some (0,0,())) (lo0 n a0 a1 0 0))
def K0{R:Type}(k0:Nat)(K:au R):au R:=bg 0 (bG (fun env ob=>zrc k0 [1,1,1] env ob (K)) (K))
def L0:tZ R:=fun n2 a a2 t4x t4x2=>iter 0 [1,2,4] [2,4] (zrc k0 [1,1,0,0,0]) k [(1,.int .i64 n2),(2,.ptr 0 0 0 0),(4,.ptr 1 0 0 0)] [.box [.int .u64 a,.int .u64 a2],.box [.int .u64 t4x,.int .u64 t4x2]] K
def H0:rD R:=fun a a2 t4x t4x2=>K (.exit 0) [(2,.ptr 0 0 0 0),(4,.ptr 1 0 0 0)] [.box [.int .u64 a,.int .u64 a2],.box [.int .u64 t4x,.int .u64 t4x2]]
theorem zs0:L0 k0 (k+1) K=R0 (L0 k0 k K) (H0 K):=by kernel_rfl
def G0{R:Type}(k0:Nat)(hx0:rD R):Nat→tZ R
 |0=>fun _ _ _ _ _=>none
 |k+1=>R0 (G0 k0 hx0 k) hx0
theorem aQ:∀ k,L0 k0 k K=G0 k0 (H0 K) k:=bK rfl fun k ih=>by rw[zs0,G0];(try simp only[ih]);try rfl
variable (a0 a1 n:Int)
def aB:au (aH):=di Tryz.prog [.cell 4 181] JZ Jy (a0,a1,n,())
theorem aY:H0 (K0 k0 (aB a0 a1 n))=A0 a0 a1 n:=by kernel_rfl
def FF:Option (aH):=T (G0 k0 (A0 a0 a1 n) k0) a0 a1 n
theorem aX:dw Tryz.prog (aV [(165,[],wU)]) aC k0 168 JZ Jy [] (a0,a1,n,())=FF k0 a0 a1 n:=Eq.trans (b:=T (L0 k0 k0 (K0 k0 (aB a0 a1 n))) a0 a1 n) (by kernel_rfl) (by rw[FF];(try simp only[aQ,aY]);try rfl)
def _root_.Go.Rv.DK:=fun x:U9=>FF (300) x.1 x.2.1 x.2.2.1
abbrev _root_.Go.Rv.KT:aG:=⟨JZ,Jy,DK,[]⟩
theorem _root_.Go.Rv.aaC:aF Dr Tryz.prog 168 KT:=dI mix (.c Ku .nil) (by kernel_rfl) fun x=>⟨aC,_,aX _ _ _ _⟩
end rH
abbrev J3:Is:=[.v false [CT.int .u64],.v false [CT.int .u64]]
abbrev Jz:Os:=[(true,ct1)]
namespace qF
def aC:Nat→List Nat×List Nat:=fun k=>if k=3 then([0,1,4,5,6],[4,5])else([],[])
def zrc{R:Type}(k0:Nat)(p:List Nat):Env→List Ob→au R→Option R:=bJ Tryz.prog (aV [(165,[],wU),(168,[],KT)]) 26 0 aC k0 (cO p (dH Tryz.prog 152))
def R0{R:Type}(nx0:Gi R)(ex0:rD R)(a2 b2 kx t4x t4x2 sum sum2:Int):Option R:=cond (decide (kx<64)) (if(IntKind.u64.wrap (kx))<0 then none else cond ((IntKind.u64.wrap (((BitVec.ofInt 64 (Int.fdiv b2 (2 ^ (min (((IntKind.u64.wrap (kx)):Int)).toNat 64)))) &&& (BitVec.ofInt 64 1)).toNat))==1) ((DK (0,a2,kx,())).bind fun y1=>(uO (sum,sum2,y1.1,y1.2.1,())).bind fun y2=>nx0 a2 b2 (af (kx+1)) t4x t4x2 y2.1 y2.2.1) (nx0 a2 b2 (af (kx+1)) t4x t4x2 sum sum2)) (ex0 t4x t4x2 sum sum2)
def A0(a b:Int)(t4x t4x2 sum sum2:Int):Option (aH):=some (sum,sum2,())
def T(lo0:Gi (aH))(a b:Int):Option (aH):=lo0 a b 0 0 0 0 0
def K0{R:Type}(k0:Nat)(K:au R):au R:=bg 0 (bG (fun env ob=>zrc k0 [1,1,1] env ob (K)) (K))
def L0:Gi R:=fun a2 b2 kx t4x t4x2 sum sum2=>iter 0 [0,1,4,5,6] [4,5] (zrc k0 [1,1,0,1,0,0]) k [(0,.int .u64 a2),(1,.int .u64 b2),(4,.ptr 0 0 0 0),(5,.ptr 1 0 0 0),(6,.int .i64 kx)] [.box [.int .u64 t4x,.int .u64 t4x2],.box [.int .u64 sum,.int .u64 sum2]] K
def H0:rD R:=fun t4x t4x2 sum sum2=>K (.exit 0) [(4,.ptr 0 0 0 0),(5,.ptr 1 0 0 0)] [.box [.int .u64 t4x,.int .u64 t4x2],.box [.int .u64 sum,.int .u64 sum2]]
theorem zs0:L0 k0 (k+1) K=R0 (L0 k0 k K) (H0 K):=by kernel_rfl
def G0{R:Type}(k0:Nat)(hx0:rD R):Nat→Gi R
 |0=>fun _ _ _ _ _ _ _=>none
 |k+1=>R0 (G0 k0 hx0 k) hx0
theorem aQ:∀ k,L0 k0 k K=G0 k0 (H0 K) k:=bK rfl fun k ih=>by rw[zs0,G0];(try simp only[ih]);try rfl
variable (a b:Int)
def aB:au (aH):=di Tryz.prog [.cell 4 181] J3 Jz (a,b,())
theorem aY:H0 (K0 k0 (aB a b))=A0 a b:=by kernel_rfl
def FF:Option (aH):=T (G0 k0 (A0 a b) k0) a b
theorem aX:dw Tryz.prog (aV [(165,[],wU),(168,[],KT)]) aC k0 152 J3 Jz [] (a,b,())=FF k0 a b:=Eq.trans (b:=T (L0 k0 k0 (K0 k0 (aB a b))) a b) (by kernel_rfl) (by rw[FF];(try simp only[aQ,aY]);try rfl)
def _root_.Go.Rv.uM:=fun x:aH=>FF (300) x.1 x.2.1
abbrev _root_.Go.Rv.RX:aG:=⟨J3,Jz,uM,[]⟩
theorem _root_.Go.Rv.Q8:aF Dr Tryz.prog 152 RX:=dI mix (.c Ku (.c aaC .nil)) (by kernel_rfl) fun x=>⟨aC,_,aX _ _ _⟩
end qF
def SV.T(a0 a1 b0 b1:Int):Option (Int×Unit):=cond (a0 != b0) (cond (decide (a0<b0)) (some ((-1),())) (some (1,()))) (cond (decide (a1<b1)) (some ((-1),())) (cond (decide (a1>b1)) (some (1,())) (some (0,()))))
def uN:=fun x:U8=>SV.T x.1 x.2.1 x.2.2.1 x.2.2.2.1
abbrev RZ:aG:=⟨[.v true ct1,.v true ct1],[(false,[CT.int .i64])],uN,[]⟩
theorem Kt:aF Dr Tryz.prog 164 RZ:=bC mix .nil (by kernel_rfl) fun x=>by kernel_rfl
def Sl.T(a b c d:Int):Option (Int×Unit):=(uM ((IntKind.u64.wrap (a)),(IntKind.u64.wrap (b)),())).bind fun y1=>(uM ((IntKind.u64.wrap (c)),(IntKind.u64.wrap (d)),())).bind fun y2=>(uN (y1.1,y1.2.1,y2.1,y2.2.1,())).bind fun y3=>some (y3.1,())
def wR:=fun x:U8=>Sl.T x.1 x.2.1 x.2.2.1 x.2.2.2.1
abbrev Rl:aG:=⟨[.v false [CT.int .i64],.v false [CT.int .i64],.v false [CT.int .i64],.v false [CT.int .i64]],[(false,[CT.int .i64])],wR,[]⟩
theorem QJ:aF Dr Tryz.prog 150 Rl:=bC mix (.c Q8 (.c Kt .nil)) (by kernel_rfl) fun x=>by kernel_rfl
def RH.T(a0 a1 a2:Int):Option (Bool×Unit):=(lM (a0,())).bind fun y1=>cond y1.1 ((eG (a1,())).bind fun y2=>cond y2.1 ((gG (a2,())).bind fun y3=>some (y3.1,())) (some (false,()))) (some (false,()))
def zK:=fun x:U9=>RH.T x.1 x.2.1 x.2.2.1
abbrev aar:aG:=⟨[.v true ct0],[(false,[CT.bool])],zK,[]⟩
theorem ZQ:aF Dr Tryz.prog 163 aar:=bC mix (.c uI (.c Af (.c C9 .nil))) (by kernel_rfl) fun x=>by kernel_rfl
def Sr.T(a0 a1 a2 b0 b1 b2:Int):Option (Int×Unit):=(zK (a0,a1,a2,())).bind fun y1=>cond (!y1.1) (some (0,())) ((zK (b0,b1,b2,())).bind fun y2=>cond (!y2.1) (some (0,())) ((wR (a1,b2,b1,a2,())).bind fun y3=>cond (y3.1 != 0) (some (y3.1,())) (cond (decide (a0<b0)) (some ((-1),())) (cond (decide (a0>b0)) (some (1,())) (some (0,()))))))
def Dx:=fun x:Int×U6=>Sr.T x.1 x.2.1 x.2.2.1 x.2.2.2.1 x.2.2.2.2.1 x.2.2.2.2.2.1
abbrev Ro:aG:=⟨[.v true ct0,.v true ct0],[(false,[CT.int .i64])],Dx,[]⟩
theorem aak:aF Dr Tryz.prog 149 Ro:=bC mix (.c QJ (.c ZQ .nil)) (by kernel_rfl) fun x=>by kernel_rfl
abbrev JY:Is:=[.v true ct1,.v false [CT.int .i64]]
abbrev Jw:Os:=[(true,ct1)]
namespace rG
def aC:Nat→List Nat×List Nat:=fun k=>if k=3 then([1,2,4],[2,4])else([],[])
def zrc{R:Type}(k0:Nat)(p:List Nat):Env→List Ob→au R→Option R:=bJ Tryz.prog (aV []) 29 0 aC k0 (cO p (dH Tryz.prog 178))
def R0{R:Type}(nx0:tZ R)(ex0:rD R)(n2 a a2 t4x t4x2:Int):Option R:=cond (decide (n2>0)) (if 2=0 then none else if 2=0 then none else if 2=0 then none else nx0 (af (n2 - 1)) (IntKind.u64.wrap (Int.tdiv a 2)) (IntKind.u64.wrap ((IntKind.u64.wrap (Int.tdiv a2 2))+(IntKind.u64.wrap ((Int.tmod a 2)*9223372036854775808)))) t4x t4x2) (ex0 a a2 t4x t4x2)
def A0(a0 a1 n:Int)(a a2 t4x t4x2:Int):Option (aH):=some (a,a2,())
def T(lo0:tZ (aH))(a0 a1 n:Int):Option (aH):=cond (decide (n<0)) (some (0,0,())) (cond (decide (n>127)) (some (0,0,())) (lo0 n a0 a1 0 0))
def K0{R:Type}(k0:Nat)(K:au R):au R:=bg 0 (bG (fun env ob=>zrc k0 [1,1,1] env ob (K)) (K))
def L0:tZ R:=fun n2 a a2 t4x t4x2=>iter 0 [1,2,4] [2,4] (zrc k0 [1,1,0,0,0]) k [(1,.int .i64 n2),(2,.ptr 0 0 0 0),(4,.ptr 1 0 0 0)] [.box [.int .u64 a,.int .u64 a2],.box [.int .u64 t4x,.int .u64 t4x2]] K
def H0:rD R:=fun a a2 t4x t4x2=>K (.exit 0) [(2,.ptr 0 0 0 0),(4,.ptr 1 0 0 0)] [.box [.int .u64 a,.int .u64 a2],.box [.int .u64 t4x,.int .u64 t4x2]]
theorem zs0:L0 k0 (k+1) K=R0 (L0 k0 k K) (H0 K):=by kernel_rfl
def G0{R:Type}(k0:Nat)(hx0:rD R):Nat→tZ R
 |0=>fun _ _ _ _ _=>none
 |k+1=>R0 (G0 k0 hx0 k) hx0
theorem aQ:∀ k,L0 k0 k K=G0 k0 (H0 K) k:=bK rfl fun k ih=>by rw[zs0,G0];(try simp only[ih]);try rfl
variable (a0 a1 n:Int)
def aB:au (aH):=di Tryz.prog [.cell 4 181] JY Jw (a0,a1,n,())
theorem aY:H0 (K0 k0 (aB a0 a1 n))=A0 a0 a1 n:=by kernel_rfl
def FF:Option (aH):=T (G0 k0 (A0 a0 a1 n) k0) a0 a1 n
theorem aX:dw Tryz.prog (aV []) aC k0 178 JY Jw [] (a0,a1,n,())=FF k0 a0 a1 n:=Eq.trans (b:=T (L0 k0 k0 (K0 k0 (aB a0 a1 n))) a0 a1 n) (by kernel_rfl) (by rw[FF];(try simp only[aQ,aY]);try rfl)
def _root_.Go.Rv.DJ:=fun x:U9=>FF (300) x.1 x.2.1 x.2.2.1
abbrev _root_.Go.Rv.aa2:aG:=⟨JY,Jw,DJ,[]⟩
theorem _root_.Go.Rv.aaB:aF Dr Tryz.prog 178 aa2:=dI mix .nil (by kernel_rfl) fun x=>⟨aC,_,aX _ _ _ _⟩
end rG
def Tt.T(a0 a1 ak:Int):Option (Int×Unit):=(DJ (a0,a1,ak,())).bind fun y1=>some ((IntKind.u64.wrap (((BitVec.ofInt 64 y1.2.1) &&& (BitVec.ofInt 64 1)).toNat)),())
def DX:=fun x:U9=>Tt.T x.1 x.2.1 x.2.2.1
abbrev SB:aG:=⟨[.v true ct1,.v false [CT.int .i64]],[(false,[CT.int .u64])],DX,[]⟩
theorem aaT:aF Dr Tryz.prog 166 SB:=bC mix (.c aaB .nil) (by kernel_rfl) fun x=>by kernel_rfl
def SS.T(a0 a1 b0 b1:Int):Option (U7):=cond (decide (a1<b1)) ((uN (a0,a1,b0,b1,())).bind fun y1=>some ((IntKind.u64.wrap ((IntKind.u64.wrap (a0 - b0)) - 1)),(IntKind.u64.wrap (a1 - b1)),(decide (y1.1<0)),0,())) ((uN (a0,a1,b0,b1,())).bind fun y2=>some ((IntKind.u64.wrap (a0 - b0)),(IntKind.u64.wrap (a1 - b1)),(decide (y2.1<0)),0,()))
def DI:=fun x:U8=>SS.T x.1 x.2.1 x.2.2.1 x.2.2.2.1
abbrev RV:aG:=⟨[.v true ct1,.v true ct1],[(true,X9)],DI,[]⟩
theorem aaA:aF Dr Tryz.prog 167 RV:=bC mix (.c Kt .nil) (by kernel_rfl) fun x=>by kernel_rfl
abbrev J4:Is:=[.v true ct1,.v false [CT.int .u64]]
abbrev JA:Os:=[(true,Yf)]
namespace pK
def dF:Tb:=[(164,[],RZ),(165,[],wU),(166,[],SB),(167,[],RV)]
def aC:Nat→List Nat×List Nat:=fun k=>if k=6 then([1,2,4,5,6,7],[4,5,6])else([],[])
def zrc{R:Type}(k0:Nat)(p:List Nat):Env→List Ob→au R→Option R:=bJ Tryz.prog (aV dF) 55 0 aC k0 (cO p (dH Tryz.prog 151))
def R0{R:Type}(nx0:Gg R)(ex0:zq R)(d2 kx a a2 t4x t4x2 t4x3 out out2 out3 rem rem2:Int):Option R:=cond (decide (kx≥0)) ((uO (rem,rem2,rem,rem2,())).bind fun y1=>(DX (a,a2,kx,())).bind fun y2=>(uO (out,out2,out,out2,())).bind fun y3=>(uN (y1.1,(IntKind.u64.wrap (y1.2.1+y2.1)),0,d2,())).bind fun y4=>cond (decide (y4.1≥0)) ((DI (y1.1,(IntKind.u64.wrap (y1.2.1+y2.1)),0,d2,())).bind fun y5=>nx0 d2 (af (kx - 1)) a a2 t4x t4x2 t4x3 y3.1 (IntKind.u64.wrap (y3.2.1+1)) out3 y5.1 y5.2.1) (nx0 d2 (af (kx - 1)) a a2 t4x t4x2 t4x3 y3.1 y3.2.1 out3 y1.1 (IntKind.u64.wrap (y1.2.1+y2.1)))) (ex0 t4x t4x2 t4x3 out out2 out3 rem rem2)
def A0(a0 a1 d:Int)(t4x t4x2 t4x3 out out2 out3 rem rem2:Int):Option (U9):=some (out,out2,rem2,())
def T(lo0:Gg (U9))(a0 a1 d:Int):Option (U9):=cond (d==0) (some (0,0,0,())) (lo0 d 127 a0 a1 0 0 0 0 0 0 0 0)
def K0{R:Type}(k0:Nat)(K:au R):au R:=bg 0 (bG (fun env ob=>zrc k0 [1,1,1,1,1] env ob (K)) (K))
def L0:Gg R:=fun d2 kx a a2 t4x t4x2 t4x3 out out2 out3 rem rem2=>iter 0 [1,2,4,5,6,7] [4,5,6] (zrc k0 [1,1,1,1,0,1,0,0]) k [(1,.int .u64 d2),(2,.ptr 0 0 0 0),(4,.ptr 1 0 0 0),(5,.ptr 2 0 0 0),(6,.ptr 3 0 0 0),(7,.int .i64 kx)] [.box [.int .u64 a,.int .u64 a2],.box [.int .u64 t4x,.int .u64 t4x2,.int .u64 t4x3],.box [.int .u64 out,.int .u64 out2,.int .u64 out3],.box [.int .u64 rem,.int .u64 rem2]] K
def H0:zq R:=fun t4x t4x2 t4x3 out out2 out3 rem rem2=>K (.exit 0) [(4,.ptr 0 0 0 0),(5,.ptr 1 0 0 0),(6,.ptr 2 0 0 0)] [.box [.int .u64 t4x,.int .u64 t4x2,.int .u64 t4x3],.box [.int .u64 out,.int .u64 out2,.int .u64 out3],.box [.int .u64 rem,.int .u64 rem2]]
theorem zs0:L0 k0 (k+1) K=R0 (L0 k0 k K) (H0 K):=by kernel_rfl
def G0{R:Type}(k0:Nat)(hx0:zq R):Nat→Gg R
 |0=>fun _ _ _ _ _ _ _ _ _ _ _ _=>none
 |k+1=>R0 (G0 k0 hx0 k) hx0
theorem aQ:∀ k,L0 k0 k K=G0 k0 (H0 K) k:=bK rfl fun k ih=>by rw[zs0,G0];(try simp only[ih]);try rfl
variable (a0 a1 d:Int)
def aB:au (U9):=di Tryz.prog [.cell 4 183] J4 JA (a0,a1,d,())
theorem aY:H0 (K0 k0 (aB a0 a1 d))=A0 a0 a1 d:=by kernel_rfl
def FF:Option (U9):=T (G0 k0 (A0 a0 a1 d) k0) a0 a1 d
theorem aX:dw Tryz.prog (aV dF) aC k0 151 J4 JA [] (a0,a1,d,())=FF k0 a0 a1 d:=Eq.trans (b:=T (L0 k0 k0 (K0 k0 (aB a0 a1 d))) a0 a1 d) (by kernel_rfl) (by rw[FF];(try simp only[aQ,aY]);try rfl)
def _root_.Go.Rv.Ae:=fun x:U9=>FF (300) x.1 x.2.1 x.2.2.1
abbrev _root_.Go.Rv.RY:aG:=⟨J4,JA,Ae,[]⟩
theorem _root_.Go.Rv.aaD:aF Dr Tryz.prog 151 RY:=dI mix (.c Kt (.c Ku (.c aaT (.c aaA .nil)))) (by kernel_rfl) fun x=>⟨aC,_,aX _ _ _ _⟩
end pK
abbrev JX:Is:=[.v false [CT.int .i64],.v false [CT.sl ct0]]
abbrev Jv:Os:=[(false,[CT.sl [CT.int .i64]])]
namespace dm
def dF:Tb:=[(149,[],Ro),(150,[],Rl),(151,[],RY),(152,[],RX)]
def aC:Nat→List Nat×List Nat:=fun k=>if k=6 then([1,5,6,7,8,9],[1,5,6,7,8])else if k=9 then([1,5,6,7,8],[1,4,5,6,7,8])else if k=11 then([1,5,6,7,8,10,11],[1,5,6,7,8,10])else if k=24 then([1,5,6,7,8,12,13],[1,5,6,12])else if k=30 then([1,5,6,12,14],[5])else([],[])
def zrc{R:Type}(k0:Nat)(p:List Nat):Env→List Ob→au R→Option R:=bJ Tryz.prog (aV dF) 167 0 aC k0 (cO p (dH Tryz.prog 133))
def R0{R:Type}(nx0:vX R)(ex0:lZ R)(list2:List U9)(rest all i:Int)(out:List (Int×Unit))(done:List (Bool×Unit)):Option R:=cond (decide (i<(list2.length:Int))) (if 0≤i∧i<(list2.length:Int)then nx0 list2 rest (af (all+(rd (0,0,0,()) list2 i).2.2.1)) (af (i+1)) out done else none) (ex0 list2 rest all out done)
def R1{R:Type}(lo2:tY R)(list2:List U9)(rest all:Int)(out:List (Int×Unit))(done:List (Bool×Unit)):Option R:=lo2 list2 rest all (-1) 0 out done
def R2{R:Type}(nx2:tY R)(ex1:vX R)(list2:List U9)(rest all next i:Int)(out:List (Int×Unit))(done:List (Bool×Unit)):Option R:=cond (decide (i<(list2.length:Int))) (if 0≤i∧i<(done.length:Int)then cond (!(done.getD i.toNat (false,())).1) (cond (decide (next<0)) (nx2 list2 rest all i (af (i+1)) out done) (if 0≤i∧i<(list2.length:Int)then if 0≤next∧next<(list2.length:Int)then(Dx ((rd (0,0,0,()) list2 i).1,(rd (0,0,0,()) list2 i).2.1,(rd (0,0,0,()) list2 i).2.2.1,(rd (0,0,0,()) list2 next).1,(rd (0,0,0,()) list2 next).2.1,(rd (0,0,0,()) list2 next).2.2.1,())).bind fun y1=>cond (decide (y1.1<0)) (nx2 list2 rest all i (af (i+1)) out done) (nx2 list2 rest all next (af (i+1)) out done)else none else none)) (nx2 list2 rest all next (af (i+1)) out done)else none) (ex1 list2 rest all next out done)
def R3{R:Type}(nx3:tY R)(rC:Py R)(list2:List U9)(rest all left i:Int)(out:List (Int×Unit))(done:List (Bool×Unit)):Option R:=cond (decide (i<(list2.length:Int))) (if 0≤i∧i<(done.length:Int)then cond (!(done.getD i.toNat (false,())).1) (if 0≤i∧i<(list2.length:Int)then(uM ((IntKind.u64.wrap (rest)),(IntKind.u64.wrap ((rd (0,0,0,()) list2 i).2.2.1)),())).bind fun y1=>(Ae (y1.1,y1.2.1,(IntKind.u64.wrap (all)),())).bind fun y2=>if 0≤i∧i<(out.length:Int)then if 0≤i∧i<((out.set i.toNat ((af (y2.2.1)),())).length:Int)then nx3 list2 rest all (af (left - ((out.set i.toNat ((af (y2.2.1)),())).getD i.toNat (0,())).1)) (af (i+1)) (out.set i.toNat ((af (y2.2.1)),())) done else none else none else none) (nx3 list2 rest all left (af (i+1)) out done)else none) (rC list2 left out done)
def R4{R:Type}(nx4:lZ R)(ex5:zh R)(list2:List U9)(left i:Int)(out:List (Int×Unit))(done:List (Bool×Unit)):Option R:=cond (decide (i<(list2.length:Int))) (cond (decide (left>0)) (if 0≤i∧i<(done.length:Int)then cond (!(done.getD i.toNat (false,())).1) (if 0≤i∧i<(out.length:Int)then if 0≤i∧i<(out.length:Int)then nx4 list2 (af (left - 1)) (af (i+1)) (out.set i.toNat ((af ((out.getD i.toNat (0,())).1+1)),())) done else none else none) (nx4 list2 left (af (i+1)) out done)else none) (ex5 out)) (ex5 out)
def A0(lo1:lZ ((List (Int×Unit))×Unit))(amount:Int)(list:List U9)(list2:List U9)(rest all:Int)(out:List (Int×Unit))(done:List (Bool×Unit)):Option ((List (Int×Unit))×Unit):=lo1 list2 rest all out done
def A1{R:Type}(nx1 ex2 ex3:lZ R)(list2:List U9)(rest all next:Int)(out:List (Int×Unit))(done:List (Bool×Unit)):Option R:=cond (decide (next<0)) (ex2 list2 rest all out done) (if 0≤next∧next<(list2.length:Int)then if 0≤next∧next<(list2.length:Int)then(wR ((rd (0,0,0,()) list2 next).2.1,all,rest,(rd (0,0,0,()) list2 next).2.2.1,())).bind fun y1=>cond (decide (y1.1>0)) (ex3 list2 rest all out done) (if 0≤next∧next<(done.length:Int)then if 0≤next∧next<(list2.length:Int)then if 0≤next∧next<(out.length:Int)then if 0≤next∧next<(list2.length:Int)then if 0≤next∧next<(list2.length:Int)then nx1 list2 (af (rest - (rd (0,0,0,()) list2 next).2.1)) (af (all - (rd (0,0,0,()) list2 next).2.2.1)) (out.set next.toNat ((rd (0,0,0,()) list2 next).2.1,())) (done.set next.toNat (true,()))else none else none else none else none else none)else none else none)
def A2(amount:Int)(list:List U9)(list2:List U9)(rest all:Int)(t4x:List (Int×Unit))(done:List (Bool×Unit)):Option ((List (Int×Unit))×Unit):=some (t4x,())
def A3(lo3:tY ((List (Int×Unit))×Unit))(amount:Int)(list:List U9)(list2:List U9)(rest all:Int)(out:List (Int×Unit))(done:List (Bool×Unit)):Option ((List (Int×Unit))×Unit):=lo3 list2 rest all rest 0 out done
def A4(lo4:lZ ((List (Int×Unit))×Unit))(amount:Int)(list:List U9)(list2:List U9)(left:Int)(out:List (Int×Unit))(done:List (Bool×Unit)):Option ((List (Int×Unit))×Unit):=lo4 list2 left 0 out done
def A5(amount:Int)(list:List U9)(out:List (Int×Unit)):Option ((List (Int×Unit))×Unit):=some (out,())
def T(lo0:vX ((List (Int×Unit))×Unit))(amount:Int)(list:List U9):Option ((List (Int×Unit))×Unit):=if 0≤(list.length:Int)∧(8:Int)*(list.length:Int)≤281474976710656∧(list.length:Int)≤9223372036854775807 then if 0≤(list.length:Int)∧(1:Int)*(list.length:Int)≤281474976710656∧(list.length:Int)≤9223372036854775807 then lo0 list amount 0 0 (List.replicate (((list.length:Int):Int)).toNat (0,())) (List.replicate (((list.length:Int):Int)).toNat (false,()))else none else none
def K0{R:Type}(k0:Nat)(K:au R):au R:=bg 0 (bG (fun env ob=>zrc k0 [1,1,1,1,1,1] env ob (K)) (K))
def K1{R:Type}(k0:Nat)(K:au R):au R:=bg 2 (bG (fun env ob=>zrc k0 [1,1,1,1,1,1,1] env ob (K)) (K))
def K2{R:Type}(k0:Nat)(K:au R):au R:=bg 4 (bG (fun env ob=>zrc k0 [1,1,1,1,1,1,0,0,0,0,1,1] env ob (bg 3 (K))) (bg 3 (K)))
def K3{R:Type}(k0:Nat)(K:au R):au R:=bg 6 (bG (fun env ob=>zrc k0 [1,1,1,1,1,1,1,1,1] env ob (K)) (K))
def K4{R:Type}(k0:Nat)(K:au R):au R:=bg 8 (bG (fun env ob=>zrc k0 [1,1,1,1,1,1,1,1,1,1] env ob (K)) (K))
def P1:au R:=sV 0 [1,5,6,7,8] [1,4,5,6,7,8] (fun env ob=>iter 0 [1,5,6,7,8] [1,4,5,6,7,8] (zrc k0 [1,1,1,1,1,1,0,0,0]) k env ob K) K
def L0:vX R:=fun list2 rest all i out done=>iter 0 [1,5,6,7,8,9] [1,5,6,7,8] (zrc k0 [1,1,1,1,1,0,1,0,0]) k [(1,.sl ct0 list2),(5,.own 0),(6,.own 1),(7,.int .i64 rest),(8,.int .i64 all),(9,.int .i64 i)] [.arr [CT.int .i64] out,.arr [CT.bool] done] K
def L1:lZ R:=fun list2 rest all out done=>iter 0 [1,5,6,7,8] [1,4,5,6,7,8] (zrc k0 [1,1,1,1,1,1,0,0,0]) k [(1,.sl ct0 list2),(5,.own 0),(6,.own 1),(7,.int .i64 rest),(8,.int .i64 all)] [.arr [CT.int .i64] out,.arr [CT.bool] done] K
def L2:tY R:=fun list2 rest all next i out done=>iter 0 [1,5,6,7,8,10,11] [1,5,6,7,8,10] (zrc k0 [1,1,1,1,1,1,0,0,0,0,1,0,1,0,0]) k [(1,.sl ct0 list2),(5,.own 0),(6,.own 1),(7,.int .i64 rest),(8,.int .i64 all),(10,.int .i64 next),(11,.int .i64 i)] [.arr [CT.int .i64] out,.arr [CT.bool] done] K
def L3:tY R:=fun list2 rest all left i out done=>iter 0 [1,5,6,7,8,12,13] [1,5,6,12] (zrc k0 [1,1,1,1,1,1,1,1,0,1,0,0]) k [(1,.sl ct0 list2),(5,.own 0),(6,.own 1),(7,.int .i64 rest),(8,.int .i64 all),(12,.int .i64 left),(13,.int .i64 i)] [.arr [CT.int .i64] out,.arr [CT.bool] done] K
def L4:lZ R:=fun list2 left i out done=>iter 0 [1,5,6,12,14] [5] (zrc k0 [1,1,1,1,1,1,1,1,1,0,1,0,0]) k [(1,.sl ct0 list2),(5,.own 0),(6,.own 1),(12,.int .i64 left),(14,.int .i64 i)] [.arr [CT.int .i64] out,.arr [CT.bool] done] K
def H0:lZ R:=fun list2 rest all out done=>K (.exit 0) [(1,.sl ct0 list2),(5,.own 0),(6,.own 1),(7,.int .i64 rest),(8,.int .i64 all)] [.arr [CT.int .i64] out,.arr [CT.bool] done]
def H1:vX R:=fun list2 rest all next out done=>K (.exit 4) [(1,.sl ct0 list2),(5,.own 0),(6,.own 1),(7,.int .i64 rest),(8,.int .i64 all),(10,.int .i64 next)] [.arr [CT.int .i64] out,.arr [CT.bool] done]
def H2:lZ R:=fun list2 rest all t4x done=>K .ret [(1,.sl ct0 list2),(4,.own 0),(5,.own 0),(6,.own 1),(7,.int .i64 rest),(8,.int .i64 all)] [.arr [CT.int .i64] t4x,.arr [CT.bool] done]
def H3:lZ R:=fun list2 rest all out done=>K (.exit 2) [(1,.sl ct0 list2),(4,.undef),(5,.own 0),(6,.own 1),(7,.int .i64 rest),(8,.int .i64 all)] [.arr [CT.int .i64] out,.arr [CT.bool] done]
def H4:Py R:=fun list2 left out done=>K (.exit 6) [(1,.sl ct0 list2),(5,.own 0),(6,.own 1),(12,.int .i64 left)] [.arr [CT.int .i64] out,.arr [CT.bool] done]
def H5:zh R:=fun out=>K (.exit 8) [(5,.own 0)] [.arr [CT.int .i64] out]
theorem zs0:L0 k0 (k+1) K=R0 (L0 k0 k K) (H0 K):=by kernel_rfl
theorem zs1:L1 k0 (k+1) K=R1 (L2 k0 k0 (K2 k0 (P1 k0 k K))):=by kernel_rfl
theorem zs2:L2 k0 (k+1) K=R2 (L2 k0 k K) (H1 K):=by kernel_rfl
theorem O5:L3 k0 (k+1) K=R3 (L3 k0 k K) (H4 K):=by kernel_rfl
theorem O4:L4 k0 (k+1) K=R4 (L4 k0 k K) (H5 K):=by kernel_rfl
theorem dA:H1 (K2 k0 (P1 k0 k K))=A1 (L1 k0 k K) (H2 K) (H3 K):=by kernel_rfl
def G0{R:Type}(k0:Nat)(hx0:lZ R):Nat→vX R
 |0=>fun _ _ _ _ _ _=>none
 |k+1=>R0 (G0 k0 hx0 k) hx0
theorem aQ:∀ k,L0 k0 k K=G0 k0 (H0 K) k:=bK rfl fun k ih=>by rw[zs0,G0];(try simp only[ih]);try rfl
def G2{R:Type}(k0:Nat)(hx1:vX R):Nat→tY R
 |0=>fun _ _ _ _ _ _ _=>none
 |k+1=>R2 (G2 k0 hx1 k) hx1
theorem jS:∀ k,L2 k0 k K=G2 k0 (H1 K) k:=bK rfl fun k ih=>by rw[zs2,G2];(try simp only[ih,aQ]);try rfl
def G1{R:Type}(k0:Nat)(hx2 hx3:lZ R):Nat→lZ R
 |0=>fun _ _ _ _ _=>none
 |k+1=>R1 (G2 k0 (A1 (G1 k0 hx2 hx3 k) hx2 hx3) k0)
theorem dK:∀ k,L1 k0 k K=G1 k0 (H2 K) (H3 K) k:=bK rfl fun k ih=>by rw[zs1,G1];(try simp only[ih,aQ,jS,dA]);try rfl
def G3{R:Type}(k0:Nat)(hx4:Py R):Nat→tY R
 |0=>fun _ _ _ _ _ _ _=>none
 |k+1=>R3 (G3 k0 hx4 k) hx4
theorem yT:∀ k,L3 k0 k K=G3 k0 (H4 K) k:=bK rfl fun k ih=>by rw[O5,G3];(try simp only[ih,aQ,jS,dK]);try rfl
def G4{R:Type}(k0:Nat)(hx5:zh R):Nat→lZ R
 |0=>fun _ _ _ _ _=>none
 |k+1=>R4 (G4 k0 hx5 k) hx5
theorem O6:∀ k,L4 k0 k K=G4 k0 (H5 K) k:=bK rfl fun k ih=>by rw[O4,G4];(try simp only[ih,aQ,jS,dK,yT]);try rfl
variable (amount:Int) (list:List U9)
def aB:au ((List (Int×Unit))×Unit):=di Tryz.prog [.tmp 4] JX Jv (amount,list,())
theorem aY:H0 (K0 k0 (aB amount list))=A0 (L1 k0 k0 (K1 k0 (aB amount list))) amount list:=by kernel_rfl
theorem lI:H2 (K1 k0 (aB amount list))=A2 amount list:=by kernel_rfl
theorem oQ:H3 (K1 k0 (aB amount list))=A3 (L3 k0 k0 (K3 k0 (aB amount list))) amount list:=by kernel_rfl
theorem O7:H4 (K3 k0 (aB amount list))=A4 (L4 k0 k0 (K4 k0 (aB amount list))) amount list:=by kernel_rfl
theorem za5:H5 (K4 k0 (aB amount list))=A5 amount list:=by kernel_rfl
def FF:Option ((List (Int×Unit))×Unit):=T (G0 k0 (A0 (G1 k0 (A2 amount list) (A3 (G3 k0 (A4 (G4 k0 (A5 amount list) k0) amount list) k0) amount list) k0) amount list) k0) amount list
theorem aX:dw Tryz.prog (aV dF) aC k0 133 JX Jv [] (amount,list,())=FF k0 amount list:=Eq.trans (b:=T (L0 k0 k0 (K0 k0 (aB amount list))) amount list) (by kernel_rfl) (by rw[FF];(try simp only[aQ,jS,dK,yT,O6,aY,lI,oQ,O7,za5]);try rfl)
def _root_.Go.Rv.wW:=fun x:Int×(List U9)×Unit=>FF (300+x.2.1.length) x.1 x.2.1
abbrev _root_.Go.Rv.KR:aG:=⟨JX,Jv,wW,[]⟩
theorem _root_.Go.Rv.aaz:aF Dr Tryz.prog 133 KR:=dI mix (.c aak (.c QJ (.c aaD (.c Q8 .nil)))) (by kernel_rfl) fun x=>⟨aC,_,aX _ _ _⟩
end dm
abbrev Ky:Is:=[.v true gQ]
abbrev JM:Os:=[(false,[CT.sl [CT.int .i64]]),(false,[CT.sl [CT.int .i64]])]
namespace gX
def aC:Nat→List Nat×List Nat:=fun k=>if k=4 then([1,4,5,6],[4,5])else if k=14 then([1,4,5,6,9,11,12],[1,4,5,6])else([],[])
def zrc{R:Type}(k0:Nat)(p:List Nat):Env→List Ob→au R→Option R:=bJ Tryz.prog (aV [(132,[],KQ),(133,[],KR)]) 87 0 aC k0 (cO p (dH Tryz.prog 114))
def R0{R:Type}(ex0:Px R)(lo1:Gf R)(g f:Int)(f3 f4:List U8)(groups members:List (Int×Unit)):Option R:=cond (decide (g<(f3.length:Int))) (cond (decide (g≥0)) (if 0≤g∧g<(f3.length:Int)then if 0≤g∧g<(groups.length:Int)then(Ad (f,f3,f4,(rd (0,0,0,0,()) f3 g).1,())).bind fun y1=>(wW ((groups.getD g.toNat (0,())).1,y1.2.1,())).bind fun y2=>lo1 g 0 f f3 f4 groups members y1.1 y2.1 else none else none) ((Ad (f,f3,f4,0,())).bind fun y3=>(wW (f,y3.2.1,())).bind fun y4=>lo1 g 0 f f3 f4 groups members y3.1 y4.1)) (ex0 groups members)
def R1{R:Type}(nx1:Gf R)(ex1:vW R)(g i f:Int)(f3 f4:List U8)(groups members:List (Int×Unit))(kids:List aH)(parts:List (Int×Unit)):Option R:=cond (decide (i<(kids.length:Int))) (if 0≤i∧i<(kids.length:Int)then cond (decide ((kids.getD i.toNat (0,0,())).1≥0)) (if 0≤i∧i<(kids.length:Int)then if 0≤i∧i<(parts.length:Int)then if 0≤(kids.getD i.toNat (0,0,())).1∧(kids.getD i.toNat (0,0,())).1<(groups.length:Int)then nx1 g (af (i+1)) f f3 f4 (groups.set (((kids.getD i.toNat (0,0,())).1).toNat) ((parts.getD i.toNat (0,())).1,())) members kids parts else none else none else none) (if 0≤i∧i<(kids.length:Int)then if 0≤i∧i<(parts.length:Int)then if 0≤(kids.getD i.toNat (0,0,())).2.1∧(kids.getD i.toNat (0,0,())).2.1<(members.length:Int)then nx1 g (af (i+1)) f f3 f4 groups (members.set (((kids.getD i.toNat (0,0,())).2.1).toNat) ((parts.getD i.toNat (0,())).1,())) kids parts else none else none else none)else none) (ex1 g f f3 f4 groups members)
def A0(f0:Int)(f1 f2:List U8)(groups members:List (Int×Unit)):Option ((List (Int×Unit))×(List (Int×Unit))×Unit):=some (groups,members,())
def A1{R:Type}(nx0:vW R)(g f:Int)(f3 f4:List U8)(groups members:List (Int×Unit)):Option R:=nx0 (af (g+1)) f f3 f4 groups members
def T(lo0:vW ((List (Int×Unit))×(List (Int×Unit))×Unit))(f0:Int)(f1 f2:List U8):Option ((List (Int×Unit))×(List (Int×Unit))×Unit):=if 0≤(f1.length:Int)∧(8:Int)*(f1.length:Int)≤281474976710656∧(f1.length:Int)≤9223372036854775807 then if 0≤(f2.length:Int)∧(8:Int)*(f2.length:Int)≤281474976710656∧(f2.length:Int)≤9223372036854775807 then lo0 (-1) f0 f1 f2 (List.replicate (((f1.length:Int):Int)).toNat (0,())) (List.replicate (((f2.length:Int):Int)).toNat (0,()))else none else none
def K0{R:Type}(k0:Nat)(K:au R):au R:=bg 0 (bG (fun env ob=>zrc k0 [1,1,1,1] env ob (K)) (K))
def K1{R:Type}(k0:Nat)(K:au R):au R:=bg 2 (bg 1 (bG (fun env ob=>zrc k0 [1,1,1,0,1,0,0,1,1] env ob (K)) (K)))
def P0:au R:=sV 0 [1,4,5,6] [4,5] (fun env ob=>iter 0 [1,4,5,6] [4,5] (zrc k0 [1,1,1,0,1,0,0]) k env ob K) K
def L0:vW R:=fun g f f3 f4 groups members=>iter 0 [1,4,5,6] [4,5] (zrc k0 [1,1,1,0,1,0,0]) k [(1,.ptr 0 0 0 0),(4,.own 1),(5,.own 2),(6,.int .i64 g)] [.box [.int .i64 f,.sl aA f3,.sl aA f4],.arr [CT.int .i64] groups,.arr [CT.int .i64] members] K
def L1:Gf R:=fun g i f f3 f4 groups members kids parts=>iter 0 [1,4,5,6,9,11,12] [1,4,5,6] (zrc k0 [1,1,1,0,1,0,0,1,0,0,1,1,1,1,1,1,0,0]) k [(1,.ptr 0 0 0 0),(4,.own 1),(5,.own 2),(6,.int .i64 g),(9,.own 3),(11,.own 4),(12,.int .i64 i)] [.box [.int .i64 f,.sl aA f3,.sl aA f4],.arr [CT.int .i64] groups,.arr [CT.int .i64] members,.arr dM kids,.arr [CT.int .i64] parts] K
def H0:Px R:=fun groups members=>K (.exit 0) [(4,.own 0),(5,.own 1)] [.arr [CT.int .i64] groups,.arr [CT.int .i64] members]
def H1:vW R:=fun g f f3 f4 groups members=>K (.exit 2) [(1,.ptr 0 0 0 0),(4,.own 1),(5,.own 2),(6,.int .i64 g)] [.box [.int .i64 f,.sl aA f3,.sl aA f4],.arr [CT.int .i64] groups,.arr [CT.int .i64] members]
theorem zs0:L0 k0 (k+1) K=R0 (H0 K) (L1 k0 k0 (K1 k0 (P0 k0 k K))):=by kernel_rfl
theorem zs1:L1 k0 (k+1) K=R1 (L1 k0 k K) (H1 K):=by kernel_rfl
theorem dA:H1 (K1 k0 (P0 k0 k K))=A1 (L0 k0 k K):=by kernel_rfl
def G1{R:Type}(k0:Nat)(hx1:vW R):Nat→Gf R
 |0=>fun _ _ _ _ _ _ _ _ _=>none
 |k+1=>R1 (G1 k0 hx1 k) hx1
theorem dK:∀ k,L1 k0 k K=G1 k0 (H1 K) k:=bK rfl fun k ih=>by rw[zs1,G1];(try simp only[ih]);try rfl
def G0{R:Type}(k0:Nat)(hx0:Px R):Nat→vW R
 |0=>fun _ _ _ _ _ _=>none
 |k+1=>R0 hx0 (G1 k0 (A1 (G0 k0 hx0 k)) k0)
theorem aQ:∀ k,L0 k0 k K=G0 k0 (H0 K) k:=bK rfl fun k ih=>by rw[zs0,G0];(try simp only[ih,dK,dA]);try rfl
variable (f0:Int) (f1 f2:List U8)
def aB:au ((List (Int×Unit))×(List (Int×Unit))×Unit):=di Tryz.prog [.tmp 2,.tmp 3] Ky JM (f0,f1,f2,())
theorem aY:H0 (K0 k0 (aB f0 f1 f2))=A0 f0 f1 f2:=by kernel_rfl
def FF:Option ((List (Int×Unit))×(List (Int×Unit))×Unit):=T (G0 k0 (A0 f0 f1 f2) k0) f0 f1 f2
theorem aX:dw Tryz.prog (aV [(132,[],KQ),(133,[],KR)]) aC k0 114 Ky JM [] (f0,f1,f2,())=FF k0 f0 f1 f2:=Eq.trans (b:=T (L0 k0 k0 (K0 k0 (aB f0 f1 f2))) f0 f1 f2) (by kernel_rfl) (by rw[FF];(try simp only[dK,aQ,aY]);try rfl)
def _root_.Go.Rv.DW:=fun x:U3=>FF (300+x.2.1.length+x.2.2.1.length) x.1 x.2.1 x.2.2.1
abbrev _root_.Go.Rv.Lc:aG:=⟨Ky,JM,DW,[]⟩
theorem _root_.Go.Rv.aaR:aF Dr Tryz.prog 114 Lc:=dI mix (.c aay (.c aaz .nil)) (by kernel_rfl) fun x=>⟨aC,_,aX _ _ _ _⟩
end gX
abbrev IX:Is:=[.v true gQ]
abbrev Iq:Os:=[(false,[CT.sl dM])]
namespace ni
def aC:Nat→List Nat×List Nat:=fun k=>if k=6 then([1,3,5,6],[3])else([],[])
def zrc{R:Type}(k0:Nat)(p:List Nat):Env→List Ob→au R→Option R:=bJ Tryz.prog (aV [(30,[],Dk),(114,[],Lc)]) 39 0 aC k0 (cO p (dH Tryz.prog 82))
def R0{R:Type}(nx0:F9 R)(ex0:Pv R)(i f:Int)(f3 f4:List U8)(out:List aH)(members:List (Int×Unit)):Option R:=cond (decide (i<(f4.length:Int))) (if 0≤i∧i<(f4.length:Int)then if 0≤i∧i<(members.length:Int)then if out.length+[((rd (0,0,0,0,()) f4 i).1,(members.getD i.toNat (0,())).1,())].length≤maxRow then nx0 (af (i+1)) f f3 f4 (out++[((rd (0,0,0,0,()) f4 i).1,(members.getD i.toNat (0,())).1,())]) members else none else none else none) (ex0 out)
def A0(f0:Int)(f1 f2:List U8)(out:List aH):Option ((List aH)×Unit):=some (out,())
def T(lo0:F9 ((List aH)×Unit))(f0:Int)(f1 f2:List U8):Option ((List aH)×Unit):=(zL (f0,f1,f2,())).bind fun y1=>cond (!y1.1) (some (([]:List aH),())) ((DW (f0,f1,f2,())).bind fun y2=>lo0 0 f0 f1 f2 ([]:List aH) y2.2.1)
def K0{R:Type}(k0:Nat)(K:au R):au R:=bg 0 (bG (fun env ob=>zrc k0 [1,1,1,1,1] env ob (K)) (K))
def L0:F9 R:=fun i f f3 f4 out members=>iter 0 [1,3,5,6] [3] (zrc k0 [1,1,1,1,0,1,0,0]) k [(1,.ptr 0 0 0 0),(3,.own 1),(5,.own 2),(6,.int .i64 i)] [.box [.int .i64 f,.sl aA f3,.sl aA f4],.arr dM out,.arr [CT.int .i64] members] K
def H0:Pv R:=fun out=>K (.exit 0) [(3,.own 0)] [.arr dM out]
theorem zs0:L0 k0 (k+1) K=R0 (L0 k0 k K) (H0 K):=by kernel_rfl
def G0{R:Type}(k0:Nat)(hx0:Pv R):Nat→F9 R
 |0=>fun _ _ _ _ _ _=>none
 |k+1=>R0 (G0 k0 hx0 k) hx0
theorem aQ:∀ k,L0 k0 k K=G0 k0 (H0 K) k:=bK rfl fun k ih=>by rw[zs0,G0];(try simp only[ih]);try rfl
variable (f0:Int) (f1 f2:List U8)
def aB:au ((List aH)×Unit):=di Tryz.prog [.tmp 2] IX Iq (f0,f1,f2,())
theorem aY:H0 (K0 k0 (aB f0 f1 f2))=A0 f0 f1 f2:=by kernel_rfl
def FF:Option ((List aH)×Unit):=T (G0 k0 (A0 f0 f1 f2) k0) f0 f1 f2
theorem aX:dw Tryz.prog (aV [(30,[],Dk),(114,[],Lc)]) aC k0 82 IX Iq [] (f0,f1,f2,())=FF k0 f0 f1 f2:=Eq.trans (b:=T (L0 k0 k0 (K0 k0 (aB f0 f1 f2))) f0 f1 f2) (by kernel_rfl) (by rw[FF];(try simp only[aQ,aY]);try rfl)
def _root_.Go.Rv.wJ:=fun x:U3=>FF (300+x.2.1.length+x.2.2.1.length) x.1 x.2.1 x.2.2.1
abbrev _root_.Go.Rv.QE:aG:=⟨IX,Iq,wJ,[]⟩
theorem _root_.Go.Rv.Zx:aF Dr Tryz.prog 82 QE:=dI mix (.c JB (.c aaR .nil)) (by kernel_rfl) fun x=>⟨aC,_,aX _ _ _ _⟩
end ni
def LC.T(a b:Int):Option (Int×Unit):=cond (decide (a>b)) (some (a,())) (some (b,()))
def rF:=fun x:aH=>LC.T x.1 x.2.1
abbrev abl:aG:=⟨[.v false [CT.int .i64],.v false [CT.int .i64]],[(false,[CT.int .i64])],rF,[]⟩
theorem RJ:aF Dr Tryz.prog 55 abl:=bC mix .nil (by kernel_rfl) fun x=>by kernel_rfl
end Go.Rv
end
