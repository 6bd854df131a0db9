/- What functions come to on pure values (printed by a program of ours). -/
import Derived.Test.YtmgahpicfjpjaaaGreatSM17
set_option linter.unusedVariables false
set_option linter.unusedSimpArgs false
set_option linter.unusedSectionVars false
set_option maxRecDepth 100000
noncomputable section
namespace Go.Rv
open Go.Proofs
variable {Dr:Kn} {R:Type} (k0 k:Nat) (K:au R)
def SB.T(a:List U7)(left:Int):Option (Int×Unit):=cond (decide ((af (left - (a.length:Int)))<0)) (some ((-1),())) (some ((af (left - (a.length:Int))),()))
def Dt:=fun x:(List U7)×Int×Unit=>SB.T x.1 x.2.1
abbrev abB:aG:=⟨[.v false [CT.sl aC],.v false [CT.int .i64]],[(false,[CT.int .i64])],Dt,[]⟩
theorem aaS:aF Dr Tryz.prog 55 abB:=aW mix .nil (by kernel_rfl) fun x=>by kernel_rfl
def RP.T(a:List U7)(left:Int):Option (Int×Unit):=cond (decide ((af (left - (a.length:Int)))<0)) (some ((-1),())) (some ((af (left - (a.length:Int))),()))
def Dh:=fun x:(List U7)×Int×Unit=>RP.T x.1 x.2.1
abbrev aa4:aG:=⟨[.v false [CT.sl aC],.v false [CT.int .i64]],[(false,[CT.int .i64])],Dh,[]⟩
theorem aah:aF Dr Tryz.prog 56 aa4:=aW mix .nil (by kernel_rfl) fun x=>by kernel_rfl
def TS.T(a0:Int)(a1 a2:List U7)(left:Int):Option (Int×Unit):=(Dt (a1,left,())).bind fun y1=>cond (decide (y1.1<0)) (some ((-1),())) ((Dh (a2,y1.1,())).bind fun y2=>cond (decide (y2.1<0)) (some ((-1),())) (some (y2.1,())))
def D6:=fun x:Int×(List U7)×(List U7)×Int×Unit=>TS.T x.1 x.2.1 x.2.2.1 x.2.2.2.1
abbrev ack:aG:=⟨[.v true eG,.v false [CT.int .i64]],[(false,[CT.int .i64])],D6,[]⟩
theorem abR:aF Dr Tryz.prog 28 ack:=aW mix (.c aaS (.c aah .nil)) (by kernel_rfl) fun x=>by kernel_rfl
def SA.T(a:List U8)(left:Int):Option (Int×Unit):=cond (decide ((af (left - (a.length:Int)))<0)) (some ((-1),())) (some ((af (left - (a.length:Int))),()))
def Dq:=fun x:(List U8)×Int×Unit=>SA.T x.1 x.2.1
abbrev abA:aG:=⟨[.v false [CT.sl ct0],.v false [CT.int .i64]],[(false,[CT.int .i64])],Dq,[]⟩
theorem aaR:aF Dr Tryz.prog 29 abA:=aW mix .nil (by kernel_rfl) fun x=>by kernel_rfl
def Sz.T(a0 a1 a2 a3:Int)(a4 a5:List U7)(a6:List U8)(left:Int):Option (Int×Unit):=(D6 (a3,a4,a5,left,())).bind fun y1=>cond (decide (y1.1<0)) (some ((-1),())) ((Dq (a6,y1.1,())).bind fun y2=>cond (decide (y2.1<0)) (some ((-1),())) (some (y2.1,())))
def Dp:=fun x:Int×Int×Int×Int×(List U7)×(List U7)×(List U8)×Int×Unit=>Sz.T x.1 x.2.1 x.2.2.1 x.2.2.2.1 x.2.2.2.2.1 x.2.2.2.2.2.1 x.2.2.2.2.2.2.1 x.2.2.2.2.2.2.2.1
abbrev abz:aG:=⟨[.v true jf,.v false [CT.int .i64]],[(false,[CT.int .i64])],Dp,[]⟩
theorem aaQ:aF Dr Tryz.prog 6 abz:=aW mix (.c abR (.c aaR .nil)) (by kernel_rfl) fun x=>by kernel_rfl
def RD.T(n:Int):Option (Bool×Unit):=cond (decide (n≥1)) (some ((decide (n≤1000)),())) (some (false,()))
def Dc:=fun x:Int×Unit=>RD.T x.1
abbrev QW:aG:=⟨[.v false [CT.int .i64]],[(false,[CT.bool])],Dc,[]⟩
theorem aad:aF Dr Tryz.prog 57 QW:=aW mix .nil (by kernel_rfl) fun x=>by kernel_rfl
def Uh.T(n:Int):Option (Bool×Unit):=cond (decide (n≥1)) (some ((decide (n≤1000000)),())) (some (false,()))
def kZ:=fun x:Int×Unit=>Uh.T x.1
abbrev TB:aG:=⟨[.v false [CT.int .i64]],[(false,[CT.bool])],kZ,[]⟩
theorem zT:aF Dr Tryz.prog 60 TB:=aW mix .nil (by kernel_rfl) fun x=>by kernel_rfl
def S9.T(n:Int):Option (Bool×Unit):=cond (decide (n≥0)) (some ((decide (n≤1125899906842624)),())) (some (false,()))
def dX:=fun x:Int×Unit=>S9.T x.1
abbrev RU:aG:=⟨[.v false [CT.int .i64]],[(false,[CT.bool])],dX,[]⟩
theorem wB:aF Dr Tryz.prog 61 RU:=aW mix .nil (by kernel_rfl) fun x=>by kernel_rfl
def RG.T(n:Int):Option (Bool×Unit):=cond (decide (n≥1)) (some ((decide (n≤1073741824)),())) (some (false,()))
def fQ:=fun x:Int×Unit=>RG.T x.1
abbrev QX:aG:=⟨[.v false [CT.int .i64]],[(false,[CT.bool])],fQ,[]⟩
theorem CS:aF Dr Tryz.prog 62 QX:=aW mix .nil (by kernel_rfl) fun x=>by kernel_rfl
abbrev JG:Is:=[.v true eG,.v false [CT.int .i64]]
abbrev I5:Os:=[(false,[CT.int .i64])]
namespace wL
def aA:Nat→List Nat×List Nat:=fun k=>if k=2 then([1,2,5],[4])else([],[])
def zrc{R:Type}(k0:Nat)(p:List Nat):Env→List Ob→au R→Option R:=bF Tryz.prog (aS []) 22 0 aA k0 (bV p (dm Tryz.prog 64))
def R0{R:Type}(nx0:tY R)(ex0:Y2 R)(ex1:dI R)(id2 i f:Int)(f3 f4:List U7):Option R:=cond (decide (i<(f3.length:Int))) (if 0≤i∧i<(f3.length:Int)then cond ((rd (0,0,0,0,()) f3 i).1==id2) (ex0 i) (nx0 id2 (af (i+1)) f f3 f4)else none) (ex1 ())
def A0(f0:Int)(f1 f2:List U7)(id:Int)(t4x:Int):Option (Int×Unit):=some (t4x,())
def A1(f0:Int)(f1 f2:List U7)(id:Int)(_u:Unit):Option (Int×Unit):=some ((-1),())
def T(lo0:tY (Int×Unit))(f0:Int)(f1 f2:List U7)(id:Int):Option (Int×Unit):=lo0 id 0 f0 f1 f2
def K0{R:Type}(k0:Nat)(K:au R):au R:=bf 0 (bD (fun env ob=>zrc k0 [1,1] env ob (K)) (K))
def L0:tY R:=fun id2 i f f3 f4=>iter 0 [1,2,5] [4] (zrc k0 [1,0,1,0,0]) k [(1,.int .i64 id2),(2,.ptr 0 0 0 0),(5,.int .i64 i)] [.box [.int .i64 f,.sl aC f3,.sl aC f4]] K
def H0:Y2 R:=fun t4x=>K .ret [(4,.int .i64 t4x)] []
def H1:dI R:=fun _=>K (.exit 0) [(4,.undef)] []
theorem zs0:L0 k0 (k+1) K=R0 (L0 k0 k K) (H0 K) (H1 K):=by kernel_rfl
def G0{R:Type}(k0:Nat)(hx0:Y2 R)(hx1:dI R):Nat→tY R
 |0=>fun _ _ _ _ _=>none
 |k+1=>R0 (G0 k0 hx0 hx1 k) hx0 hx1
theorem aO:∀ k,L0 k0 k K=G0 k0 (H0 K) (H1 K) k:=bI rfl fun k ih=>by rw[zs0,G0];(try simp only[ih]);try rfl
variable (f0:Int) (f1 f2:List U7) (id:Int)
def aB:au (Int×Unit):=cu Tryz.prog [.tmp 4] JG I5 (f0,f1,f2,id,())
theorem aU:H0 (K0 k0 (aB f0 f1 f2 id))=A0 f0 f1 f2 id:=by kernel_rfl
theorem bW:H1 (K0 k0 (aB f0 f1 f2 id))=A1 f0 f1 f2 id:=by kernel_rfl
def FF:Option (Int×Unit):=T (G0 k0 (A0 f0 f1 f2 id) (A1 f0 f1 f2 id) k0) f0 f1 f2 id
theorem aT:cO Tryz.prog (aS []) aA k0 64 JG I5 [] (f0,f1,f2,id,())=FF k0 f0 f1 f2 id:=Eq.trans (b:=T (L0 k0 k0 (K0 k0 (aB f0 f1 f2 id))) f0 f1 f2 id) (by kernel_rfl) (by rw[FF];(try simp only[aO,aU,bW]);try rfl)
def _root_.Go.Rv.jF:=fun x:Int×(List U7)×(List U7)×Int×Unit=>FF (300+x.2.1.length+x.2.2.1.length) x.1 x.2.1 x.2.2.1 x.2.2.2.1
abbrev _root_.Go.Rv.wC:aG:=⟨JG,I5,jF,[]⟩
theorem _root_.Go.Rv.wz:aF Dr Tryz.prog 64 wC:=dw mix .nil (by kernel_rfl) fun x=>⟨aA,_,aT _ _ _ _ _⟩
end wL
abbrev Je:Is:=[.v true eG]
abbrev IA:Os:=[(false,[CT.bool])]
namespace iy
def dG:Tb:=[(60,[],TB),(61,[],RU),(62,[],QX),(64,[],wC)]
def aA:Nat→List Nat×List Nat:=fun k=>if k=4 then([1,3],[1,2])else if k=10 then([1,5],[2])else([],[])
def zrc{R:Type}(k0:Nat)(p:List Nat):Env→List Ob→au R→Option R:=bF Tryz.prog (aS dG) 142 0 aA k0 (bV p (dm Tryz.prog 58))
def R0{R:Type}(nx0:tX R)(ex0:yT R)(ex1:yS R)(i f:Int)(f3 f4:List U7):Option R:=cond (decide (i<(f3.length:Int))) (if 0≤i∧i<(f3.length:Int)then(kZ ((rd (0,0,0,0,()) f3 i).1,())).bind fun y1=>cond (!y1.1) (ex0 false f f3 f4) (cond (decide (i>0)) (if 0≤(af (i - 1))∧(af (i - 1))<(f3.length:Int)then cond (decide ((rd (0,0,0,0,()) f3 i).1≤(rd (0,0,0,0,()) f3 (af (i - 1))).1)) (ex0 false f f3 f4) (cond ((rd (0,0,0,0,()) f3 i).2.1 != 0) ((jF (f,f3,f4,(rd (0,0,0,0,()) f3 i).2.1,())).bind fun y2=>cond (decide (y2.1<0)) (ex0 false f f3 f4) (cond (decide ((rd (0,0,0,0,()) f3 i).2.1≥(rd (0,0,0,0,()) f3 i).1)) (ex0 false f f3 f4) ((dX ((rd (0,0,0,0,()) f3 i).2.2.1,())).bind fun y3=>cond (!y3.1) (ex0 false f f3 f4) ((fQ ((rd (0,0,0,0,()) f3 i).2.2.2.1,())).bind fun y4=>cond (!y4.1) (ex0 false f f3 f4) (nx0 (af (i+1)) f f3 f4))))) ((dX ((rd (0,0,0,0,()) f3 i).2.2.1,())).bind fun y5=>cond (!y5.1) (ex0 false f f3 f4) ((fQ ((rd (0,0,0,0,()) f3 i).2.2.2.1,())).bind fun y6=>cond (!y6.1) (ex0 false f f3 f4) (nx0 (af (i+1)) f f3 f4))))else none) (cond ((rd (0,0,0,0,()) f3 i).2.1 != 0) ((jF (f,f3,f4,(rd (0,0,0,0,()) f3 i).2.1,())).bind fun y7=>cond (decide (y7.1<0)) (ex0 false f f3 f4) (cond (decide ((rd (0,0,0,0,()) f3 i).2.1≥(rd (0,0,0,0,()) f3 i).1)) (ex0 false f f3 f4) ((dX ((rd (0,0,0,0,()) f3 i).2.2.1,())).bind fun y8=>cond (!y8.1) (ex0 false f f3 f4) ((fQ ((rd (0,0,0,0,()) f3 i).2.2.2.1,())).bind fun y9=>cond (!y9.1) (ex0 false f f3 f4) (nx0 (af (i+1)) f f3 f4))))) ((dX ((rd (0,0,0,0,()) f3 i).2.2.1,())).bind fun y10=>cond (!y10.1) (ex0 false f f3 f4) ((fQ ((rd (0,0,0,0,()) f3 i).2.2.2.1,())).bind fun y11=>cond (!y11.1) (ex0 false f f3 f4) (nx0 (af (i+1)) f f3 f4)))))else none) (ex1 f f3 f4)
def R1{R:Type}(nx1:tX R)(ex2:gu R)(ex3:dI R)(i f:Int)(f3 f4:List U7):Option R:=cond (decide (i<(f4.length:Int))) (if 0≤i∧i<(f4.length:Int)then(kZ ((rd (0,0,0,0,()) f4 i).1,())).bind fun y1=>cond (!y1.1) (ex2 false) (cond (decide (i>0)) (if 0≤(af (i - 1))∧(af (i - 1))<(f4.length:Int)then cond (decide ((rd (0,0,0,0,()) f4 i).1≤(rd (0,0,0,0,()) f4 (af (i - 1))).1)) (ex2 false) (cond ((rd (0,0,0,0,()) f4 i).2.1 != 0) ((jF (f,f3,f4,(rd (0,0,0,0,()) f4 i).2.1,())).bind fun y2=>cond (decide (y2.1<0)) (ex2 false) ((dX ((rd (0,0,0,0,()) f4 i).2.2.1,())).bind fun y3=>cond (!y3.1) (ex2 false) ((fQ ((rd (0,0,0,0,()) f4 i).2.2.2.1,())).bind fun y4=>cond (!y4.1) (ex2 false) (nx1 (af (i+1)) f f3 f4)))) ((dX ((rd (0,0,0,0,()) f4 i).2.2.1,())).bind fun y5=>cond (!y5.1) (ex2 false) ((fQ ((rd (0,0,0,0,()) f4 i).2.2.2.1,())).bind fun y6=>cond (!y6.1) (ex2 false) (nx1 (af (i+1)) f f3 f4))))else none) (cond ((rd (0,0,0,0,()) f4 i).2.1 != 0) ((jF (f,f3,f4,(rd (0,0,0,0,()) f4 i).2.1,())).bind fun y7=>cond (decide (y7.1<0)) (ex2 false) ((dX ((rd (0,0,0,0,()) f4 i).2.2.1,())).bind fun y8=>cond (!y8.1) (ex2 false) ((fQ ((rd (0,0,0,0,()) f4 i).2.2.2.1,())).bind fun y9=>cond (!y9.1) (ex2 false) (nx1 (af (i+1)) f f3 f4)))) ((dX ((rd (0,0,0,0,()) f4 i).2.2.1,())).bind fun y10=>cond (!y10.1) (ex2 false) ((fQ ((rd (0,0,0,0,()) f4 i).2.2.2.1,())).bind fun y11=>cond (!y11.1) (ex2 false) (nx1 (af (i+1)) f f3 f4)))))else none) (ex3 ())
def A0(f0:Int)(f1 f2:List U7)(t2x:Bool)(f:Int)(f3 f4:List U7):Option (Bool×Unit):=some (t2x,())
def A1(lo1:tX (Bool×Unit))(f0:Int)(f1 f2:List U7)(f:Int)(f3 f4:List U7):Option (Bool×Unit):=lo1 0 f f3 f4
def A2(f0:Int)(f1 f2:List U7)(t2x:Bool):Option (Bool×Unit):=some (t2x,())
def A3(f0:Int)(f1 f2:List U7)(_u:Unit):Option (Bool×Unit):=some (true,())
def T(lo0:tX (Bool×Unit))(f0:Int)(f1 f2:List U7):Option (Bool×Unit):=(dX (f0,())).bind fun y1=>cond (!y1.1) (some (false,())) (cond (decide ((f1.length:Int)>30)) (some (false,())) (cond (decide ((f2.length:Int)>60)) (some (false,())) (lo0 0 f0 f1 f2)))
def K0{R:Type}(k0:Nat)(K:au R):au R:=bf 0 (bD (fun env ob=>zrc k0 [1,1,1] env ob (K)) (K))
def K1{R:Type}(k0:Nat)(K:au R):au R:=bf 2 (bD (fun env ob=>zrc k0 [1,1,1,1] env ob (K)) (K))
def L0:tX R:=fun i f f3 f4=>iter 0 [1,3] [1,2] (zrc k0 [1,1,0,1,0,0]) k [(1,.ptr 0 0 0 0),(3,.int .i64 i)] [.box [.int .i64 f,.sl aC f3,.sl aC f4]] K
def L1:tX R:=fun i f f3 f4=>iter 0 [1,5] [2] (zrc k0 [1,1,1,0,1,0,0]) k [(1,.ptr 0 0 0 0),(5,.int .i64 i)] [.box [.int .i64 f,.sl aC f3,.sl aC f4]] K
def H0:yT R:=fun t2x f f3 f4=>K .ret [(1,.ptr 0 0 0 0),(2,.bool t2x)] [.box [.int .i64 f,.sl aC f3,.sl aC f4]]
def H1:yS R:=fun f f3 f4=>K (.exit 0) [(1,.ptr 0 0 0 0),(2,.undef)] [.box [.int .i64 f,.sl aC f3,.sl aC f4]]
def H2:gu R:=fun t2x=>K .ret [(2,.bool t2x)] []
def H3:dI R:=fun _=>K (.exit 2) [(2,.undef)] []
theorem zs0:L0 k0 (k+1) K=R0 (L0 k0 k K) (H0 K) (H1 K):=by kernel_rfl
theorem zs1:L1 k0 (k+1) K=R1 (L1 k0 k K) (H2 K) (H3 K):=by kernel_rfl
def G0{R:Type}(k0:Nat)(hx0:yT R)(hx1:yS R):Nat→tX R
 |0=>fun _ _ _ _=>none
 |k+1=>R0 (G0 k0 hx0 hx1 k) hx0 hx1
theorem aO:∀ k,L0 k0 k K=G0 k0 (H0 K) (H1 K) k:=bI rfl fun k ih=>by rw[zs0,G0];(try simp only[ih]);try rfl
def G1{R:Type}(k0:Nat)(hx2:gu R)(hx3:dI R):Nat→tX R
 |0=>fun _ _ _ _=>none
 |k+1=>R1 (G1 k0 hx2 hx3 k) hx2 hx3
theorem dV:∀ k,L1 k0 k K=G1 k0 (H2 K) (H3 K) k:=bI rfl fun k ih=>by rw[zs1,G1];(try simp only[ih,aO]);try rfl
variable (f0:Int) (f1 f2:List U7)
def aB:au (Bool×Unit):=cu Tryz.prog [.tmp 2] Je IA (f0,f1,f2,())
theorem aU:H0 (K0 k0 (aB f0 f1 f2))=A0 f0 f1 f2:=by kernel_rfl
theorem bW:H1 (K0 k0 (aB f0 f1 f2))=A1 (L1 k0 k0 (K1 k0 (aB f0 f1 f2))) f0 f1 f2:=by kernel_rfl
theorem l7:H2 (K1 k0 (aB f0 f1 f2))=A2 f0 f1 f2:=by kernel_rfl
theorem qO:H3 (K1 k0 (aB f0 f1 f2))=A3 f0 f1 f2:=by kernel_rfl
def FF:Option (Bool×Unit):=T (G0 k0 (A0 f0 f1 f2) (A1 (G1 k0 (A2 f0 f1 f2) (A3 f0 f1 f2) k0) f0 f1 f2) k0) f0 f1 f2
theorem aT:cO Tryz.prog (aS dG) aA k0 58 Je IA [] (f0,f1,f2,())=FF k0 f0 f1 f2:=Eq.trans (b:=T (L0 k0 k0 (K0 k0 (aB f0 f1 f2))) f0 f1 f2) (by kernel_rfl) (by rw[FF];(try simp only[aO,dV,aU,bW,l7,qO]);try rfl)
def _root_.Go.Rv.zu:=fun x:U3=>FF (300+x.2.1.length+x.2.2.1.length) x.1 x.2.1 x.2.2.1
abbrev _root_.Go.Rv.C9:aG:=⟨Je,IA,zu,[]⟩
theorem _root_.Go.Rv.JD:aF Dr Tryz.prog 58 C9:=dw mix (.c zT (.c wB (.c CS (.c wz .nil)))) (by kernel_rfl) fun x=>⟨aA,_,aT _ _ _ _⟩
end iy
def SX.T(n:Int):Option (Bool×Unit):=cond (decide (n≥0)) (some ((decide (n≤1000000)),())) (some (false,()))
def DC:=fun x:Int×Unit=>SX.T x.1
abbrev abX:aG:=⟨[.v false [CT.int .i64]],[(false,[CT.bool])],DC,[]⟩
theorem aa7:aF Dr Tryz.prog 129 abX:=aW mix .nil (by kernel_rfl) fun x=>by kernel_rfl
def Sj.T(l0 l1 l2:Int):Option (Bool×Unit):=(kZ (l0,())).bind fun y1=>cond y1.1 ((dX (l1,())).bind fun y2=>cond y2.1 ((DC (l2,())).bind fun y3=>some (y3.1,())) (some (false,()))) (some (false,()))
def zG:=fun x:U8=>Sj.T x.1 x.2.1 x.2.2.1
abbrev zF:aG:=⟨[.v true ct0],[(false,[CT.bool])],zG,[]⟩
theorem QM:aF Dr Tryz.prog 101 zF:=aW mix (.c zT (.c wB (.c aa7 .nil))) (by kernel_rfl) fun x=>by kernel_rfl
abbrev Ij:Is:=[.v false [CT.sl ct0]]
abbrev Hl:Os:=[(false,[CT.bool])]
namespace kC
def aA:Nat→List Nat×List Nat:=fun k=>if k=4 then([0,3],[2])else([],[])
def zrc{R:Type}(k0:Nat)(p:List Nat):Env→List Ob→au R→Option R:=bF Tryz.prog (aS [(101,[],zF)]) 37 0 aA k0 (bV p (dm Tryz.prog 59))
def R0{R:Type}(nx0:Gj R)(ex0:gu R)(ex1:dI R)(list2:List U8)(i:Int):Option R:=cond (decide (i<(list2.length:Int))) (if 0≤i∧i<(list2.length:Int)then(zG ((rd (0,0,0,()) list2 i).1,(rd (0,0,0,()) list2 i).2.1,(rd (0,0,0,()) list2 i).2.2.1,())).bind fun y1=>cond (!y1.1) (ex0 false) (cond (decide (i>0)) (if 0≤i∧i<(list2.length:Int)then if 0≤(af (i - 1))∧(af (i - 1))<(list2.length:Int)then cond (decide ((rd (0,0,0,()) list2 i).1≤(rd (0,0,0,()) list2 (af (i - 1))).1)) (ex0 false) (nx0 list2 (af (i+1)))else none else none) (nx0 list2 (af (i+1))))else none) (ex1 ())
def A0(list:List U8)(t2x:Bool):Option (Bool×Unit):=some (t2x,())
def A1(list:List U8)(_u:Unit):Option (Bool×Unit):=some (true,())
def T(lo0:Gj (Bool×Unit))(list:List U8):Option (Bool×Unit):=cond (decide ((list.length:Int)>60)) (some (false,())) (lo0 list 0)
def K0{R:Type}(k0:Nat)(K:au R):au R:=bf 0 (bD (fun env ob=>zrc k0 [1,1,1] env ob (K)) (K))
def L0:Gj R:=fun list2 i=>iter 0 [0,3] [2] (zrc k0 [1,1,0,1,0,0]) k [(0,.sl ct0 list2),(3,.int .i64 i)] [] K
def H0:gu R:=fun t2x=>K .ret [(2,.bool t2x)] []
def H1:dI R:=fun _=>K (.exit 0) [(2,.undef)] []
theorem zs0:L0 k0 (k+1) K=R0 (L0 k0 k K) (H0 K) (H1 K):=by kernel_rfl
def G0{R:Type}(k0:Nat)(hx0:gu R)(hx1:dI R):Nat→Gj R
 |0=>fun _ _=>none
 |k+1=>R0 (G0 k0 hx0 hx1 k) hx0 hx1
theorem aO:∀ k,L0 k0 k K=G0 k0 (H0 K) (H1 K) k:=bI rfl fun k ih=>by rw[zs0,G0];(try simp only[ih]);try rfl
variable (list:List U8)
def aB:au (Bool×Unit):=cu Tryz.prog [.tmp 2] Ij Hl (list,())
theorem aU:H0 (K0 k0 (aB list))=A0 list:=by kernel_rfl
theorem bW:H1 (K0 k0 (aB list))=A1 list:=by kernel_rfl
def FF:Option (Bool×Unit):=T (G0 k0 (A0 list) (A1 list) k0) list
theorem aT:cO Tryz.prog (aS [(101,[],zF)]) aA k0 59 Ij Hl [] (list,())=FF k0 list:=Eq.trans (b:=T (L0 k0 k0 (K0 k0 (aB list))) list) (by kernel_rfl) (by rw[FF];(try simp only[aO,aU,bW]);try rfl)
def _root_.Go.Rv.vX:=fun x:(List U8)×Unit=>FF (300+x.1.length) x.1
abbrev _root_.Go.Rv.vW:aG:=⟨Ij,Hl,vX,[]⟩
theorem _root_.Go.Rv.CB:aF Dr Tryz.prog 59 vW:=dw mix (.c QM .nil) (by kernel_rfl) fun x=>⟨aA,_,aT _ _⟩
end kC
abbrev Ii:Is:=[.v true jf]
abbrev Hg:Os:=[(false,[CT.bool])]
namespace kz
def dG:Tb:=[(57,[],QW),(58,[],C9),(59,[],vW)]
def aA:Nat→List Nat×List Nat:=fun k=>if k=4 then([1,3],[2])else([],[])
def zrc{R:Type}(k0:Nat)(p:List Nat):Env→List Ob→au R→Option R:=bF Tryz.prog (aS dG) 93 0 aA k0 (bV p (dm Tryz.prog 30))
def R0{R:Type}(nx0:Gi R)(ex0:gu R)(ex1:dI R)(i s s7 s8 s9:Int)(s10 s11:List U7)(s12:List U8):Option R:=cond (decide (i<(s12.length:Int))) (if 0≤i∧i<(s12.length:Int)then if 0≤i∧i<(s11.length:Int)then cond ((rd (0,0,0,()) s12 i).1 != (rd (0,0,0,0,()) s11 i).1) (ex0 false) (if 0≤i∧i<(s12.length:Int)then cond (decide ((rd (0,0,0,()) s12 i).2.2.1≤s8)) (ex0 false) (if 0≤i∧i<(s12.length:Int)then cond (decide ((rd (0,0,0,()) s12 i).2.2.1>(af (s8+s)))) (ex0 false) (nx0 (af (i+1)) s s7 s8 s9 s10 s11 s12)else none)else none)else none else none) (ex1 ())
def A0(s0 s1 s2 s3:Int)(s4 s5:List U7)(s6:List U8)(t2x:Bool):Option (Bool×Unit):=some (t2x,())
def A1(s0 s1 s2 s3:Int)(s4 s5:List U7)(s6:List U8)(_u:Unit):Option (Bool×Unit):=some (true,())
def T(lo0:Gi (Bool×Unit))(s0 s1 s2 s3:Int)(s4 s5:List U7)(s6:List U8):Option (Bool×Unit):=(Dc (s0,())).bind fun y1=>cond (!y1.1) (some (false,())) (cond (decide (s1<0)) (some (false,())) (cond (decide (s1>s2)) (some (false,())) (cond (decide (s2>999000)) (some (false,())) ((zu (s3,s4,s5,())).bind fun y2=>cond (!y2.1) (some (false,())) ((vX (s6,())).bind fun y3=>cond (!y3.1) (some (false,())) (cond ((s6.length:Int) != (s5.length:Int)) (some (false,())) (lo0 0 s0 s1 s2 s3 s4 s5 s6)))))))
def K0{R:Type}(k0:Nat)(K:au R):au R:=bf 0 (bD (fun env ob=>zrc k0 [1,1,1] env ob (K)) (K))
def L0:Gi R:=fun i s s7 s8 s9 s10 s11 s12=>iter 0 [1,3] [2] (zrc k0 [1,1,0,1,0,0]) k [(1,.ptr 0 0 0 0),(3,.int .i64 i)] [.box [.int .i64 s,.int .i64 s7,.int .i64 s8,.int .i64 s9,.sl aC s10,.sl aC s11,.sl ct0 s12]] K
def H0:gu R:=fun t2x=>K .ret [(2,.bool t2x)] []
def H1:dI R:=fun _=>K (.exit 0) [(2,.undef)] []
theorem zs0:L0 k0 (k+1) K=R0 (L0 k0 k K) (H0 K) (H1 K):=by kernel_rfl
def G0{R:Type}(k0:Nat)(hx0:gu R)(hx1:dI R):Nat→Gi R
 |0=>fun _ _ _ _ _ _ _ _=>none
 |k+1=>R0 (G0 k0 hx0 hx1 k) hx0 hx1
theorem aO:∀ k,L0 k0 k K=G0 k0 (H0 K) (H1 K) k:=bI rfl fun k ih=>by rw[zs0,G0];(try simp only[ih]);try rfl
variable (s0 s1 s2 s3:Int) (s4 s5:List U7) (s6:List U8)
def aB:au (Bool×Unit):=cu Tryz.prog [.tmp 2] Ii Hg (s0,s1,s2,s3,s4,s5,s6,())
theorem aU:H0 (K0 k0 (aB s0 s1 s2 s3 s4 s5 s6))=A0 s0 s1 s2 s3 s4 s5 s6:=by kernel_rfl
theorem bW:H1 (K0 k0 (aB s0 s1 s2 s3 s4 s5 s6))=A1 s0 s1 s2 s3 s4 s5 s6:=by kernel_rfl
def FF:Option (Bool×Unit):=T (G0 k0 (A0 s0 s1 s2 s3 s4 s5 s6) (A1 s0 s1 s2 s3 s4 s5 s6) k0) s0 s1 s2 s3 s4 s5 s6
theorem aT:cO Tryz.prog (aS dG) aA k0 30 Ii Hg [] (s0,s1,s2,s3,s4,s5,s6,())=FF k0 s0 s1 s2 s3 s4 s5 s6:=Eq.trans (b:=T (L0 k0 k0 (K0 k0 (aB s0 s1 s2 s3 s4 s5 s6))) s0 s1 s2 s3 s4 s5 s6) (by kernel_rfl) (by rw[FF];(try simp only[aO,aU,bW]);try rfl)
def _root_.Go.Rv.Jm:=fun x:U1=>FF (300+x.2.2.2.2.1.length+x.2.2.2.2.2.1.length+x.2.2.2.2.2.2.1.length) x.1 x.2.1 x.2.2.1 x.2.2.2.1 x.2.2.2.2.1 x.2.2.2.2.2.1 x.2.2.2.2.2.2.1
abbrev _root_.Go.Rv.QB:aG:=⟨Ii,Hg,Jm,[]⟩
theorem _root_.Go.Rv.Zt:aF Dr Tryz.prog 30 QB:=dw mix (.c aad (.c JD (.c CB .nil))) (by kernel_rfl) fun x=>⟨aA,_,aT _ _ _ _ _ _ _ _⟩
end kz
def acu.T(o0 o1 o2 o3 o4:Int):Option (U5):=cond (o0==3) (some (8,o1,o2,o3,o4,())) (cond (o0==6) (some (6,o1,o2,o3,o4,())) (cond (o0==7) (some (7,o1,o2,o3,o4,())) (some (0,o1,o2,o3,o4,()))))
def oN:=fun x:U5=>acu.T x.1 x.2.1 x.2.2.1 x.2.2.2.1 x.2.2.2.2.1
abbrev RS:aG:=⟨[.v true iK],[(true,iK)],oN,[]⟩
theorem Q9:aF Dr Tryz.prog 37 RS:=aW mix .nil (by kernel_rfl) fun x=>by kernel_rfl
def zL.T(e0 e1 e2 e3 e4:Int):Option (Bool×Unit):=(kZ (e1,())).bind fun y1=>cond (!y1.1) (cond (e0==8) (cond (!(e1==0)) (some (false,())) (cond (e2 != 0) ((kZ (e2,())).bind fun y2=>cond (!y2.1) (some (false,())) (cond (e0==1) ((dX (e3,())).bind fun y3=>cond y3.1 ((fQ (e4,())).bind fun y4=>some (y4.1,())) (some (false,()))) (cond (e0==6) ((dX (e3,())).bind fun y5=>cond y5.1 ((fQ (e4,())).bind fun y6=>some (y6.1,())) (some (false,()))) (cond (e0==2) (cond (e2==0) (cond (e3==0) (some ((e4==0),())) (some (false,()))) (some (false,()))) (cond (e0==7) (cond (e2==0) (cond (e3==0) (some ((e4==0),())) (some (false,()))) (some (false,()))) (cond (e0==3) (cond (e2==0) ((dX (e3,())).bind fun y7=>cond y7.1 (some ((e4==0),())) (some (false,()))) (some (false,()))) (cond (e0==8) (cond (e2==0) ((dX (e3,())).bind fun y8=>cond y8.1 (some ((e4==0),())) (some (false,()))) (some (false,()))) (cond (e0==4) (cond (e2==0) ((fQ (e3,())).bind fun y9=>cond y9.1 (some ((e4==0),())) (some (false,()))) (some (false,()))) (cond (e0==5) (cond (e3==0) (some ((e4==0),())) (some (false,()))) (some (false,()))))))))))) (cond (e0==1) ((dX (e3,())).bind fun y10=>cond y10.1 ((fQ (e4,())).bind fun y11=>some (y11.1,())) (some (false,()))) (cond (e0==6) ((dX (e3,())).bind fun y12=>cond y12.1 ((fQ (e4,())).bind fun y13=>some (y13.1,())) (some (false,()))) (cond (e0==2) (cond (e2==0) (cond (e3==0) (some ((e4==0),())) (some (false,()))) (some (false,()))) (cond (e0==7) (cond (e2==0) (cond (e3==0) (some ((e4==0),())) (some (false,()))) (some (false,()))) (cond (e0==3) (cond (e2==0) ((dX (e3,())).bind fun y14=>cond y14.1 (some ((e4==0),())) (some (false,()))) (some (false,()))) (cond (e0==8) (cond (e2==0) ((dX (e3,())).bind fun y15=>cond y15.1 (some ((e4==0),())) (some (false,()))) (some (false,()))) (cond (e0==4) (cond (e2==0) ((fQ (e3,())).bind fun y16=>cond y16.1 (some ((e4==0),())) (some (false,()))) (some (false,()))) (cond (e0==5) (cond (e3==0) (some ((e4==0),())) (some (false,()))) (some (false,())))))))))))) (some (false,()))) (cond (e2 != 0) ((kZ (e2,())).bind fun y17=>cond (!y17.1) (some (false,())) (cond (e0==1) ((dX (e3,())).bind fun y18=>cond y18.1 ((fQ (e4,())).bind fun y19=>some (y19.1,())) (some (false,()))) (cond (e0==6) ((dX (e3,())).bind fun y20=>cond y20.1 ((fQ (e4,())).bind fun y21=>some (y21.1,())) (some (false,()))) (cond (e0==2) (cond (e2==0) (cond (e3==0) (some ((e4==0),())) (some (false,()))) (some (false,()))) (cond (e0==7) (cond (e2==0) (cond (e3==0) (some ((e4==0),())) (some (false,()))) (some (false,()))) (cond (e0==3) (cond (e2==0) ((dX (e3,())).bind fun y22=>cond y22.1 (some ((e4==0),())) (some (false,()))) (some (false,()))) (cond (e0==8) (cond (e2==0) ((dX (e3,())).bind fun y23=>cond y23.1 (some ((e4==0),())) (some (false,()))) (some (false,()))) (cond (e0==4) (cond (e2==0) ((fQ (e3,())).bind fun y24=>cond y24.1 (some ((e4==0),())) (some (false,()))) (some (false,()))) (cond (e0==5) (cond (e3==0) (some ((e4==0),())) (some (false,()))) (some (false,()))))))))))) (cond (e0==1) ((dX (e3,())).bind fun y25=>cond y25.1 ((fQ (e4,())).bind fun y26=>some (y26.1,())) (some (false,()))) (cond (e0==6) ((dX (e3,())).bind fun y27=>cond y27.1 ((fQ (e4,())).bind fun y28=>some (y28.1,())) (some (false,()))) (cond (e0==2) (cond (e2==0) (cond (e3==0) (some ((e4==0),())) (some (false,()))) (some (false,()))) (cond (e0==7) (cond (e2==0) (cond (e3==0) (some ((e4==0),())) (some (false,()))) (some (false,()))) (cond (e0==3) (cond (e2==0) ((dX (e3,())).bind fun y29=>cond y29.1 (some ((e4==0),())) (some (false,()))) (some (false,()))) (cond (e0==8) (cond (e2==0) ((dX (e3,())).bind fun y30=>cond y30.1 (some ((e4==0),())) (some (false,()))) (some (false,()))) (cond (e0==4) (cond (e2==0) ((fQ (e3,())).bind fun y31=>cond y31.1 (some ((e4==0),())) (some (false,()))) (some (false,()))) (cond (e0==5) (cond (e3==0) (some ((e4==0),())) (some (false,()))) (some (false,())))))))))))
def jE:=fun x:U5=>zL.T x.1 x.2.1 x.2.2.1 x.2.2.2.1 x.2.2.2.2.1
abbrev aa2:aG:=⟨[.v true iK],[(false,[CT.bool])],jE,[]⟩
theorem QE:aF Dr Tryz.prog 63 aa2:=aW mix (.c zT (.c wB (.c CS .nil))) (by kernel_rfl) fun x=>by kernel_rfl
def Ug.T(o0 o1 o2 o3 o4:Int):Option (Bool×Unit):=cond (o0==1) ((kZ (o1,())).bind fun y1=>cond y1.1 (cond (o2==0) ((dX (o3,())).bind fun y2=>cond y2.1 ((fQ (o4,())).bind fun y3=>some (y3.1,())) (some (false,()))) ((kZ (o2,())).bind fun y4=>cond y4.1 ((dX (o3,())).bind fun y5=>cond y5.1 ((fQ (o4,())).bind fun y6=>some (y6.1,())) (some (false,()))) (some (false,())))) (some (false,()))) (cond (o0==2) ((kZ (o1,())).bind fun y7=>cond y7.1 (cond (o2==0) (cond (o3==0) (some ((o4==0),())) (some (false,()))) (some (false,()))) (some (false,()))) (cond (o0==4) (cond (o1==0) (cond (o2==0) (cond (o3==0) (some ((o4==0),())) (some (false,()))) (some (false,()))) (some (false,()))) (cond (o0==5) (cond (o1==0) (cond (o2==0) (cond (o3==0) (some ((o4==0),())) (some (false,()))) (some (false,()))) (some (false,()))) (cond (o0==6) ((oN (o0,o1,o2,o3,o4,())).bind fun y8=>(jE (y8.1,y8.2.1,y8.2.2.1,y8.2.2.2.1,y8.2.2.2.2.1,())).bind fun y9=>cond y9.1 (some ((decide (o2<o1)),())) (some (false,()))) (cond (o0==3) ((oN (o0,o1,o2,o3,o4,())).bind fun y10=>(jE (y10.1,y10.2.1,y10.2.2.1,y10.2.2.2.1,y10.2.2.2.2.1,())).bind fun y11=>some (y11.1,())) (cond (o0==7) ((oN (o0,o1,o2,o3,o4,())).bind fun y12=>(jE (y12.1,y12.2.1,y12.2.2.1,y12.2.2.2.1,y12.2.2.2.2.1,())).bind fun y13=>some (y13.1,())) (some (false,()))))))))
def Eb:=fun x:U5=>Ug.T x.1 x.2.1 x.2.2.1 x.2.2.2.1 x.2.2.2.2.1
abbrev TA:aG:=⟨[.v true iK],[(false,[CT.bool])],Eb,[]⟩
theorem ace:aF Dr Tryz.prog 31 TA:=aW mix (.c Q9 (.c zT (.c wB (.c CS (.c QE .nil))))) (by kernel_rfl) fun x=>by kernel_rfl
def ab8.T(code:Int):Option (U0):=some (0,0,0,0,[],[],[],0,0,code,())
def lQ:=fun x:Int×Unit=>ab8.T x.1
abbrev KQ:aG:=⟨[.v false [CT.int .i64]],[(true,sU)],lQ,[]⟩
theorem QL:aF Dr Tryz.prog 32 KQ:=aW mix .nil (by kernel_rfl) fun x=>by kernel_rfl
abbrev Jd:Is:=[.v true eG,.v false [CT.int .i64]]
abbrev Iz:Os:=[(false,[CT.int .i64])]
namespace wG
def aA:Nat→List Nat×List Nat:=fun k=>if k=2 then([1,2,5],[4])else([],[])
def zrc{R:Type}(k0:Nat)(p:List Nat):Env→List Ob→au R→Option R:=bF Tryz.prog (aS []) 22 0 aA k0 (bV p (dm Tryz.prog 34))
def R0{R:Type}(nx0:tY R)(ex0:Y2 R)(ex1:dI R)(id2 i f:Int)(f3 f4:List U7):Option R:=cond (decide (i<(f4.length:Int))) (if 0≤i∧i<(f4.length:Int)then cond ((rd (0,0,0,0,()) f4 i).1==id2) (ex0 i) (nx0 id2 (af (i+1)) f f3 f4)else none) (ex1 ())
def A0(f0:Int)(f1 f2:List U7)(id:Int)(t4x:Int):Option (Int×Unit):=some (t4x,())
def A1(f0:Int)(f1 f2:List U7)(id:Int)(_u:Unit):Option (Int×Unit):=some ((-1),())
def T(lo0:tY (Int×Unit))(f0:Int)(f1 f2:List U7)(id:Int):Option (Int×Unit):=lo0 id 0 f0 f1 f2
def K0{R:Type}(k0:Nat)(K:au R):au R:=bf 0 (bD (fun env ob=>zrc k0 [1,1] env ob (K)) (K))
def L0:tY R:=fun id2 i f f3 f4=>iter 0 [1,2,5] [4] (zrc k0 [1,0,1,0,0]) k [(1,.int .i64 id2),(2,.ptr 0 0 0 0),(5,.int .i64 i)] [.box [.int .i64 f,.sl aC f3,.sl aC f4]] K
def H0:Y2 R:=fun t4x=>K .ret [(4,.int .i64 t4x)] []
def H1:dI R:=fun _=>K (.exit 0) [(4,.undef)] []
theorem zs0:L0 k0 (k+1) K=R0 (L0 k0 k K) (H0 K) (H1 K):=by kernel_rfl
def G0{R:Type}(k0:Nat)(hx0:Y2 R)(hx1:dI R):Nat→tY R
 |0=>fun _ _ _ _ _=>none
 |k+1=>R0 (G0 k0 hx0 hx1 k) hx0 hx1
theorem aO:∀ k,L0 k0 k K=G0 k0 (H0 K) (H1 K) k:=bI rfl fun k ih=>by rw[zs0,G0];(try simp only[ih]);try rfl
variable (f0:Int) (f1 f2:List U7) (id:Int)
def aB:au (Int×Unit):=cu Tryz.prog [.tmp 4] Jd Iz (f0,f1,f2,id,())
theorem aU:H0 (K0 k0 (aB f0 f1 f2 id))=A0 f0 f1 f2 id:=by kernel_rfl
theorem bW:H1 (K0 k0 (aB f0 f1 f2 id))=A1 f0 f1 f2 id:=by kernel_rfl
def FF:Option (Int×Unit):=T (G0 k0 (A0 f0 f1 f2 id) (A1 f0 f1 f2 id) k0) f0 f1 f2 id
theorem aT:cO Tryz.prog (aS []) aA k0 34 Jd Iz [] (f0,f1,f2,id,())=FF k0 f0 f1 f2 id:=Eq.trans (b:=T (L0 k0 k0 (K0 k0 (aB f0 f1 f2 id))) f0 f1 f2 id) (by kernel_rfl) (by rw[FF];(try simp only[aO,aU,bW]);try rfl)
def _root_.Go.Rv.qg:=fun x:Int×(List U7)×(List U7)×Int×Unit=>FF (300+x.2.1.length+x.2.2.1.length) x.1 x.2.1 x.2.2.1 x.2.2.2.1
abbrev _root_.Go.Rv.CZ:aG:=⟨Jd,Iz,qg,[]⟩
theorem _root_.Go.Rv.CQ:aF Dr Tryz.prog 34 CZ:=dw mix .nil (by kernel_rfl) fun x=>⟨aA,_,aT _ _ _ _ _⟩
end wG
def ab9.T(code:Int):Option (U2):=some (0,[],[],0,code,())
def jg:=fun x:Int×Unit=>ab9.T x.1
abbrev Dk:aG:=⟨[.v false [CT.int .i64]],[(true,BG)],jg,[]⟩
theorem CY:aF Dr Tryz.prog 70 Dk:=aW mix .nil (by kernel_rfl) fun x=>by kernel_rfl
def SY.T(f0:Int)(f1 f2:List U7):Option (U3):=if([]:List U7).length+f1.length≤maxRow then if([]:List U7).length+f2.length≤maxRow then some (f0,(([]:List U7)++f1),(([]:List U7)++f2),())else none else none
def oO:=fun x:U3=>SY.T x.1 x.2.1 x.2.2.1
abbrev Dz:aG:=⟨[.v true eG],[(true,eG)],oO,[]⟩
theorem zD:aF Dr Tryz.prog 71 Dz:=aW mix .nil (by kernel_rfl) fun x=>by kernel_rfl
abbrev J4:Is:=[.v true eG,.v true iK]
abbrev Ju:Os:=[(true,BG)]
namespace kE
def dG:Tb:=[(34,[],CZ),(64,[],wC),(70,[],Dk),(71,[],Dz)]
def aA:Nat→List Nat×List Nat:=fun k=>if k=11 then([2,3,4,5,6,7],[3,4,5,6])else([],[])
def zrc{R:Type}(k0:Nat)(p:List Nat):Env→List Ob→au R→Option R:=bF Tryz.prog (aS dG) 96 0 aA k0 (bV p (dm Tryz.prog 72))
def R0{R:Type}(nx0:tV R)(ex0:yR R)(done:Bool)(i f:Int)(f3 f4:List U7)(e e5 e6 e7 e8 t4x t4x2 t4x3 out:Int)(o4 o5:List U7):Option R:=cond (decide (i<(f4.length:Int))) (cond (!done) (if 0≤i∧i<(f4.length:Int)then cond (decide ((rd (0,0,0,0,()) f4 i).1>e5)) (if o5.length+[(e5,e6,e7,e8,())].length≤maxRow then if 0≤i∧i<(f4.length:Int)then if(o5++[(e5,e6,e7,e8,())]).length+[((rd (0,0,0,0,()) f4 i).1,(rd (0,0,0,0,()) f4 i).2.1,(rd (0,0,0,0,()) f4 i).2.2.1,(rd (0,0,0,0,()) f4 i).2.2.2.1,())].length≤maxRow then nx0 true (af (i+1)) f f3 f4 e e5 e6 e7 e8 t4x t4x2 t4x3 out o4 ((o5++[(e5,e6,e7,e8,())])++[((rd (0,0,0,0,()) f4 i).1,(rd (0,0,0,0,()) f4 i).2.1,(rd (0,0,0,0,()) f4 i).2.2.1,(rd (0,0,0,0,()) f4 i).2.2.2.1,())])else none else none else none) (if 0≤i∧i<(f4.length:Int)then if o5.length+[((rd (0,0,0,0,()) f4 i).1,(rd (0,0,0,0,()) f4 i).2.1,(rd (0,0,0,0,()) f4 i).2.2.1,(rd (0,0,0,0,()) f4 i).2.2.2.1,())].length≤maxRow then nx0 done (af (i+1)) f f3 f4 e e5 e6 e7 e8 t4x t4x2 t4x3 out o4 (o5++[((rd (0,0,0,0,()) f4 i).1,(rd (0,0,0,0,()) f4 i).2.1,(rd (0,0,0,0,()) f4 i).2.2.1,(rd (0,0,0,0,()) f4 i).2.2.2.1,())])else none else none)else none) (if 0≤i∧i<(f4.length:Int)then if o5.length+[((rd (0,0,0,0,()) f4 i).1,(rd (0,0,0,0,()) f4 i).2.1,(rd (0,0,0,0,()) f4 i).2.2.1,(rd (0,0,0,0,()) f4 i).2.2.2.1,())].length≤maxRow then nx0 done (af (i+1)) f f3 f4 e e5 e6 e7 e8 t4x t4x2 t4x3 out o4 (o5++[((rd (0,0,0,0,()) f4 i).1,(rd (0,0,0,0,()) f4 i).2.1,(rd (0,0,0,0,()) f4 i).2.2.1,(rd (0,0,0,0,()) f4 i).2.2.2.1,())])else none else none)) (ex0 done e e5 e6 e7 e8 t4x t4x2 t4x3 out o4 o5)
def A0(f0:Int)(f1 f2:List U7)(e0 e1 e2 e3 e4:Int)(done:Bool)(e e5 e6 e7 e8 t4x t4x2 t4x3 out:Int)(o3 o4:List U7):Option (U2):=cond (!done) (if o4.length+[(e5,e6,e7,e8,())].length≤maxRow then some (out,o3,(o4++[(e5,e6,e7,e8,())]),0,0,())else none) (some (out,o3,o4,0,0,()))
def T(lo0:tV (U2))(f0:Int)(f1 f2:List U7)(e0 e1 e2 e3 e4:Int):Option (U2):=(qg (f0,f1,f2,e1,())).bind fun y1=>cond (decide (y1.1≥0)) ((jg (5,())).bind fun y2=>some (y2.1,y2.2.1,y2.2.2.1,y2.2.2.2.1,y2.2.2.2.2.1,())) (cond (e2 != 0) ((jF (f0,f1,f2,e2,())).bind fun y3=>cond (decide (y3.1<0)) ((jg (4,())).bind fun y4=>some (y4.1,y4.2.1,y4.2.2.1,y4.2.2.2.1,y4.2.2.2.2.1,())) (cond (decide ((f2.length:Int)≥60)) ((jg (6,())).bind fun y5=>some (y5.1,y5.2.1,y5.2.2.1,y5.2.2.2.1,y5.2.2.2.2.1,())) ((oO (f0,f1,f2,())).bind fun y6=>lo0 false 0 f0 f1 f2 e0 e1 e2 e3 e4 0 0 0 y6.1 y6.2.1 ([]:List U7)))) (cond (decide ((f2.length:Int)≥60)) ((jg (6,())).bind fun y7=>some (y7.1,y7.2.1,y7.2.2.1,y7.2.2.2.1,y7.2.2.2.2.1,())) ((oO (f0,f1,f2,())).bind fun y8=>lo0 false 0 f0 f1 f2 e0 e1 e2 e3 e4 0 0 0 y8.1 y8.2.1 ([]:List U7))))
def K0{R:Type}(k0:Nat)(K:au R):au R:=bf 0 (bD (fun env ob=>zrc k0 [1,1,1,1,1,1,1,1] env ob (K)) (K))
def L0:tV R:=fun done i f f3 f4 e e5 e6 e7 e8 t4x t4x2 t4x3 out o4 o5=>iter 0 [2,3,4,5,6,7] [3,4,5,6] (zrc k0 [1,1,1,1,1,1,1,0,1,0,0]) k [(2,.ptr 0 0 0 0),(3,.ptr 1 0 0 0),(4,.ptr 2 0 0 0),(5,.ptr 3 0 0 0),(6,.bool done),(7,.int .i64 i)] [.box [.int .i64 f,.sl aC f3,.sl aC f4],.box [.int .i64 e,.int .i64 e5,.int .i64 e6,.int .i64 e7,.int .i64 e8],.box [.int .i64 t4x,.nils,.nils,.int .i64 t4x2,.int .i64 t4x3],.box [.int .i64 out,.own 4,.own 5],.arr aC o4,.arr aC o5] K
def H0:yR R:=fun done e e5 e6 e7 e8 t4x t4x2 t4x3 out o3 o4=>K (.exit 0) [(3,.ptr 0 0 0 0),(4,.ptr 1 0 0 0),(5,.ptr 2 0 0 0),(6,.bool done)] [.box [.int .i64 e,.int .i64 e5,.int .i64 e6,.int .i64 e7,.int .i64 e8],.box [.int .i64 t4x,.nils,.nils,.int .i64 t4x2,.int .i64 t4x3],.box [.int .i64 out,.own 3,.own 4],.arr aC o3,.arr aC o4]
theorem zs0:L0 k0 (k+1) K=R0 (L0 k0 k K) (H0 K):=by kernel_rfl
def G0{R:Type}(k0:Nat)(hx0:yR R):Nat→tV R
 |0=>fun _ _ _ _ _ _ _ _ _ _ _ _ _ _ _ _=>none
 |k+1=>R0 (G0 k0 hx0 k) hx0
theorem aO:∀ k,L0 k0 k K=G0 k0 (H0 K) k:=bI rfl fun k ih=>by rw[zs0,G0];(try simp only[ih]);try rfl
variable (f0:Int) (f1 f2:List U7) (e0 e1 e2 e3 e4:Int)
def aB:au (U2):=cu Tryz.prog [.cell 4 73] J4 Ju (f0,f1,f2,e0,e1,e2,e3,e4,())
theorem aU:H0 (K0 k0 (aB f0 f1 f2 e0 e1 e2 e3 e4))=A0 f0 f1 f2 e0 e1 e2 e3 e4:=by kernel_rfl
def FF:Option (U2):=T (G0 k0 (A0 f0 f1 f2 e0 e1 e2 e3 e4) k0) f0 f1 f2 e0 e1 e2 e3 e4
theorem aT:cO Tryz.prog (aS dG) aA k0 72 J4 Ju [] (f0,f1,f2,e0,e1,e2,e3,e4,())=FF k0 f0 f1 f2 e0 e1 e2 e3 e4:=Eq.trans (b:=T (L0 k0 k0 (K0 k0 (aB f0 f1 f2 e0 e1 e2 e3 e4))) f0 f1 f2 e0 e1 e2 e3 e4) (by kernel_rfl) (by rw[FF];(try simp only[aO,aU]);try rfl)
def _root_.Go.Rv.DF:=fun x:Int×(List U7)×(List U7)×U5=>FF (300+x.2.1.length+x.2.2.1.length) x.1 x.2.1 x.2.2.1 x.2.2.2.1 x.2.2.2.2.1 x.2.2.2.2.2.1 x.2.2.2.2.2.2.1 x.2.2.2.2.2.2.2.1
abbrev _root_.Go.Rv.abY:aG:=⟨J4,Ju,DF,[]⟩
theorem _root_.Go.Rv.aa8:aF Dr Tryz.prog 72 abY:=dw mix (.c CQ (.c wz (.c CY (.c zD .nil)))) (by kernel_rfl) fun x=>⟨aA,_,aT _ _ _ _ _ _ _ _ _⟩
end kE
abbrev JE:Is:=[.v true eG,.v true iK]
abbrev IY:Os:=[(true,BG)]
namespace iO
def dG:Tb:=[(64,[],wC),(70,[],Dk),(71,[],Dz)]
def aA:Nat→List Nat×List Nat:=fun k=>if k=13 then([2,3,4,5,6,7],[3,4,5,6])else([],[])
def zrc{R:Type}(k0:Nat)(p:List Nat):Env→List Ob→au R→Option R:=bF Tryz.prog (aS dG) 102 0 aA k0 (bV p (dm Tryz.prog 73))
def R0{R:Type}(nx0:tV R)(ex0:yR R)(done:Bool)(i f:Int)(f3 f4:List U7)(e e5 e6 e7 e8 t4x t4x2 t4x3 out:Int)(o4 o5:List U7):Option R:=cond (decide (i<(f3.length:Int))) (cond (!done) (if 0≤i∧i<(f3.length:Int)then cond (decide ((rd (0,0,0,0,()) f3 i).1>e5)) (if o4.length+[(e5,e6,e7,e8,())].length≤maxRow then if 0≤i∧i<(f3.length:Int)then if(o4++[(e5,e6,e7,e8,())]).length+[((rd (0,0,0,0,()) f3 i).1,(rd (0,0,0,0,()) f3 i).2.1,(rd (0,0,0,0,()) f3 i).2.2.1,(rd (0,0,0,0,()) f3 i).2.2.2.1,())].length≤maxRow then nx0 true (af (i+1)) f f3 f4 e e5 e6 e7 e8 t4x t4x2 t4x3 out ((o4++[(e5,e6,e7,e8,())])++[((rd (0,0,0,0,()) f3 i).1,(rd (0,0,0,0,()) f3 i).2.1,(rd (0,0,0,0,()) f3 i).2.2.1,(rd (0,0,0,0,()) f3 i).2.2.2.1,())]) o5 else none else none else none) (if 0≤i∧i<(f3.length:Int)then if o4.length+[((rd (0,0,0,0,()) f3 i).1,(rd (0,0,0,0,()) f3 i).2.1,(rd (0,0,0,0,()) f3 i).2.2.1,(rd (0,0,0,0,()) f3 i).2.2.2.1,())].length≤maxRow then nx0 done (af (i+1)) f f3 f4 e e5 e6 e7 e8 t4x t4x2 t4x3 out (o4++[((rd (0,0,0,0,()) f3 i).1,(rd (0,0,0,0,()) f3 i).2.1,(rd (0,0,0,0,()) f3 i).2.2.1,(rd (0,0,0,0,()) f3 i).2.2.2.1,())]) o5 else none else none)else none) (if 0≤i∧i<(f3.length:Int)then if o4.length+[((rd (0,0,0,0,()) f3 i).1,(rd (0,0,0,0,()) f3 i).2.1,(rd (0,0,0,0,()) f3 i).2.2.1,(rd (0,0,0,0,()) f3 i).2.2.2.1,())].length≤maxRow then nx0 done (af (i+1)) f f3 f4 e e5 e6 e7 e8 t4x t4x2 t4x3 out (o4++[((rd (0,0,0,0,()) f3 i).1,(rd (0,0,0,0,()) f3 i).2.1,(rd (0,0,0,0,()) f3 i).2.2.1,(rd (0,0,0,0,()) f3 i).2.2.2.1,())]) o5 else none else none)) (ex0 done e e5 e6 e7 e8 t4x t4x2 t4x3 out o4 o5)
def A0(f0:Int)(f1 f2:List U7)(e0 e1 e2 e3 e4:Int)(done:Bool)(e e5 e6 e7 e8 t4x t4x2 t4x3 out:Int)(o3 o4:List U7):Option (U2):=cond (!done) (if o3.length+[(e5,e6,e7,e8,())].length≤maxRow then some (out,(o3++[(e5,e6,e7,e8,())]),o4,0,0,())else none) (some (out,o3,o4,0,0,()))
def T(lo0:tV (U2))(f0:Int)(f1 f2:List U7)(e0 e1 e2 e3 e4:Int):Option (U2):=cond (decide (e2≥e1)) ((jg (1,())).bind fun y1=>some (y1.1,y1.2.1,y1.2.2.1,y1.2.2.2.1,y1.2.2.2.2.1,())) ((jF (f0,f1,f2,e1,())).bind fun y2=>cond (decide (y2.1≥0)) ((jg (5,())).bind fun y3=>some (y3.1,y3.2.1,y3.2.2.1,y3.2.2.2.1,y3.2.2.2.2.1,())) (cond (e2 != 0) ((jF (f0,f1,f2,e2,())).bind fun y4=>cond (decide (y4.1<0)) ((jg (4,())).bind fun y5=>some (y5.1,y5.2.1,y5.2.2.1,y5.2.2.2.1,y5.2.2.2.2.1,())) (cond (decide ((f1.length:Int)≥30)) ((jg (6,())).bind fun y6=>some (y6.1,y6.2.1,y6.2.2.1,y6.2.2.2.1,y6.2.2.2.2.1,())) ((oO (f0,f1,f2,())).bind fun y7=>lo0 false 0 f0 f1 f2 e0 e1 e2 e3 e4 0 0 0 y7.1 ([]:List U7) y7.2.2.1))) (cond (decide ((f1.length:Int)≥30)) ((jg (6,())).bind fun y8=>some (y8.1,y8.2.1,y8.2.2.1,y8.2.2.2.1,y8.2.2.2.2.1,())) ((oO (f0,f1,f2,())).bind fun y9=>lo0 false 0 f0 f1 f2 e0 e1 e2 e3 e4 0 0 0 y9.1 ([]:List U7) y9.2.2.1))))
def K0{R:Type}(k0:Nat)(K:au R):au R:=bf 0 (bD (fun env ob=>zrc k0 [1,1,1,1,1,1,1,1,1] env ob (K)) (K))
def L0:tV R:=fun done i f f3 f4 e e5 e6 e7 e8 t4x t4x2 t4x3 out o4 o5=>iter 0 [2,3,4,5,6,7] [3,4,5,6] (zrc k0 [1,1,1,1,1,1,1,1,0,1,0,0]) k [(2,.ptr 0 0 0 0),(3,.ptr 1 0 0 0),(4,.ptr 2 0 0 0),(5,.ptr 3 0 0 0),(6,.bool done),(7,.int .i64 i)] [.box [.int .i64 f,.sl aC f3,.sl aC f4],.box [.int .i64 e,.int .i64 e5,.int .i64 e6,.int .i64 e7,.int .i64 e8],.box [.int .i64 t4x,.nils,.nils,.int .i64 t4x2,.int .i64 t4x3],.box [.int .i64 out,.own 4,.own 5],.arr aC o4,.arr aC o5] K
def H0:yR R:=fun done e e5 e6 e7 e8 t4x t4x2 t4x3 out o3 o4=>K (.exit 0) [(3,.ptr 0 0 0 0),(4,.ptr 1 0 0 0),(5,.ptr 2 0 0 0),(6,.bool done)] [.box [.int .i64 e,.int .i64 e5,.int .i64 e6,.int .i64 e7,.int .i64 e8],.box [.int .i64 t4x,.nils,.nils,.int .i64 t4x2,.int .i64 t4x3],.box [.int .i64 out,.own 3,.own 4],.arr aC o3,.arr aC o4]
theorem zs0:L0 k0 (k+1) K=R0 (L0 k0 k K) (H0 K):=by kernel_rfl
def G0{R:Type}(k0:Nat)(hx0:yR R):Nat→tV R
 |0=>fun _ _ _ _ _ _ _ _ _ _ _ _ _ _ _ _=>none
 |k+1=>R0 (G0 k0 hx0 k) hx0
theorem aO:∀ k,L0 k0 k K=G0 k0 (H0 K) k:=bI rfl fun k ih=>by rw[zs0,G0];(try simp only[ih]);try rfl
variable (f0:Int) (f1 f2:List U7) (e0 e1 e2 e3 e4:Int)
def aB:au (U2):=cu Tryz.prog [.cell 4 73] JE IY (f0,f1,f2,e0,e1,e2,e3,e4,())
theorem aU:H0 (K0 k0 (aB f0 f1 f2 e0 e1 e2 e3 e4))=A0 f0 f1 f2 e0 e1 e2 e3 e4:=by kernel_rfl
def FF:Option (U2):=T (G0 k0 (A0 f0 f1 f2 e0 e1 e2 e3 e4) k0) f0 f1 f2 e0 e1 e2 e3 e4
theorem aT:cO Tryz.prog (aS dG) aA k0 73 JE IY [] (f0,f1,f2,e0,e1,e2,e3,e4,())=FF k0 f0 f1 f2 e0 e1 e2 e3 e4:=Eq.trans (b:=T (L0 k0 k0 (K0 k0 (aB f0 f1 f2 e0 e1 e2 e3 e4))) f0 f1 f2 e0 e1 e2 e3 e4) (by kernel_rfl) (by rw[FF];(try simp only[aO,aU]);try rfl)
def _root_.Go.Rv.uo:=fun x:Int×(List U7)×(List U7)×U5=>FF (300+x.2.1.length+x.2.2.1.length) x.1 x.2.1 x.2.2.1 x.2.2.2.1 x.2.2.2.2.1 x.2.2.2.2.2.1 x.2.2.2.2.2.2.1 x.2.2.2.2.2.2.2.1
abbrev _root_.Go.Rv.abu:aG:=⟨JE,IY,uo,[]⟩
theorem _root_.Go.Rv.aaH:aF Dr Tryz.prog 73 abu:=dw mix (.c wz (.c CY (.c zD .nil))) (by kernel_rfl) fun x=>⟨aA,_,aT _ _ _ _ _ _ _ _ _⟩
end iO
abbrev J5:Is:=[.v true eG,.v true iK]
abbrev Jv:Os:=[(true,BG)]
namespace iP
def dG:Tb:=[(64,[],wC),(70,[],Dk),(71,[],Dz)]
def aA:Nat→List Nat×List Nat:=fun k=>if k=5 then([2,3,4,5,6],[2,3,4,5])else if k=10 then([2,3,4,5,7],[2,4,5])else([],[])
def zrc{R:Type}(k0:Nat)(p:List Nat):Env→List Ob→au R→Option R:=bF Tryz.prog (aS dG) 67 0 aA k0 (bV p (dm Tryz.prog 74))
def R0{R:Type}(nx0:tN R)(ex0:P9 R)(ex1:P8 R)(atx i f:Int)(f3 f4:List U7)(e e5 e6 e7 e8 t4x t4x2 t4x3:Int):Option R:=cond (decide (i<(f3.length:Int))) (if 0≤i∧i<(f3.length:Int)then cond ((rd (0,0,0,0,()) f3 i).2.1==e5) ((jg (9,())).bind fun y1=>ex0 atx f f3 f4 e e5 e6 e7 e8 y1.1 y1.2.2.2.1 y1.2.2.2.2.1 y1.2.1 y1.2.2.1) (nx0 atx (af (i+1)) f f3 f4 e e5 e6 e7 e8 t4x t4x2 t4x3)else none) (ex1 atx f f3 f4 e e5 e6 e7 e8 t4x t4x2 t4x3)
def R1{R:Type}(nx1:tN R)(ex2:P7 R)(ex3:P6 R)(atx i f:Int)(f3 f4:List U7)(e e5 e6 e7 e8 t4x t4x2 t4x3:Int):Option R:=cond (decide (i<(f4.length:Int))) (if 0≤i∧i<(f4.length:Int)then cond ((rd (0,0,0,0,()) f4 i).2.1==e5) ((jg (9,())).bind fun y1=>ex2 atx f f3 f4 y1.1 y1.2.2.2.1 y1.2.2.2.2.1 y1.2.1 y1.2.2.1) (nx1 atx (af (i+1)) f f3 f4 e e5 e6 e7 e8 t4x t4x2 t4x3)else none) (ex3 atx f f3 f4 t4x t4x2 t4x3)
def A0(f0:Int)(f1 f2:List U7)(e0 e1 e2 e3 e4:Int)(atx f:Int)(f3 f4:List U7)(e e5 e6 e7 e8 t4x t4x2 t4x3:Int)(o3 o4:List U7):Option (U2):=some (t4x,o3,o4,t4x2,t4x3,())
def A1(lo1:tN (U2))(f0:Int)(f1 f2:List U7)(e0 e1 e2 e3 e4:Int)(atx f:Int)(f3 f4:List U7)(e e5 e6 e7 e8 t4x t4x2 t4x3:Int):Option (U2):=lo1 atx 0 f f3 f4 e e5 e6 e7 e8 t4x t4x2 t4x3
def A2(f0:Int)(f1 f2:List U7)(e0 e1 e2 e3 e4:Int)(atx f:Int)(f3 f4:List U7)(t4x t4x2 t4x3:Int)(o2 o3:List U7):Option (U2):=some (t4x,o2,o3,t4x2,t4x3,())
def A3(f0:Int)(f1 f2:List U7)(e0 e1 e2 e3 e4:Int)(atx f:Int)(f3 f4:List U7)(t4x t4x2 t4x3:Int):Option (U2):=(oO (f,f3,f4,())).bind fun y1=>if 0≤atx∧atx≤(f3.length:Int)then if([]:List U7).length+(f3.take (atx.toNat)).length≤maxRow then if 0≤(af (atx+1))∧(af (atx+1))≤(f3.length:Int)then if(([]:List U7)++(f3.take (atx.toNat))).length+(f3.drop ((af (atx+1)).toNat)).length≤maxRow then some (y1.1,((([]:List U7)++(f3.take (atx.toNat)))++(f3.drop ((af (atx+1)).toNat))),y1.2.2.1,0,0,())else none else none else none else none
def T(lo0:tN (U2))(f0:Int)(f1 f2:List U7)(e0 e1 e2 e3 e4:Int):Option (U2):=(jF (f0,f1,f2,e1,())).bind fun y1=>cond (decide (y1.1<0)) ((jg (4,())).bind fun y2=>some (y2.1,y2.2.1,y2.2.2.1,y2.2.2.2.1,y2.2.2.2.2.1,())) (lo0 y1.1 0 f0 f1 f2 e0 e1 e2 e3 e4 0 0 0)
def K0{R:Type}(k0:Nat)(K:au R):au R:=bf 0 (bD (fun env ob=>zrc k0 [1,1,1,1] env ob (K)) (K))
def K1{R:Type}(k0:Nat)(K:au R):au R:=bf 2 (bD (fun env ob=>zrc k0 [1,1,1,1,1] env ob (K)) (K))
def L0:tN R:=fun atx i f f3 f4 e e5 e6 e7 e8 t4x t4x2 t4x3=>iter 0 [2,3,4,5,6] [2,3,4,5] (zrc k0 [1,1,1,0,1,0,0]) k [(2,.ptr 0 0 0 0),(3,.ptr 1 0 0 0),(4,.ptr 2 0 0 0),(5,.int .i64 atx),(6,.int .i64 i)] [.box [.int .i64 f,.sl aC f3,.sl aC f4],.box [.int .i64 e,.int .i64 e5,.int .i64 e6,.int .i64 e7,.int .i64 e8],.box [.int .i64 t4x,.nils,.nils,.int .i64 t4x2,.int .i64 t4x3]] K
def L1:tN R:=fun atx i f f3 f4 e e5 e6 e7 e8 t4x t4x2 t4x3=>iter 0 [2,3,4,5,7] [2,4,5] (zrc k0 [1,1,1,1,0,1,0,0]) k [(2,.ptr 0 0 0 0),(3,.ptr 1 0 0 0),(4,.ptr 2 0 0 0),(5,.int .i64 atx),(7,.int .i64 i)] [.box [.int .i64 f,.sl aC f3,.sl aC f4],.box [.int .i64 e,.int .i64 e5,.int .i64 e6,.int .i64 e7,.int .i64 e8],.box [.int .i64 t4x,.nils,.nils,.int .i64 t4x2,.int .i64 t4x3]] K
def H0:P9 R:=fun atx f f3 f4 e e5 e6 e7 e8 t4x t4x2 t4x3 o3 o4=>K .ret [(2,.ptr 0 0 0 0),(3,.ptr 1 0 0 0),(4,.ptr 2 0 0 0),(5,.int .i64 atx)] [.box [.int .i64 f,.sl aC f3,.sl aC f4],.box [.int .i64 e,.int .i64 e5,.int .i64 e6,.int .i64 e7,.int .i64 e8],.box [.int .i64 t4x,.own 3,.own 4,.int .i64 t4x2,.int .i64 t4x3],.arr aC o3,.arr aC o4]
def H1:P8 R:=fun atx f f3 f4 e e5 e6 e7 e8 t4x t4x2 t4x3=>K (.exit 0) [(2,.ptr 0 0 0 0),(3,.ptr 1 0 0 0),(4,.ptr 2 0 0 0),(5,.int .i64 atx)] [.box [.int .i64 f,.sl aC f3,.sl aC f4],.box [.int .i64 e,.int .i64 e5,.int .i64 e6,.int .i64 e7,.int .i64 e8],.box [.int .i64 t4x,.nils,.nils,.int .i64 t4x2,.int .i64 t4x3]]
def H2:P7 R:=fun atx f f3 f4 t4x t4x2 t4x3 o2 o3=>K .ret [(2,.ptr 0 0 0 0),(4,.ptr 1 0 0 0),(5,.int .i64 atx)] [.box [.int .i64 f,.sl aC f3,.sl aC f4],.box [.int .i64 t4x,.own 2,.own 3,.int .i64 t4x2,.int .i64 t4x3],.arr aC o2,.arr aC o3]
def H3:P6 R:=fun atx f f3 f4 t4x t4x2 t4x3=>K (.exit 2) [(2,.ptr 0 0 0 0),(4,.ptr 1 0 0 0),(5,.int .i64 atx)] [.box [.int .i64 f,.sl aC f3,.sl aC f4],.box [.int .i64 t4x,.nils,.nils,.int .i64 t4x2,.int .i64 t4x3]]
theorem zs0:L0 k0 (k+1) K=R0 (L0 k0 k K) (H0 K) (H1 K):=by kernel_rfl
theorem zs1:L1 k0 (k+1) K=R1 (L1 k0 k K) (H2 K) (H3 K):=by kernel_rfl
def G0{R:Type}(k0:Nat)(hx0:P9 R)(hx1:P8 R):Nat→tN R
 |0=>fun _ _ _ _ _ _ _ _ _ _ _ _ _=>none
 |k+1=>R0 (G0 k0 hx0 hx1 k) hx0 hx1
theorem aO:∀ k,L0 k0 k K=G0 k0 (H0 K) (H1 K) k:=bI rfl fun k ih=>by rw[zs0,G0];(try simp only[ih]);try rfl
def G1{R:Type}(k0:Nat)(hx2:P7 R)(hx3:P6 R):Nat→tN R
 |0=>fun _ _ _ _ _ _ _ _ _ _ _ _ _=>none
 |k+1=>R1 (G1 k0 hx2 hx3 k) hx2 hx3
theorem dV:∀ k,L1 k0 k K=G1 k0 (H2 K) (H3 K) k:=bI rfl fun k ih=>by rw[zs1,G1];(try simp only[ih,aO]);try rfl
variable (f0:Int) (f1 f2:List U7) (e0 e1 e2 e3 e4:Int)
def aB:au (U2):=cu Tryz.prog [.cell 4 73] J5 Jv (f0,f1,f2,e0,e1,e2,e3,e4,())
theorem aU:H0 (K0 k0 (aB f0 f1 f2 e0 e1 e2 e3 e4))=A0 f0 f1 f2 e0 e1 e2 e3 e4:=by kernel_rfl
theorem bW:H1 (K0 k0 (aB f0 f1 f2 e0 e1 e2 e3 e4))=A1 (L1 k0 k0 (K1 k0 (aB f0 f1 f2 e0 e1 e2 e3 e4))) f0 f1 f2 e0 e1 e2 e3 e4:=by kernel_rfl
theorem l7:H2 (K1 k0 (aB f0 f1 f2 e0 e1 e2 e3 e4))=A2 f0 f1 f2 e0 e1 e2 e3 e4:=by kernel_rfl
theorem qO:H3 (K1 k0 (aB f0 f1 f2 e0 e1 e2 e3 e4))=A3 f0 f1 f2 e0 e1 e2 e3 e4:=by kernel_rfl
def FF:Option (U2):=T (G0 k0 (A0 f0 f1 f2 e0 e1 e2 e3 e4) (A1 (G1 k0 (A2 f0 f1 f2 e0 e1 e2 e3 e4) (A3 f0 f1 f2 e0 e1 e2 e3 e4) k0) f0 f1 f2 e0 e1 e2 e3 e4) k0) f0 f1 f2 e0 e1 e2 e3 e4
theorem aT:cO Tryz.prog (aS dG) aA k0 74 J5 Jv [] (f0,f1,f2,e0,e1,e2,e3,e4,())=FF k0 f0 f1 f2 e0 e1 e2 e3 e4:=Eq.trans (b:=T (L0 k0 k0 (K0 k0 (aB f0 f1 f2 e0 e1 e2 e3 e4))) f0 f1 f2 e0 e1 e2 e3 e4) (by kernel_rfl) (by rw[FF];(try simp only[aO,dV,aU,bW,l7,qO]);try rfl)
def _root_.Go.Rv.wI:=fun x:Int×(List U7)×(List U7)×U5=>FF (300+x.2.1.length+x.2.2.1.length) x.1 x.2.1 x.2.2.1 x.2.2.2.1 x.2.2.2.2.1 x.2.2.2.2.2.1 x.2.2.2.2.2.2.1 x.2.2.2.2.2.2.2.1
abbrev _root_.Go.Rv.abZ:aG:=⟨J5,Jv,wI,[]⟩
theorem _root_.Go.Rv.aa9:aF Dr Tryz.prog 74 abZ:=dw mix (.c wz (.c CY (.c zD .nil))) (by kernel_rfl) fun x=>⟨aA,_,aT _ _ _ _ _ _ _ _ _⟩
end iP
def wM.T(f0:Int)(f1 f2:List U7)(e0 e1 e2 e3 e4:Int):Option (U2):=(zu (f0,f1,f2,())).bind fun y1=>cond (!y1.1) ((jg (1,())).bind fun y2=>some (y2.1,y2.2.1,y2.2.2.1,y2.2.2.2.1,y2.2.2.2.2.1,())) ((jE (e0,e1,e2,e3,e4,())).bind fun y3=>cond (!y3.1) ((jg (1,())).bind fun y4=>some (y4.1,y4.2.1,y4.2.2.1,y4.2.2.2.1,y4.2.2.2.2.1,())) ((oO (f0,f1,f2,())).bind fun y5=>cond (e0==1) ((DF (f0,f1,f2,e0,e1,e2,e3,e4,())).bind fun y6=>some (y6.1,y6.2.1,y6.2.2.1,y6.2.2.2.1,y6.2.2.2.2.1,())) (cond (e0==6) ((uo (f0,f1,f2,e0,e1,e2,e3,e4,())).bind fun y7=>some (y7.1,y7.2.1,y7.2.2.1,y7.2.2.2.1,y7.2.2.2.2.1,())) (cond (e0==7) ((wI (f0,f1,f2,e0,e1,e2,e3,e4,())).bind fun y8=>some (y8.1,y8.2.1,y8.2.2.1,y8.2.2.2.1,y8.2.2.2.2.1,())) (cond (e0==8) (cond (e1==0) (some (e3,y5.2.1,y5.2.2.1,0,0,())) ((jF (f0,f1,f2,e1,())).bind fun y9=>cond (decide (y9.1<0)) ((jg (4,())).bind fun y10=>some (y10.1,y10.2.1,y10.2.2.1,y10.2.2.2.1,y10.2.2.2.2.1,())) (if 0≤y9.1∧y9.1<(y5.2.1.length:Int)then some (y5.1,(y5.2.1.set ((y9.1).toNat) ((y5.2.1.getD ((y9.1).toNat) (0,0,0,0,())).1,(y5.2.1.getD ((y9.1).toNat) (0,0,0,0,())).2.1,e3,(y5.2.1.getD ((y9.1).toNat) (0,0,0,0,())).2.2.2.1,())),y5.2.2.1,0,0,())else none))) ((qg (f0,f1,f2,e1,())).bind fun y11=>cond (decide (y11.1<0)) ((jg (4,())).bind fun y12=>some (y12.1,y12.2.1,y12.2.2.1,y12.2.2.2.1,y12.2.2.2.2.1,())) (cond (e2 != 0) ((jF (f0,f1,f2,e2,())).bind fun y13=>cond (decide (y13.1<0)) ((jg (4,())).bind fun y14=>some (y14.1,y14.2.1,y14.2.2.1,y14.2.2.2.1,y14.2.2.2.2.1,())) (cond (e0==2) (if 0≤y11.1∧y11.1≤(f2.length:Int)then if([]:List U7).length+(f2.take (y11.1.toNat)).length≤maxRow then if 0≤(af (y11.1+1))∧(af (y11.1+1))≤(f2.length:Int)then if(([]:List U7)++(f2.take (y11.1.toNat))).length+(f2.drop ((af (y11.1+1)).toNat)).length≤maxRow then some (y5.1,y5.2.1,((([]:List U7)++(f2.take (y11.1.toNat)))++(f2.drop ((af (y11.1+1)).toNat))),0,0,())else none else none else none else none) (cond (e0==3) (if 0≤y11.1∧y11.1<(y5.2.2.1.length:Int)then some (y5.1,y5.2.1,(y5.2.2.1.set ((y11.1).toNat) ((y5.2.2.1.getD ((y11.1).toNat) (0,0,0,0,())).1,(y5.2.2.1.getD ((y11.1).toNat) (0,0,0,0,())).2.1,e3,(y5.2.2.1.getD ((y11.1).toNat) (0,0,0,0,())).2.2.2.1,())),0,0,())else none) (cond (e0==4) (if 0≤y11.1∧y11.1<(y5.2.2.1.length:Int)then some (y5.1,y5.2.1,(y5.2.2.1.set ((y11.1).toNat) ((y5.2.2.1.getD ((y11.1).toNat) (0,0,0,0,())).1,(y5.2.2.1.getD ((y11.1).toNat) (0,0,0,0,())).2.1,(y5.2.2.1.getD ((y11.1).toNat) (0,0,0,0,())).2.2.1,e3,())),0,0,())else none) (if 0≤y11.1∧y11.1<(y5.2.2.1.length:Int)then some (y5.1,y5.2.1,(y5.2.2.1.set ((y11.1).toNat) ((y5.2.2.1.getD ((y11.1).toNat) (0,0,0,0,())).1,e2,(y5.2.2.1.getD ((y11.1).toNat) (0,0,0,0,())).2.2.1,(y5.2.2.1.getD ((y11.1).toNat) (0,0,0,0,())).2.2.2.1,())),0,0,())else none))))) (cond (e0==2) (if 0≤y11.1∧y11.1≤(f2.length:Int)then if([]:List U7).length+(f2.take (y11.1.toNat)).length≤maxRow then if 0≤(af (y11.1+1))∧(af (y11.1+1))≤(f2.length:Int)then if(([]:List U7)++(f2.take (y11.1.toNat))).length+(f2.drop ((af (y11.1+1)).toNat)).length≤maxRow then some (y5.1,y5.2.1,((([]:List U7)++(f2.take (y11.1.toNat)))++(f2.drop ((af (y11.1+1)).toNat))),0,0,())else none else none else none else none) (cond (e0==3) (if 0≤y11.1∧y11.1<(y5.2.2.1.length:Int)then some (y5.1,y5.2.1,(y5.2.2.1.set ((y11.1).toNat) ((y5.2.2.1.getD ((y11.1).toNat) (0,0,0,0,())).1,(y5.2.2.1.getD ((y11.1).toNat) (0,0,0,0,())).2.1,e3,(y5.2.2.1.getD ((y11.1).toNat) (0,0,0,0,())).2.2.2.1,())),0,0,())else none) (cond (e0==4) (if 0≤y11.1∧y11.1<(y5.2.2.1.length:Int)then some (y5.1,y5.2.1,(y5.2.2.1.set ((y11.1).toNat) ((y5.2.2.1.getD ((y11.1).toNat) (0,0,0,0,())).1,(y5.2.2.1.getD ((y11.1).toNat) (0,0,0,0,())).2.1,(y5.2.2.1.getD ((y11.1).toNat) (0,0,0,0,())).2.2.1,e3,())),0,0,())else none) (if 0≤y11.1∧y11.1<(y5.2.2.1.length:Int)then some (y5.1,y5.2.1,(y5.2.2.1.set ((y11.1).toNat) ((y5.2.2.1.getD ((y11.1).toNat) (0,0,0,0,())).1,e2,(y5.2.2.1.getD ((y11.1).toNat) (0,0,0,0,())).2.2.1,(y5.2.2.1.getD ((y11.1).toNat) (0,0,0,0,())).2.2.2.1,())),0,0,())else none)))))))))))
def jS:=fun x:Int×(List U7)×(List U7)×U5=>wM.T x.1 x.2.1 x.2.2.1 x.2.2.2.1 x.2.2.2.2.1 x.2.2.2.2.2.1 x.2.2.2.2.2.2.1 x.2.2.2.2.2.2.2.1
abbrev KT:aG:=⟨[.v true eG,.v true iK],[(true,BG)],jS,[]⟩
theorem QO:aF Dr Tryz.prog 36 KT:=aW mix (.c CQ (.c JD (.c QE (.c wz (.c CY (.c zD (.c aa8 (.c aaH (.c aa9 .nil))))))))) (by kernel_rfl) fun x=>by kernel_rfl
def SV.T(s0 s1 s2 s3:Int)(s4 s5:List U7)(s6:List U8):Option (U1):=(oO (s3,s4,s5,())).bind fun y1=>if([]:List U8).length+s6.length≤maxRow then some (s0,s1,s2,y1.1,y1.2.1,y1.2.2.1,(([]:List U8)++s6),())else none
def qU:=fun x:U1=>SV.T x.1 x.2.1 x.2.2.1 x.2.2.2.1 x.2.2.2.2.1 x.2.2.2.2.2.1 x.2.2.2.2.2.2.1
abbrev zO:aG:=⟨[.v true jf],[(true,jf)],qU,[]⟩
theorem KE:aF Dr Tryz.prog 38 zO:=aW mix (.c zD .nil) (by kernel_rfl) fun x=>by kernel_rfl
def L8.T(a b:Int):Option (Int×Unit):=cond (decide (a<b)) (some (a,())) (some (b,()))
def uF:=fun x:U9=>L8.T x.1 x.2.1
abbrev DW:aG:=⟨[.v false [CT.int .i64],.v false [CT.int .i64]],[(false,[CT.int .i64])],uF,[]⟩
theorem RJ:aF Dr Tryz.prog 66 DW:=aW mix .nil (by kernel_rfl) fun x=>by kernel_rfl
abbrev JF:Is:=[.v true eG]
abbrev IZ:Os:=[(false,[CT.sl [CT.int .i64]])]
namespace gy
def aA:Nat→List Nat×List Nat:=fun k=>if k=3 then([1,3,4],[3])else if k=7 then([1,3,4,5,6],[1,3,4,5])else if k=12 then([1,3,4,5,7],[1,3,4,5])else([],[])
def zrc{R:Type}(k0:Nat)(p:List Nat):Env→List Ob→au R→Option R:=bF Tryz.prog (aS [(66,[],DW)]) 88 0 aA k0 (bV p (dm Tryz.prog 148))
def R0{R:Type}(ex0:yQ R)(lo1:tK R)(i f:Int)(f3 f4:List U7)(out:List (Int×Unit)):Option R:=cond (decide (i≥0)) (lo1 i 0 (af (i+1)) f f3 f4 out) (ex0 out)
def R1{R:Type}(nx1:tK R)(ex1:yP R)(i sum kx f:Int)(f3 f4:List U7)(out:List (Int×Unit)):Option R:=cond (decide (kx<(f3.length:Int))) (if 0≤kx∧kx<(f3.length:Int)then if 0≤i∧i<(f3.length:Int)then cond ((rd (0,0,0,0,()) f3 kx).2.1==(rd (0,0,0,0,()) f3 i).1) (if 0≤kx∧kx<(out.length:Int)then nx1 i (af (sum+(out.getD kx.toNat (0,())).1)) (af (kx+1)) f f3 f4 out else none) (nx1 i sum (af (kx+1)) f f3 f4 out)else none else none) (ex1 i sum f f3 f4 out)
def R2{R:Type}(nx2:tK R)(ex2:yP R)(i sum kx f:Int)(f3 f4:List U7)(out:List (Int×Unit)):Option R:=cond (decide (kx<(f4.length:Int))) (if 0≤kx∧kx<(f4.length:Int)then if 0≤i∧i<(f3.length:Int)then cond ((rd (0,0,0,0,()) f4 kx).2.1==(rd (0,0,0,0,()) f3 i).1) (if 0≤kx∧kx<(f4.length:Int)then nx2 i (af (sum+(rd (0,0,0,0,()) f4 kx).2.2.1)) (af (kx+1)) f f3 f4 out else none) (nx2 i sum (af (kx+1)) f f3 f4 out)else none else none) (ex2 i sum f f3 f4 out)
def A0(f0:Int)(f1 f2:List U7)(out:List (Int×Unit)):Option ((List (Int×Unit))×Unit):=some (out,())
def A1{R:Type}(lo2:tK R)(i sum f:Int)(f3 f4:List U7)(out:List (Int×Unit)):Option R:=lo2 i sum 0 f f3 f4 out
def A2{R:Type}(nx0:Gg R)(i sum f:Int)(f3 f4:List U7)(out:List (Int×Unit)):Option R:=if 0≤i∧i<(f3.length:Int)then(uF (sum,(rd (0,0,0,0,()) f3 i).2.2.1,())).bind fun y1=>if 0≤i∧i<(out.length:Int)then nx0 (af (i - 1)) f f3 f4 (out.set i.toNat (y1.1,()))else none else none
def T(lo0:Gg ((List (Int×Unit))×Unit))(f0:Int)(f1 f2:List U7):Option ((List (Int×Unit))×Unit):=if 0≤(f1.length:Int)∧(8:Int)*(f1.length:Int)≤281474976710656∧(f1.length:Int)≤9223372036854775807 then lo0 (af ((f1.length:Int) - 1)) f0 f1 f2 (List.replicate (((f1.length:Int):Int)).toNat (0,()))else none
def K0{R:Type}(k0:Nat)(K:au R):au R:=bf 0 (bD (fun env ob=>zrc k0 [1,1,1] env ob (K)) (K))
def K1{R:Type}(k0:Nat)(K:au R):au R:=bf 2 (bD (fun env ob=>zrc k0 [1,1,0,1,0,0,1,0,0,1,1] env ob (bf 1 (bD (fun env ob=>zrc k0 [1,1,0,1,0,0,1,1] env ob (K)) (K)))) (bf 1 (bD (fun env ob=>zrc k0 [1,1,0,1,0,0,1,1] env ob (K)) (K))))
def K2{R:Type}(k0:Nat)(K:au R):au R:=bf 4 (bD (fun env ob=>zrc k0 [1,1,0,1,0,0,1,0,0,1,1,1] env ob (bf 1 (bD (fun env ob=>zrc k0 [1,1,0,1,0,0,1,1] env ob (K)) (K)))) (bf 1 (bD (fun env ob=>zrc k0 [1,1,0,1,0,0,1,1] env ob (K)) (K))))
def P0:au R:=vz 0 [1,3,4] [3] (fun env ob=>iter 0 [1,3,4] [3] (zrc k0 [1,1,0,1,0,0]) k env ob K) K
def L0:Gg R:=fun i f f3 f4 out=>iter 0 [1,3,4] [3] (zrc k0 [1,1,0,1,0,0]) k [(1,.ptr 0 0 0 0),(3,.own 1),(4,.int .i64 i)] [.box [.int .i64 f,.sl aC f3,.sl aC f4],.arr [CT.int .i64] out] K
def L1:tK R:=fun i sum kx f f3 f4 out=>iter 0 [1,3,4,5,6] [1,3,4,5] (zrc k0 [1,1,0,1,0,0,1,0,0,1,0,1,0,0]) k [(1,.ptr 0 0 0 0),(3,.own 1),(4,.int .i64 i),(5,.int .i64 sum),(6,.int .i64 kx)] [.box [.int .i64 f,.sl aC f3,.sl aC f4],.arr [CT.int .i64] out] K
def L2:tK R:=fun i sum kx f f3 f4 out=>iter 0 [1,3,4,5,7] [1,3,4,5] (zrc k0 [1,1,0,1,0,0,1,0,0,1,1,0,1,0,0]) k [(1,.ptr 0 0 0 0),(3,.own 1),(4,.int .i64 i),(5,.int .i64 sum),(7,.int .i64 kx)] [.box [.int .i64 f,.sl aC f3,.sl aC f4],.arr [CT.int .i64] out] K
def H0:yQ R:=fun out=>K (.exit 0) [(3,.own 0)] [.arr [CT.int .i64] out]
def H1:yP R:=fun i sum f f3 f4 out=>K (.exit 2) [(1,.ptr 0 0 0 0),(3,.own 1),(4,.int .i64 i),(5,.int .i64 sum)] [.box [.int .i64 f,.sl aC f3,.sl aC f4],.arr [CT.int .i64] out]
def H2:yP R:=fun i sum f f3 f4 out=>K (.exit 4) [(1,.ptr 0 0 0 0),(3,.own 1),(4,.int .i64 i),(5,.int .i64 sum)] [.box [.int .i64 f,.sl aC f3,.sl aC f4],.arr [CT.int .i64] out]
theorem zs0:L0 k0 (k+1) K=R0 (H0 K) (L1 k0 k0 (K1 k0 (P0 k0 k K))):=by kernel_rfl
theorem zs1:L1 k0 (k+1) K=R1 (L1 k0 k K) (H1 K):=by kernel_rfl
theorem zs2:L2 k0 (k+1) K=R2 (L2 k0 k K) (H2 K):=by kernel_rfl
theorem bW:H1 (K1 k0 (P0 k0 k K))=A1 (L2 k0 k0 (K2 k0 (P0 k0 k K))):=by kernel_rfl
theorem l7:H2 (K2 k0 (P0 k0 k K))=A2 (L0 k0 k K):=by kernel_rfl
def G1{R:Type}(k0:Nat)(hx1:yP R):Nat→tK R
 |0=>fun _ _ _ _ _ _ _=>none
 |k+1=>R1 (G1 k0 hx1 k) hx1
theorem dV:∀ k,L1 k0 k K=G1 k0 (H1 K) k:=bI rfl fun k ih=>by rw[zs1,G1];(try simp only[ih]);try rfl
def G2{R:Type}(k0:Nat)(hx2:yP R):Nat→tK R
 |0=>fun _ _ _ _ _ _ _=>none
 |k+1=>R2 (G2 k0 hx2 k) hx2
theorem kT:∀ k,L2 k0 k K=G2 k0 (H2 K) k:=bI rfl fun k ih=>by rw[zs2,G2];(try simp only[ih,dV]);try rfl
def G0{R:Type}(k0:Nat)(hx0:yQ R):Nat→Gg R
 |0=>fun _ _ _ _ _=>none
 |k+1=>R0 hx0 (G1 k0 (A1 (G2 k0 (A2 (G0 k0 hx0 k)) k0)) k0)
theorem aO:∀ k,L0 k0 k K=G0 k0 (H0 K) k:=bI rfl fun k ih=>by rw[zs0,G0];(try simp only[ih,dV,kT,bW,l7]);try rfl
variable (f0:Int) (f1 f2:List U7)
def aB:au ((List (Int×Unit))×Unit):=cu Tryz.prog [.tmp 2] JF IZ (f0,f1,f2,())
theorem aU:H0 (K0 k0 (aB f0 f1 f2))=A0 f0 f1 f2:=by kernel_rfl
def FF:Option ((List (Int×Unit))×Unit):=T (G0 k0 (A0 f0 f1 f2) k0) f0 f1 f2
theorem aT:cO Tryz.prog (aS [(66,[],DW)]) aA k0 148 JF IZ [] (f0,f1,f2,())=FF k0 f0 f1 f2:=Eq.trans (b:=T (L0 k0 k0 (K0 k0 (aB f0 f1 f2))) f0 f1 f2) (by kernel_rfl) (by rw[FF];(try simp only[dV,kT,aO,aU]);try rfl)
def _root_.Go.Rv.Dl:=fun x:U3=>FF (300+x.2.1.length+x.2.2.1.length) x.1 x.2.1 x.2.2.1
abbrev _root_.Go.Rv.KR:aG:=⟨JF,IZ,Dl,[]⟩
theorem _root_.Go.Rv.aaI:aF Dr Tryz.prog 148 KR:=dw mix (.c RJ .nil) (by kernel_rfl) fun x=>⟨aA,_,aT _ _ _ _⟩
end gy
abbrev J6:Is:=[.v true eG,.v false [CT.int .i64]]
abbrev Jw:Os:=[(false,[CT.sl eF]),(false,[CT.sl ct0])]
namespace iQ
def aA:Nat→List Nat×List Nat:=fun k=>if k=5 then([1,2,6,7,8,9],[1,2,7,8])else if k=11 then([1,2,7,8,10],[7,8])else([],[])
def zrc{R:Type}(k0:Nat)(p:List Nat):Env→List Ob→au R→Option R:=bF Tryz.prog (aS [(148,[],KR)]) 91 0 aA k0 (bV p (dm Tryz.prog 130))
def R0{R:Type}(nx0:Gf R)(ex0:P5 R)(group2 i f:Int)(f3 f4:List U7)(wants:List (Int×Unit))(kids:List U9)(items:List U8):Option R:=cond (decide (i<(f3.length:Int))) (if 0≤i∧i<(f3.length:Int)then cond ((rd (0,0,0,0,()) f3 i).2.1==group2) (if kids.length+[(i,(-1),())].length≤maxRow then if 0≤i∧i<(wants.length:Int)then if 0≤i∧i<(f3.length:Int)then if items.length+([(((kids++[(i,(-1),())]).length:Int),(wants.getD i.toNat (0,())).1,(rd (0,0,0,0,()) f3 i).2.2.2.1,())]).length≤maxRow then nx0 group2 (af (i+1)) f f3 f4 wants (kids++[(i,(-1),())]) (items++[(((kids++[(i,(-1),())]).length:Int),(wants.getD i.toNat (0,())).1,(rd (0,0,0,0,()) f3 i).2.2.2.1,())])else none else none else none else none) (nx0 group2 (af (i+1)) f f3 f4 wants kids items)else none) (ex0 group2 f f3 f4 kids items)
def R1{R:Type}(nx1:F9 R)(ex1:PZ R)(group2 i f:Int)(f3 f4:List U7)(kids:List U9)(items:List U8):Option R:=cond (decide (i<(f4.length:Int))) (if 0≤i∧i<(f4.length:Int)then cond ((rd (0,0,0,0,()) f4 i).2.1==group2) (if kids.length+[((-1),i,())].length≤maxRow then if 0≤i∧i<(f4.length:Int)then if 0≤i∧i<(f4.length:Int)then if items.length+([(((kids++[((-1),i,())]).length:Int),(rd (0,0,0,0,()) f4 i).2.2.1,(rd (0,0,0,0,()) f4 i).2.2.2.1,())]).length≤maxRow then nx1 group2 (af (i+1)) f f3 f4 (kids++[((-1),i,())]) (items++[(((kids++[((-1),i,())]).length:Int),(rd (0,0,0,0,()) f4 i).2.2.1,(rd (0,0,0,0,()) f4 i).2.2.2.1,())])else none else none else none else none) (nx1 group2 (af (i+1)) f f3 f4 kids items)else none) (ex1 kids items)
def A0(lo1:F9 ((List U9)×(List U8)×Unit))(f0:Int)(f1 f2:List U7)(group:Int)(group2 f:Int)(f3 f4:List U7)(kids:List U9)(items:List U8):Option ((List U9)×(List U8)×Unit):=lo1 group2 0 f f3 f4 kids items
def A1(f0:Int)(f1 f2:List U7)(group:Int)(kids:List U9)(items:List U8):Option ((List U9)×(List U8)×Unit):=some (kids,items,())
def T(lo0:Gf ((List U9)×(List U8)×Unit))(f0:Int)(f1 f2:List U7)(group:Int):Option ((List U9)×(List U8)×Unit):=(Dl (f0,f1,f2,())).bind fun y1=>lo0 group 0 f0 f1 f2 y1.1 ([]:List U9) ([]:List U8)
def K0{R:Type}(k0:Nat)(K:au R):au R:=bf 0 (bD (fun env ob=>zrc k0 [1,1,1,1,1] env ob (K)) (K))
def K1{R:Type}(k0:Nat)(K:au R):au R:=bf 2 (bD (fun env ob=>zrc k0 [1,1,1,1,1,1] env ob (K)) (K))
def L0:Gf R:=fun group2 i f f3 f4 wants kids items=>iter 0 [1,2,6,7,8,9] [1,2,7,8] (zrc k0 [1,1,1,1,0,1,0,0]) k [(1,.int .i64 group2),(2,.ptr 0 0 0 0),(6,.own 1),(7,.own 2),(8,.own 3),(9,.int .i64 i)] [.box [.int .i64 f,.sl aC f3,.sl aC f4],.arr [CT.int .i64] wants,.arr eF kids,.arr ct0 items] K
def L1:F9 R:=fun group2 i f f3 f4 kids items=>iter 0 [1,2,7,8,10] [7,8] (zrc k0 [1,1,1,1,1,0,1,0,0]) k [(1,.int .i64 group2),(2,.ptr 0 0 0 0),(7,.own 1),(8,.own 2),(10,.int .i64 i)] [.box [.int .i64 f,.sl aC f3,.sl aC f4],.arr eF kids,.arr ct0 items] K
def H0:P5 R:=fun group2 f f3 f4 kids items=>K (.exit 0) [(1,.int .i64 group2),(2,.ptr 0 0 0 0),(7,.own 1),(8,.own 2)] [.box [.int .i64 f,.sl aC f3,.sl aC f4],.arr eF kids,.arr ct0 items]
def H1:PZ R:=fun kids items=>K (.exit 2) [(7,.own 0),(8,.own 1)] [.arr eF kids,.arr ct0 items]
theorem zs0:L0 k0 (k+1) K=R0 (L0 k0 k K) (H0 K):=by kernel_rfl
theorem zs1:L1 k0 (k+1) K=R1 (L1 k0 k K) (H1 K):=by kernel_rfl
def G0{R:Type}(k0:Nat)(hx0:P5 R):Nat→Gf R
 |0=>fun _ _ _ _ _ _ _ _=>none
 |k+1=>R0 (G0 k0 hx0 k) hx0
theorem aO:∀ k,L0 k0 k K=G0 k0 (H0 K) k:=bI rfl fun k ih=>by rw[zs0,G0];(try simp only[ih]);try rfl
def G1{R:Type}(k0:Nat)(hx1:PZ R):Nat→F9 R
 |0=>fun _ _ _ _ _ _ _=>none
 |k+1=>R1 (G1 k0 hx1 k) hx1
theorem dV:∀ k,L1 k0 k K=G1 k0 (H1 K) k:=bI rfl fun k ih=>by rw[zs1,G1];(try simp only[ih,aO]);try rfl
variable (f0:Int) (f1 f2:List U7) (group:Int)
def aB:au ((List U9)×(List U8)×Unit):=cu Tryz.prog [.tmp 4,.tmp 5] J6 Jw (f0,f1,f2,group,())
theorem aU:H0 (K0 k0 (aB f0 f1 f2 group))=A0 (L1 k0 k0 (K1 k0 (aB f0 f1 f2 group))) f0 f1 f2 group:=by kernel_rfl
theorem bW:H1 (K1 k0 (aB f0 f1 f2 group))=A1 f0 f1 f2 group:=by kernel_rfl
def FF:Option ((List U9)×(List U8)×Unit):=T (G0 k0 (A0 (G1 k0 (A1 f0 f1 f2 group) k0) f0 f1 f2 group) k0) f0 f1 f2 group
theorem aT:cO Tryz.prog (aS [(148,[],KR)]) aA k0 130 J6 Jw [] (f0,f1,f2,group,())=FF k0 f0 f1 f2 group:=Eq.trans (b:=T (L0 k0 k0 (K0 k0 (aB f0 f1 f2 group))) f0 f1 f2 group) (by kernel_rfl) (by rw[FF];(try simp only[aO,dV,aU,bW]);try rfl)
def _root_.Go.Rv.zQ:=fun x:Int×(List U7)×(List U7)×Int×Unit=>FF (300+x.2.1.length+x.2.2.1.length) x.1 x.2.1 x.2.2.1 x.2.2.2.1
abbrev _root_.Go.Rv.Lj:aG:=⟨J6,Jw,zQ,[]⟩
theorem _root_.Go.Rv.abb:aF Dr Tryz.prog 130 Lj:=dw mix (.c aaI .nil) (by kernel_rfl) fun x=>⟨aA,_,aT _ _ _ _ _⟩
end iQ
def Tf.T(a0 a1 b0 b1:Int):Option (U6):=cond (decide ((IntKind.u64.wrap (a1+b1))<a1)) (cond (decide ((IntKind.u64.wrap (a0+b0))<a0)) (some ((IntKind.u64.wrap ((IntKind.u64.wrap (a0+b0))+1)),(IntKind.u64.wrap (a1+b1)),true,0,())) (some ((IntKind.u64.wrap ((IntKind.u64.wrap (a0+b0))+1)),(IntKind.u64.wrap (a1+b1)),(decide ((IntKind.u64.wrap ((IntKind.u64.wrap (a0+b0))+1))<(IntKind.u64.wrap (a0+b0)))),0,()))) (cond (decide ((IntKind.u64.wrap (a0+b0))<a0)) (some ((IntKind.u64.wrap ((IntKind.u64.wrap (a0+b0))+0)),(IntKind.u64.wrap (a1+b1)),true,0,())) (some ((IntKind.u64.wrap ((IntKind.u64.wrap (a0+b0))+0)),(IntKind.u64.wrap (a1+b1)),(decide ((IntKind.u64.wrap ((IntKind.u64.wrap (a0+b0))+0))<(IntKind.u64.wrap (a0+b0)))),0,())))
def uD:=fun x:U7=>Tf.T x.1 x.2.1 x.2.2.1 x.2.2.2.1
abbrev wH:aG:=⟨[.v true ct1,.v true ct1],[(true,Yk)],uD,[]⟩
theorem KG:aF Dr Tryz.prog 165 wH:=aW mix .nil (by kernel_rfl) fun x=>by kernel_rfl
abbrev J9:Is:=[.v true ct1,.v false [CT.int .i64]]
abbrev JA:Os:=[(true,ct1)]
namespace qW
def aA:Nat→List Nat×List Nat:=fun k=>if k=3 then([1,2,4],[2,4])else([],[])
def zrc{R:Type}(k0:Nat)(p:List Nat):Env→List Ob→au R→Option R:=bF Tryz.prog (aS [(165,[],wH)]) 21 0 aA k0 (bV p (dm Tryz.prog 168))
def R0{R:Type}(nx0:tJ R)(ex0:qQ R)(n2 a a2 t4x t4x2:Int):Option R:=cond (decide (n2>0)) ((uD (a,a2,a,a2,())).bind fun y1=>nx0 (af (n2 - 1)) y1.1 y1.2.1 t4x t4x2) (ex0 a a2 t4x t4x2)
def A0(a0 a1 n:Int)(a a2 t4x t4x2:Int):Option (U9):=some (a,a2,())
def T(lo0:tJ (U9))(a0 a1 n:Int):Option (U9):=cond (decide (n<0)) (some (0,0,())) (cond (decide (n>127)) (some (0,0,())) (lo0 n a0 a1 0 0))
def K0{R:Type}(k0:Nat)(K:au R):au R:=bf 0 (bD (fun env ob=>zrc k0 [1,1,1] env ob (K)) (K))
def L0:tJ R:=fun n2 a a2 t4x t4x2=>iter 0 [1,2,4] [2,4] (zrc k0 [1,1,0,0,0]) k [(1,.int .i64 n2),(2,.ptr 0 0 0 0),(4,.ptr 1 0 0 0)] [.box [.int .u64 a,.int .u64 a2],.box [.int .u64 t4x,.int .u64 t4x2]] K
def H0:qQ R:=fun a a2 t4x t4x2=>K (.exit 0) [(2,.ptr 0 0 0 0),(4,.ptr 1 0 0 0)] [.box [.int .u64 a,.int .u64 a2],.box [.int .u64 t4x,.int .u64 t4x2]]
theorem zs0:L0 k0 (k+1) K=R0 (L0 k0 k K) (H0 K):=by kernel_rfl
def G0{R:Type}(k0:Nat)(hx0:qQ R):Nat→tJ R
 |0=>fun _ _ _ _ _=>none
 |k+1=>R0 (G0 k0 hx0 k) hx0
theorem aO:∀ k,L0 k0 k K=G0 k0 (H0 K) k:=bI rfl fun k ih=>by rw[zs0,G0];(try simp only[ih]);try rfl
variable (a0 a1 n:Int)
def aB:au (U9):=cu Tryz.prog [.cell 4 185] J9 JA (a0,a1,n,())
theorem aU:H0 (K0 k0 (aB a0 a1 n))=A0 a0 a1 n:=by kernel_rfl
def FF:Option (U9):=T (G0 k0 (A0 a0 a1 n) k0) a0 a1 n
theorem aT:cO Tryz.prog (aS [(165,[],wH)]) aA k0 168 J9 JA [] (a0,a1,n,())=FF k0 a0 a1 n:=Eq.trans (b:=T (L0 k0 k0 (K0 k0 (aB a0 a1 n))) a0 a1 n) (by kernel_rfl) (by rw[FF];(try simp only[aO,aU]);try rfl)
def _root_.Go.Rv.DK:=fun x:U8=>FF (300) x.1 x.2.1 x.2.2.1
abbrev _root_.Go.Rv.Lm:aG:=⟨J9,JA,DK,[]⟩
theorem _root_.Go.Rv.abg:aF Dr Tryz.prog 168 Lm:=dw mix (.c KG .nil) (by kernel_rfl) fun x=>⟨aA,_,aT _ _ _ _⟩
end qW
abbrev Ko:Is:=[.v false [CT.int .u64],.v false [CT.int .u64]]
abbrev JB:Os:=[(true,ct1)]
namespace qi
def aA:Nat→List Nat×List Nat:=fun k=>if k=3 then([0,1,4,5,6],[4,5])else([],[])
def zrc{R:Type}(k0:Nat)(p:List Nat):Env→List Ob→au R→Option R:=bF Tryz.prog (aS [(165,[],wH),(168,[],Lm)]) 26 0 aA k0 (bV p (dm Tryz.prog 152))
def R0{R:Type}(nx0:F8 R)(ex0:qQ R)(a2 b2 kx t4x t4x2 sum sum2:Int):Option R:=cond (decide (kx<64)) (if(IntKind.u64.wrap (kx))<0 then none else cond ((IntKind.u64.wrap (((BitVec.ofInt 64 (Int.fdiv b2 (2 ^ (min (((IntKind.u64.wrap (kx)):Int)).toNat 64)))) &&& (BitVec.ofInt 64 1)).toNat))==1) ((DK (0,a2,kx,())).bind fun y1=>(uD (sum,sum2,y1.1,y1.2.1,())).bind fun y2=>nx0 a2 b2 (af (kx+1)) t4x t4x2 y2.1 y2.2.1) (nx0 a2 b2 (af (kx+1)) t4x t4x2 sum sum2)) (ex0 t4x t4x2 sum sum2)
def A0(a b:Int)(t4x t4x2 sum sum2:Int):Option (U9):=some (sum,sum2,())
def T(lo0:F8 (U9))(a b:Int):Option (U9):=lo0 a b 0 0 0 0 0
def K0{R:Type}(k0:Nat)(K:au R):au R:=bf 0 (bD (fun env ob=>zrc k0 [1,1,1] env ob (K)) (K))
def L0:F8 R:=fun a2 b2 kx t4x t4x2 sum sum2=>iter 0 [0,1,4,5,6] [4,5] (zrc k0 [1,1,0,1,0,0]) k [(0,.int .u64 a2),(1,.int .u64 b2),(4,.ptr 0 0 0 0),(5,.ptr 1 0 0 0),(6,.int .i64 kx)] [.box [.int .u64 t4x,.int .u64 t4x2],.box [.int .u64 sum,.int .u64 sum2]] K
def H0:qQ R:=fun t4x t4x2 sum sum2=>K (.exit 0) [(4,.ptr 0 0 0 0),(5,.ptr 1 0 0 0)] [.box [.int .u64 t4x,.int .u64 t4x2],.box [.int .u64 sum,.int .u64 sum2]]
theorem zs0:L0 k0 (k+1) K=R0 (L0 k0 k K) (H0 K):=by kernel_rfl
def G0{R:Type}(k0:Nat)(hx0:qQ R):Nat→F8 R
 |0=>fun _ _ _ _ _ _ _=>none
 |k+1=>R0 (G0 k0 hx0 k) hx0
theorem aO:∀ k,L0 k0 k K=G0 k0 (H0 K) k:=bI rfl fun k ih=>by rw[zs0,G0];(try simp only[ih]);try rfl
variable (a b:Int)
def aB:au (U9):=cu Tryz.prog [.cell 4 185] Ko JB (a,b,())
theorem aU:H0 (K0 k0 (aB a b))=A0 a b:=by kernel_rfl
def FF:Option (U9):=T (G0 k0 (A0 a b) k0) a b
theorem aT:cO Tryz.prog (aS [(165,[],wH),(168,[],Lm)]) aA k0 152 Ko JB [] (a,b,())=FF k0 a b:=Eq.trans (b:=T (L0 k0 k0 (K0 k0 (aB a b))) a b) (by kernel_rfl) (by rw[FF];(try simp only[aO,aU]);try rfl)
def _root_.Go.Rv.uw:=fun x:U9=>FF (300) x.1 x.2.1
abbrev _root_.Go.Rv.RX:aG:=⟨Ko,JB,uw,[]⟩
theorem _root_.Go.Rv.Rf:aF Dr Tryz.prog 152 RX:=dw mix (.c KG (.c abg .nil)) (by kernel_rfl) fun x=>⟨aA,_,aT _ _ _⟩
end qi
def Td.T(a0 a1 b0 b1:Int):Option (Int×Unit):=cond (a0 != b0) (cond (decide (a0<b0)) (some ((-1),())) (some (1,()))) (cond (decide (a1<b1)) (some ((-1),())) (cond (decide (a1>b1)) (some (1,())) (some (0,()))))
def uz:=fun x:U7=>Td.T x.1 x.2.1 x.2.2.1 x.2.2.2.1
abbrev RZ:aG:=⟨[.v true ct1,.v true ct1],[(false,[CT.int .i64])],uz,[]⟩
theorem KF:aF Dr Tryz.prog 164 RZ:=aW mix .nil (by kernel_rfl) fun x=>by kernel_rfl
def Sl.T(a b c d:Int):Option (Int×Unit):=(uw ((IntKind.u64.wrap (a)),(IntKind.u64.wrap (b)),())).bind fun y1=>(uw ((IntKind.u64.wrap (c)),(IntKind.u64.wrap (d)),())).bind fun y2=>(uz (y1.1,y1.2.1,y2.1,y2.2.1,())).bind fun y3=>some (y3.1,())
def wE:=fun x:U7=>Sl.T x.1 x.2.1 x.2.2.1 x.2.2.2.1
abbrev Rt:aG:=⟨[.v false [CT.int .i64],.v false [CT.int .i64],.v false [CT.int .i64],.v false [CT.int .i64]],[(false,[CT.int .i64])],wE,[]⟩
theorem QN:aF Dr Tryz.prog 150 Rt:=aW mix (.c Rf (.c KF .nil)) (by kernel_rfl) fun x=>by kernel_rfl
def RI.T(a0 a1 a2:Int):Option (Bool×Unit):=(kZ (a0,())).bind fun y1=>cond y1.1 ((dX (a1,())).bind fun y2=>cond y2.1 ((fQ (a2,())).bind fun y3=>some (y3.1,())) (some (false,()))) (some (false,()))
def zq:=fun x:U8=>RI.T x.1 x.2.1 x.2.2.1
abbrev aa1:aG:=⟨[.v true ct0],[(false,[CT.bool])],zq,[]⟩
theorem aaf:aF Dr Tryz.prog 163 aa1:=aW mix (.c zT (.c wB (.c CS .nil))) (by kernel_rfl) fun x=>by kernel_rfl
def Sm.T(a0 a1 a2 b0 b1 b2:Int):Option (Int×Unit):=(zq (a0,a1,a2,())).bind fun y1=>cond (!y1.1) (some (0,())) ((zq (b0,b1,b2,())).bind fun y2=>cond (!y2.1) (some (0,())) ((wE (a1,b2,b1,a2,())).bind fun y3=>cond (y3.1 != 0) (some (y3.1,())) (cond (decide (a0<b0)) (some ((-1),())) (cond (decide (a0>b0)) (some (1,())) (some (0,()))))))
def Dn:=fun x:Int×U5=>Sm.T x.1 x.2.1 x.2.2.1 x.2.2.2.1 x.2.2.2.2.1 x.2.2.2.2.2.1
abbrev Ru:aG:=⟨[.v true ct0,.v true ct0],[(false,[CT.int .i64])],Dn,[]⟩
theorem aaK:aF Dr Tryz.prog 149 Ru:=aW mix (.c QN (.c aaf .nil)) (by kernel_rfl) fun x=>by kernel_rfl
abbrev J8:Is:=[.v true ct1,.v false [CT.int .i64]]
abbrev Jz:Os:=[(true,ct1)]
namespace qV
def aA:Nat→List Nat×List Nat:=fun k=>if k=3 then([1,2,4],[2,4])else([],[])
def zrc{R:Type}(k0:Nat)(p:List Nat):Env→List Ob→au R→Option R:=bF Tryz.prog (aS []) 29 0 aA k0 (bV p (dm Tryz.prog 178))
def R0{R:Type}(nx0:tJ R)(ex0:qQ R)(n2 a a2 t4x t4x2:Int):Option R:=cond (decide (n2>0)) (if 2=0 then none else if 2=0 then none else if 2=0 then none else nx0 (af (n2 - 1)) (IntKind.u64.wrap (Int.tdiv a 2)) (IntKind.u64.wrap ((IntKind.u64.wrap (Int.tdiv a2 2))+(IntKind.u64.wrap ((Int.tmod a 2)*9223372036854775808)))) t4x t4x2) (ex0 a a2 t4x t4x2)
def A0(a0 a1 n:Int)(a a2 t4x t4x2:Int):Option (U9):=some (a,a2,())
def T(lo0:tJ (U9))(a0 a1 n:Int):Option (U9):=cond (decide (n<0)) (some (0,0,())) (cond (decide (n>127)) (some (0,0,())) (lo0 n a0 a1 0 0))
def K0{R:Type}(k0:Nat)(K:au R):au R:=bf 0 (bD (fun env ob=>zrc k0 [1,1,1] env ob (K)) (K))
def L0:tJ R:=fun n2 a a2 t4x t4x2=>iter 0 [1,2,4] [2,4] (zrc k0 [1,1,0,0,0]) k [(1,.int .i64 n2),(2,.ptr 0 0 0 0),(4,.ptr 1 0 0 0)] [.box [.int .u64 a,.int .u64 a2],.box [.int .u64 t4x,.int .u64 t4x2]] K
def H0:qQ R:=fun a a2 t4x t4x2=>K (.exit 0) [(2,.ptr 0 0 0 0),(4,.ptr 1 0 0 0)] [.box [.int .u64 a,.int .u64 a2],.box [.int .u64 t4x,.int .u64 t4x2]]
theorem zs0:L0 k0 (k+1) K=R0 (L0 k0 k K) (H0 K):=by kernel_rfl
def G0{R:Type}(k0:Nat)(hx0:qQ R):Nat→tJ R
 |0=>fun _ _ _ _ _=>none
 |k+1=>R0 (G0 k0 hx0 k) hx0
theorem aO:∀ k,L0 k0 k K=G0 k0 (H0 K) k:=bI rfl fun k ih=>by rw[zs0,G0];(try simp only[ih]);try rfl
variable (a0 a1 n:Int)
def aB:au (U9):=cu Tryz.prog [.cell 4 185] J8 Jz (a0,a1,n,())
theorem aU:H0 (K0 k0 (aB a0 a1 n))=A0 a0 a1 n:=by kernel_rfl
def FF:Option (U9):=T (G0 k0 (A0 a0 a1 n) k0) a0 a1 n
theorem aT:cO Tryz.prog (aS []) aA k0 178 J8 Jz [] (a0,a1,n,())=FF k0 a0 a1 n:=Eq.trans (b:=T (L0 k0 k0 (K0 k0 (aB a0 a1 n))) a0 a1 n) (by kernel_rfl) (by rw[FF];(try simp only[aO,aU]);try rfl)
def _root_.Go.Rv.DJ:=fun x:U8=>FF (300) x.1 x.2.1 x.2.2.1
abbrev _root_.Go.Rv.ab1:aG:=⟨J8,Jz,DJ,[]⟩
theorem _root_.Go.Rv.abf:aF Dr Tryz.prog 178 ab1:=dw mix .nil (by kernel_rfl) fun x=>⟨aA,_,aT _ _ _ _⟩
end qV
def TI.T(a0 a1 ak:Int):Option (Int×Unit):=(DJ (a0,a1,ak,())).bind fun y1=>some ((IntKind.u64.wrap (((BitVec.ofInt 64 y1.2.1) &&& (BitVec.ofInt 64 1)).toNat)),())
def DZ:=fun x:U8=>TI.T x.1 x.2.1 x.2.2.1
abbrev SL:aG:=⟨[.v true ct1,.v false [CT.int .i64]],[(false,[CT.int .u64])],DZ,[]⟩
theorem abP:aF Dr Tryz.prog 166 SL:=aW mix (.c abf .nil) (by kernel_rfl) fun x=>by kernel_rfl
def Tc.T(a0 a1 b0 b1:Int):Option (U6):=cond (decide (a1<b1)) ((uz (a0,a1,b0,b1,())).bind fun y1=>some ((IntKind.u64.wrap ((IntKind.u64.wrap (a0 - b0)) - 1)),(IntKind.u64.wrap (a1 - b1)),(decide (y1.1<0)),0,())) ((uz (a0,a1,b0,b1,())).bind fun y2=>some ((IntKind.u64.wrap (a0 - b0)),(IntKind.u64.wrap (a1 - b1)),(decide (y2.1<0)),0,()))
def DI:=fun x:U7=>Tc.T x.1 x.2.1 x.2.2.1 x.2.2.2.1
abbrev RV:aG:=⟨[.v true ct1,.v true ct1],[(true,Yk)],DI,[]⟩
theorem abe:aF Dr Tryz.prog 167 RV:=aW mix (.c KF .nil) (by kernel_rfl) fun x=>by kernel_rfl
abbrev Kq:Is:=[.v true ct1,.v false [CT.int .u64]]
abbrev JC:Os:=[(true,Yo)]
namespace oU
def dG:Tb:=[(164,[],RZ),(165,[],wH),(166,[],SL),(167,[],RV)]
def aA:Nat→List Nat×List Nat:=fun k=>if k=6 then([1,2,4,5,6,7],[4,5,6])else([],[])
def zrc{R:Type}(k0:Nat)(p:List Nat):Env→List Ob→au R→Option R:=bF Tryz.prog (aS dG) 55 0 aA k0 (bV p (dm Tryz.prog 151))
def R0{R:Type}(nx0:F7 R)(ex0:yX R)(d2 kx a a2 t4x t4x2 t4x3 out out2 out3 rem rem2:Int):Option R:=cond (decide (kx≥0)) ((uD (rem,rem2,rem,rem2,())).bind fun y1=>(DZ (a,a2,kx,())).bind fun y2=>(uD (out,out2,out,out2,())).bind fun y3=>(uz (y1.1,(IntKind.u64.wrap (y1.2.1+y2.1)),0,d2,())).bind fun y4=>cond (decide (y4.1≥0)) ((DI (y1.1,(IntKind.u64.wrap (y1.2.1+y2.1)),0,d2,())).bind fun y5=>nx0 d2 (af (kx - 1)) a a2 t4x t4x2 t4x3 y3.1 (IntKind.u64.wrap (y3.2.1+1)) out3 y5.1 y5.2.1) (nx0 d2 (af (kx - 1)) a a2 t4x t4x2 t4x3 y3.1 y3.2.1 out3 y1.1 (IntKind.u64.wrap (y1.2.1+y2.1)))) (ex0 t4x t4x2 t4x3 out out2 out3 rem rem2)
def A0(a0 a1 d:Int)(t4x t4x2 t4x3 out out2 out3 rem rem2:Int):Option (U8):=some (out,out2,rem2,())
def T(lo0:F7 (U8))(a0 a1 d:Int):Option (U8):=cond (d==0) (some (0,0,0,())) (lo0 d 127 a0 a1 0 0 0 0 0 0 0 0)
def K0{R:Type}(k0:Nat)(K:au R):au R:=bf 0 (bD (fun env ob=>zrc k0 [1,1,1,1,1] env ob (K)) (K))
def L0:F7 R:=fun d2 kx a a2 t4x t4x2 t4x3 out out2 out3 rem rem2=>iter 0 [1,2,4,5,6,7] [4,5,6] (zrc k0 [1,1,1,1,0,1,0,0]) k [(1,.int .u64 d2),(2,.ptr 0 0 0 0),(4,.ptr 1 0 0 0),(5,.ptr 2 0 0 0),(6,.ptr 3 0 0 0),(7,.int .i64 kx)] [.box [.int .u64 a,.int .u64 a2],.box [.int .u64 t4x,.int .u64 t4x2,.int .u64 t4x3],.box [.int .u64 out,.int .u64 out2,.int .u64 out3],.box [.int .u64 rem,.int .u64 rem2]] K
def H0:yX R:=fun t4x t4x2 t4x3 out out2 out3 rem rem2=>K (.exit 0) [(4,.ptr 0 0 0 0),(5,.ptr 1 0 0 0),(6,.ptr 2 0 0 0)] [.box [.int .u64 t4x,.int .u64 t4x2,.int .u64 t4x3],.box [.int .u64 out,.int .u64 out2,.int .u64 out3],.box [.int .u64 rem,.int .u64 rem2]]
theorem zs0:L0 k0 (k+1) K=R0 (L0 k0 k K) (H0 K):=by kernel_rfl
def G0{R:Type}(k0:Nat)(hx0:yX R):Nat→F7 R
 |0=>fun _ _ _ _ _ _ _ _ _ _ _ _=>none
 |k+1=>R0 (G0 k0 hx0 k) hx0
theorem aO:∀ k,L0 k0 k K=G0 k0 (H0 K) k:=bI rfl fun k ih=>by rw[zs0,G0];(try simp only[ih]);try rfl
variable (a0 a1 d:Int)
def aB:au (U8):=cu Tryz.prog [.cell 4 187] Kq JC (a0,a1,d,())
theorem aU:H0 (K0 k0 (aB a0 a1 d))=A0 a0 a1 d:=by kernel_rfl
def FF:Option (U8):=T (G0 k0 (A0 a0 a1 d) k0) a0 a1 d
theorem aT:cO Tryz.prog (aS dG) aA k0 151 Kq JC [] (a0,a1,d,())=FF k0 a0 a1 d:=Eq.trans (b:=T (L0 k0 k0 (K0 k0 (aB a0 a1 d))) a0 a1 d) (by kernel_rfl) (by rw[FF];(try simp only[aO,aU]);try rfl)
def _root_.Go.Rv.zS:=fun x:U8=>FF (300) x.1 x.2.1 x.2.2.1
abbrev _root_.Go.Rv.RY:aG:=⟨Kq,JC,zS,[]⟩
theorem _root_.Go.Rv.abh:aF Dr Tryz.prog 151 RY:=dw mix (.c KF (.c KG (.c abP (.c abe .nil)))) (by kernel_rfl) fun x=>⟨aA,_,aT _ _ _ _⟩
end oU
abbrev J7:Is:=[.v false [CT.int .i64],.v false [CT.sl ct0]]
abbrev Jy:Os:=[(false,[CT.sl [CT.int .i64]])]
namespace di
def dG:Tb:=[(149,[],Ru),(150,[],Rt),(151,[],RY),(152,[],RX)]
def aA:Nat→List Nat×List Nat:=fun k=>if k=6 then([1,5,6,7,8,9],[1,5,6,7,8])else if k=9 then([1,5,6,7,8],[1,4,5,6,7,8])else if k=11 then([1,5,6,7,8,10,11],[1,5,6,7,8,10])else if k=24 then([1,5,6,7,8,12,13],[1,5,6,12])else if k=30 then([1,5,6,12,14],[5])else([],[])
def zrc{R:Type}(k0:Nat)(p:List Nat):Env→List Ob→au R→Option R:=bF Tryz.prog (aS dG) 167 0 aA k0 (bV p (dm Tryz.prog 131))
def R0{R:Type}(nx0:vK R)(ex0:lK R)(list2:List U8)(rest all i:Int)(out:List (Int×Unit))(done:List (Bool×Unit)):Option R:=cond (decide (i<(list2.length:Int))) (if 0≤i∧i<(list2.length:Int)then nx0 list2 rest (af (all+(rd (0,0,0,()) list2 i).2.2.1)) (af (i+1)) out done else none) (ex0 list2 rest all out done)
def R1{R:Type}(lo2:tH R)(list2:List U8)(rest all:Int)(out:List (Int×Unit))(done:List (Bool×Unit)):Option R:=lo2 list2 rest all (-1) 0 out done
def R2{R:Type}(nx2:tH R)(ex1:vK R)(list2:List U8)(rest all next i:Int)(out:List (Int×Unit))(done:List (Bool×Unit)):Option R:=cond (decide (i<(list2.length:Int))) (if 0≤i∧i<(done.length:Int)then cond (!(done.getD i.toNat (false,())).1) (cond (decide (next<0)) (nx2 list2 rest all i (af (i+1)) out done) (if 0≤i∧i<(list2.length:Int)then if 0≤next∧next<(list2.length:Int)then(Dn ((rd (0,0,0,()) list2 i).1,(rd (0,0,0,()) list2 i).2.1,(rd (0,0,0,()) list2 i).2.2.1,(rd (0,0,0,()) list2 next).1,(rd (0,0,0,()) list2 next).2.1,(rd (0,0,0,()) list2 next).2.2.1,())).bind fun y1=>cond (decide (y1.1<0)) (nx2 list2 rest all i (af (i+1)) out done) (nx2 list2 rest all next (af (i+1)) out done)else none else none)) (nx2 list2 rest all next (af (i+1)) out done)else none) (ex1 list2 rest all next out done)
def R3{R:Type}(nx3:tH R)(qP:PY R)(list2:List U8)(rest all left i:Int)(out:List (Int×Unit))(done:List (Bool×Unit)):Option R:=cond (decide (i<(list2.length:Int))) (if 0≤i∧i<(done.length:Int)then cond (!(done.getD i.toNat (false,())).1) (if 0≤i∧i<(list2.length:Int)then(uw ((IntKind.u64.wrap (rest)),(IntKind.u64.wrap ((rd (0,0,0,()) list2 i).2.2.1)),())).bind fun y1=>(zS (y1.1,y1.2.1,(IntKind.u64.wrap (all)),())).bind fun y2=>if 0≤i∧i<(out.length:Int)then if 0≤i∧i<((out.set i.toNat ((af (y2.2.1)),())).length:Int)then nx3 list2 rest all (af (left - ((out.set i.toNat ((af (y2.2.1)),())).getD i.toNat (0,())).1)) (af (i+1)) (out.set i.toNat ((af (y2.2.1)),())) done else none else none else none) (nx3 list2 rest all left (af (i+1)) out done)else none) (qP list2 left out done)
def R4{R:Type}(nx4:lK R)(ex5:yQ R)(list2:List U8)(left i:Int)(out:List (Int×Unit))(done:List (Bool×Unit)):Option R:=cond (decide (i<(list2.length:Int))) (cond (decide (left>0)) (if 0≤i∧i<(done.length:Int)then cond (!(done.getD i.toNat (false,())).1) (if 0≤i∧i<(out.length:Int)then if 0≤i∧i<(out.length:Int)then nx4 list2 (af (left - 1)) (af (i+1)) (out.set i.toNat ((af ((out.getD i.toNat (0,())).1+1)),())) done else none else none) (nx4 list2 left (af (i+1)) out done)else none) (ex5 out)) (ex5 out)
def A0(lo1:lK ((List (Int×Unit))×Unit))(amount:Int)(list:List U8)(list2:List U8)(rest all:Int)(out:List (Int×Unit))(done:List (Bool×Unit)):Option ((List (Int×Unit))×Unit):=lo1 list2 rest all out done
def A1{R:Type}(nx1 ex2 ex3:lK R)(list2:List U8)(rest all next:Int)(out:List (Int×Unit))(done:List (Bool×Unit)):Option R:=cond (decide (next<0)) (ex2 list2 rest all out done) (if 0≤next∧next<(list2.length:Int)then if 0≤next∧next<(list2.length:Int)then(wE ((rd (0,0,0,()) list2 next).2.1,all,rest,(rd (0,0,0,()) list2 next).2.2.1,())).bind fun y1=>cond (decide (y1.1>0)) (ex3 list2 rest all out done) (if 0≤next∧next<(done.length:Int)then if 0≤next∧next<(list2.length:Int)then if 0≤next∧next<(out.length:Int)then if 0≤next∧next<(list2.length:Int)then if 0≤next∧next<(list2.length:Int)then nx1 list2 (af (rest - (rd (0,0,0,()) list2 next).2.1)) (af (all - (rd (0,0,0,()) list2 next).2.2.1)) (out.set next.toNat ((rd (0,0,0,()) list2 next).2.1,())) (done.set next.toNat (true,()))else none else none else none else none else none)else none else none)
def A2(amount:Int)(list:List U8)(list2:List U8)(rest all:Int)(t4x:List (Int×Unit))(done:List (Bool×Unit)):Option ((List (Int×Unit))×Unit):=some (t4x,())
def A3(lo3:tH ((List (Int×Unit))×Unit))(amount:Int)(list:List U8)(list2:List U8)(rest all:Int)(out:List (Int×Unit))(done:List (Bool×Unit)):Option ((List (Int×Unit))×Unit):=lo3 list2 rest all rest 0 out done
def A4(lo4:lK ((List (Int×Unit))×Unit))(amount:Int)(list:List U8)(list2:List U8)(left:Int)(out:List (Int×Unit))(done:List (Bool×Unit)):Option ((List (Int×Unit))×Unit):=lo4 list2 left 0 out done
def A5(amount:Int)(list:List U8)(out:List (Int×Unit)):Option ((List (Int×Unit))×Unit):=some (out,())
def T(lo0:vK ((List (Int×Unit))×Unit))(amount:Int)(list:List U8):Option ((List (Int×Unit))×Unit):=if 0≤(list.length:Int)∧(8:Int)*(list.length:Int)≤281474976710656∧(list.length:Int)≤9223372036854775807 then if 0≤(list.length:Int)∧(1:Int)*(list.length:Int)≤281474976710656∧(list.length:Int)≤9223372036854775807 then lo0 list amount 0 0 (List.replicate (((list.length:Int):Int)).toNat (0,())) (List.replicate (((list.length:Int):Int)).toNat (false,()))else none else none
def K0{R:Type}(k0:Nat)(K:au R):au R:=bf 0 (bD (fun env ob=>zrc k0 [1,1,1,1,1,1] env ob (K)) (K))
def K1{R:Type}(k0:Nat)(K:au R):au R:=bf 2 (bD (fun env ob=>zrc k0 [1,1,1,1,1,1,1] env ob (K)) (K))
def K2{R:Type}(k0:Nat)(K:au R):au R:=bf 4 (bD (fun env ob=>zrc k0 [1,1,1,1,1,1,0,0,0,0,1,1] env ob (bf 3 (K))) (bf 3 (K)))
def K3{R:Type}(k0:Nat)(K:au R):au R:=bf 6 (bD (fun env ob=>zrc k0 [1,1,1,1,1,1,1,1,1] env ob (K)) (K))
def K4{R:Type}(k0:Nat)(K:au R):au R:=bf 8 (bD (fun env ob=>zrc k0 [1,1,1,1,1,1,1,1,1,1] env ob (K)) (K))
def P1:au R:=vz 0 [1,5,6,7,8] [1,4,5,6,7,8] (fun env ob=>iter 0 [1,5,6,7,8] [1,4,5,6,7,8] (zrc k0 [1,1,1,1,1,1,0,0,0]) k env ob K) K
def L0:vK R:=fun list2 rest all i out done=>iter 0 [1,5,6,7,8,9] [1,5,6,7,8] (zrc k0 [1,1,1,1,1,0,1,0,0]) k [(1,.sl ct0 list2),(5,.own 0),(6,.own 1),(7,.int .i64 rest),(8,.int .i64 all),(9,.int .i64 i)] [.arr [CT.int .i64] out,.arr [CT.bool] done] K
def L1:lK R:=fun list2 rest all out done=>iter 0 [1,5,6,7,8] [1,4,5,6,7,8] (zrc k0 [1,1,1,1,1,1,0,0,0]) k [(1,.sl ct0 list2),(5,.own 0),(6,.own 1),(7,.int .i64 rest),(8,.int .i64 all)] [.arr [CT.int .i64] out,.arr [CT.bool] done] K
def L2:tH R:=fun list2 rest all next i out done=>iter 0 [1,5,6,7,8,10,11] [1,5,6,7,8,10] (zrc k0 [1,1,1,1,1,1,0,0,0,0,1,0,1,0,0]) k [(1,.sl ct0 list2),(5,.own 0),(6,.own 1),(7,.int .i64 rest),(8,.int .i64 all),(10,.int .i64 next),(11,.int .i64 i)] [.arr [CT.int .i64] out,.arr [CT.bool] done] K
def L3:tH R:=fun list2 rest all left i out done=>iter 0 [1,5,6,7,8,12,13] [1,5,6,12] (zrc k0 [1,1,1,1,1,1,1,1,0,1,0,0]) k [(1,.sl ct0 list2),(5,.own 0),(6,.own 1),(7,.int .i64 rest),(8,.int .i64 all),(12,.int .i64 left),(13,.int .i64 i)] [.arr [CT.int .i64] out,.arr [CT.bool] done] K
def L4:lK R:=fun list2 left i out done=>iter 0 [1,5,6,12,14] [5] (zrc k0 [1,1,1,1,1,1,1,1,1,0,1,0,0]) k [(1,.sl ct0 list2),(5,.own 0),(6,.own 1),(12,.int .i64 left),(14,.int .i64 i)] [.arr [CT.int .i64] out,.arr [CT.bool] done] K
def H0:lK R:=fun list2 rest all out done=>K (.exit 0) [(1,.sl ct0 list2),(5,.own 0),(6,.own 1),(7,.int .i64 rest),(8,.int .i64 all)] [.arr [CT.int .i64] out,.arr [CT.bool] done]
def H1:vK R:=fun list2 rest all next out done=>K (.exit 4) [(1,.sl ct0 list2),(5,.own 0),(6,.own 1),(7,.int .i64 rest),(8,.int .i64 all),(10,.int .i64 next)] [.arr [CT.int .i64] out,.arr [CT.bool] done]
def H2:lK R:=fun list2 rest all t4x done=>K .ret [(1,.sl ct0 list2),(4,.own 0),(5,.own 0),(6,.own 1),(7,.int .i64 rest),(8,.int .i64 all)] [.arr [CT.int .i64] t4x,.arr [CT.bool] done]
def H3:lK R:=fun list2 rest all out done=>K (.exit 2) [(1,.sl ct0 list2),(4,.undef),(5,.own 0),(6,.own 1),(7,.int .i64 rest),(8,.int .i64 all)] [.arr [CT.int .i64] out,.arr [CT.bool] done]
def H4:PY R:=fun list2 left out done=>K (.exit 6) [(1,.sl ct0 list2),(5,.own 0),(6,.own 1),(12,.int .i64 left)] [.arr [CT.int .i64] out,.arr [CT.bool] done]
def H5:yQ R:=fun out=>K (.exit 8) [(5,.own 0)] [.arr [CT.int .i64] out]
theorem zs0:L0 k0 (k+1) K=R0 (L0 k0 k K) (H0 K):=by kernel_rfl
theorem zs1:L1 k0 (k+1) K=R1 (L2 k0 k0 (K2 k0 (P1 k0 k K))):=by kernel_rfl
theorem zs2:L2 k0 (k+1) K=R2 (L2 k0 k K) (H1 K):=by kernel_rfl
theorem Pz:L3 k0 (k+1) K=R3 (L3 k0 k K) (H4 K):=by kernel_rfl
theorem Py:L4 k0 (k+1) K=R4 (L4 k0 k K) (H5 K):=by kernel_rfl
theorem bW:H1 (K2 k0 (P1 k0 k K))=A1 (L1 k0 k K) (H2 K) (H3 K):=by kernel_rfl
def G0{R:Type}(k0:Nat)(hx0:lK R):Nat→vK R
 |0=>fun _ _ _ _ _ _=>none
 |k+1=>R0 (G0 k0 hx0 k) hx0
theorem aO:∀ k,L0 k0 k K=G0 k0 (H0 K) k:=bI rfl fun k ih=>by rw[zs0,G0];(try simp only[ih]);try rfl
def G2{R:Type}(k0:Nat)(hx1:vK R):Nat→tH R
 |0=>fun _ _ _ _ _ _ _=>none
 |k+1=>R2 (G2 k0 hx1 k) hx1
theorem kT:∀ k,L2 k0 k K=G2 k0 (H1 K) k:=bI rfl fun k ih=>by rw[zs2,G2];(try simp only[ih,aO]);try rfl
def G1{R:Type}(k0:Nat)(hx2 hx3:lK R):Nat→lK R
 |0=>fun _ _ _ _ _=>none
 |k+1=>R1 (G2 k0 (A1 (G1 k0 hx2 hx3 k) hx2 hx3) k0)
theorem dV:∀ k,L1 k0 k K=G1 k0 (H2 K) (H3 K) k:=bI rfl fun k ih=>by rw[zs1,G1];(try simp only[ih,aO,kT,bW]);try rfl
def G3{R:Type}(k0:Nat)(hx4:PY R):Nat→tH R
 |0=>fun _ _ _ _ _ _ _=>none
 |k+1=>R3 (G3 k0 hx4 k) hx4
theorem yH:∀ k,L3 k0 k K=G3 k0 (H4 K) k:=bI rfl fun k ih=>by rw[Pz,G3];(try simp only[ih,aO,kT,dV]);try rfl
def G4{R:Type}(k0:Nat)(hx5:yQ R):Nat→lK R
 |0=>fun _ _ _ _ _=>none
 |k+1=>R4 (G4 k0 hx5 k) hx5
theorem PD:∀ k,L4 k0 k K=G4 k0 (H5 K) k:=bI rfl fun k ih=>by rw[Py,G4];(try simp only[ih,aO,kT,dV,yH]);try rfl
variable (amount:Int) (list:List U8)
def aB:au ((List (Int×Unit))×Unit):=cu Tryz.prog [.tmp 4] J7 Jy (amount,list,())
theorem aU:H0 (K0 k0 (aB amount list))=A0 (L1 k0 k0 (K1 k0 (aB amount list))) amount list:=by kernel_rfl
theorem l7:H2 (K1 k0 (aB amount list))=A2 amount list:=by kernel_rfl
theorem qO:H3 (K1 k0 (aB amount list))=A3 (L3 k0 k0 (K3 k0 (aB amount list))) amount list:=by kernel_rfl
theorem PE:H4 (K3 k0 (aB amount list))=A4 (L4 k0 k0 (K4 k0 (aB amount list))) amount list:=by kernel_rfl
theorem za5:H5 (K4 k0 (aB amount list))=A5 amount list:=by kernel_rfl
def FF:Option ((List (Int×Unit))×Unit):=T (G0 k0 (A0 (G1 k0 (A2 amount list) (A3 (G3 k0 (A4 (G4 k0 (A5 amount list) k0) amount list) k0) amount list) k0) amount list) k0) amount list
theorem aT:cO Tryz.prog (aS dG) aA k0 131 J7 Jy [] (amount,list,())=FF k0 amount list:=Eq.trans (b:=T (L0 k0 k0 (K0 k0 (aB amount list))) amount list) (by kernel_rfl) (by rw[FF];(try simp only[aO,kT,dV,yH,PD,aU,l7,qO,PE,za5]);try rfl)
def _root_.Go.Rv.wJ:=fun x:Int×(List U8)×Unit=>FF (300+x.2.1.length) x.1 x.2.1
abbrev _root_.Go.Rv.Ll:aG:=⟨J7,Jy,wJ,[]⟩
theorem _root_.Go.Rv.abd:aF Dr Tryz.prog 131 Ll:=dw mix (.c aaK (.c QN (.c abh (.c Rf .nil)))) (by kernel_rfl) fun x=>⟨aA,_,aT _ _ _⟩
end di
abbrev KI:Is:=[.v true eG]
abbrev JX:Os:=[(false,[CT.sl [CT.int .i64]]),(false,[CT.sl [CT.int .i64]])]
namespace gB
def aA:Nat→List Nat×List Nat:=fun k=>if k=4 then([1,4,5,6],[4,5])else if k=14 then([1,4,5,6,9,11,12],[1,4,5,6])else([],[])
def zrc{R:Type}(k0:Nat)(p:List Nat):Env→List Ob→au R→Option R:=bF Tryz.prog (aS [(130,[],Lj),(131,[],Ll)]) 87 0 aA k0 (bV p (dm Tryz.prog 102))
def R0{R:Type}(ex0:PX R)(lo1:F6 R)(g f:Int)(f3 f4:List U7)(groups members:List (Int×Unit)):Option R:=cond (decide (g<(f3.length:Int))) (cond (decide (g≥0)) (if 0≤g∧g<(f3.length:Int)then if 0≤g∧g<(groups.length:Int)then(zQ (f,f3,f4,(rd (0,0,0,0,()) f3 g).1,())).bind fun y1=>(wJ ((groups.getD g.toNat (0,())).1,y1.2.1,())).bind fun y2=>lo1 g 0 f f3 f4 groups members y1.1 y2.1 else none else none) ((zQ (f,f3,f4,0,())).bind fun y3=>(wJ (f,y3.2.1,())).bind fun y4=>lo1 g 0 f f3 f4 groups members y3.1 y4.1)) (ex0 groups members)
def R1{R:Type}(nx1:F6 R)(ex1:vJ R)(g i f:Int)(f3 f4:List U7)(groups members:List (Int×Unit))(kids:List U9)(parts:List (Int×Unit)):Option R:=cond (decide (i<(kids.length:Int))) (if 0≤i∧i<(kids.length:Int)then cond (decide ((kids.getD i.toNat (0,0,())).1≥0)) (if 0≤i∧i<(kids.length:Int)then if 0≤i∧i<(parts.length:Int)then if 0≤(kids.getD i.toNat (0,0,())).1∧(kids.getD i.toNat (0,0,())).1<(groups.length:Int)then nx1 g (af (i+1)) f f3 f4 (groups.set (((kids.getD i.toNat (0,0,())).1).toNat) ((parts.getD i.toNat (0,())).1,())) members kids parts else none else none else none) (if 0≤i∧i<(kids.length:Int)then if 0≤i∧i<(parts.length:Int)then if 0≤(kids.getD i.toNat (0,0,())).2.1∧(kids.getD i.toNat (0,0,())).2.1<(members.length:Int)then nx1 g (af (i+1)) f f3 f4 groups (members.set (((kids.getD i.toNat (0,0,())).2.1).toNat) ((parts.getD i.toNat (0,())).1,())) kids parts else none else none else none)else none) (ex1 g f f3 f4 groups members)
def A0(f0:Int)(f1 f2:List U7)(groups members:List (Int×Unit)):Option ((List (Int×Unit))×(List (Int×Unit))×Unit):=some (groups,members,())
def A1{R:Type}(nx0:vJ R)(g f:Int)(f3 f4:List U7)(groups members:List (Int×Unit)):Option R:=nx0 (af (g+1)) f f3 f4 groups members
def T(lo0:vJ ((List (Int×Unit))×(List (Int×Unit))×Unit))(f0:Int)(f1 f2:List U7):Option ((List (Int×Unit))×(List (Int×Unit))×Unit):=if 0≤(f1.length:Int)∧(8:Int)*(f1.length:Int)≤281474976710656∧(f1.length:Int)≤9223372036854775807 then if 0≤(f2.length:Int)∧(8:Int)*(f2.length:Int)≤281474976710656∧(f2.length:Int)≤9223372036854775807 then lo0 (-1) f0 f1 f2 (List.replicate (((f1.length:Int):Int)).toNat (0,())) (List.replicate (((f2.length:Int):Int)).toNat (0,()))else none else none
def K0{R:Type}(k0:Nat)(K:au R):au R:=bf 0 (bD (fun env ob=>zrc k0 [1,1,1,1] env ob (K)) (K))
def K1{R:Type}(k0:Nat)(K:au R):au R:=bf 2 (bf 1 (bD (fun env ob=>zrc k0 [1,1,1,0,1,0,0,1,1] env ob (K)) (K)))
def P0:au R:=vz 0 [1,4,5,6] [4,5] (fun env ob=>iter 0 [1,4,5,6] [4,5] (zrc k0 [1,1,1,0,1,0,0]) k env ob K) K
def L0:vJ R:=fun g f f3 f4 groups members=>iter 0 [1,4,5,6] [4,5] (zrc k0 [1,1,1,0,1,0,0]) k [(1,.ptr 0 0 0 0),(4,.own 1),(5,.own 2),(6,.int .i64 g)] [.box [.int .i64 f,.sl aC f3,.sl aC f4],.arr [CT.int .i64] groups,.arr [CT.int .i64] members] K
def L1:F6 R:=fun g i f f3 f4 groups members kids parts=>iter 0 [1,4,5,6,9,11,12] [1,4,5,6] (zrc k0 [1,1,1,0,1,0,0,1,0,0,1,1,1,1,1,1,0,0]) k [(1,.ptr 0 0 0 0),(4,.own 1),(5,.own 2),(6,.int .i64 g),(9,.own 3),(11,.own 4),(12,.int .i64 i)] [.box [.int .i64 f,.sl aC f3,.sl aC f4],.arr [CT.int .i64] groups,.arr [CT.int .i64] members,.arr eF kids,.arr [CT.int .i64] parts] K
def H0:PX R:=fun groups members=>K (.exit 0) [(4,.own 0),(5,.own 1)] [.arr [CT.int .i64] groups,.arr [CT.int .i64] members]
def H1:vJ R:=fun g f f3 f4 groups members=>K (.exit 2) [(1,.ptr 0 0 0 0),(4,.own 1),(5,.own 2),(6,.int .i64 g)] [.box [.int .i64 f,.sl aC f3,.sl aC f4],.arr [CT.int .i64] groups,.arr [CT.int .i64] members]
theorem zs0:L0 k0 (k+1) K=R0 (H0 K) (L1 k0 k0 (K1 k0 (P0 k0 k K))):=by kernel_rfl
theorem zs1:L1 k0 (k+1) K=R1 (L1 k0 k K) (H1 K):=by kernel_rfl
theorem bW:H1 (K1 k0 (P0 k0 k K))=A1 (L0 k0 k K):=by kernel_rfl
def G1{R:Type}(k0:Nat)(hx1:vJ R):Nat→F6 R
 |0=>fun _ _ _ _ _ _ _ _ _=>none
 |k+1=>R1 (G1 k0 hx1 k) hx1
theorem dV:∀ k,L1 k0 k K=G1 k0 (H1 K) k:=bI rfl fun k ih=>by rw[zs1,G1];(try simp only[ih]);try rfl
def G0{R:Type}(k0:Nat)(hx0:PX R):Nat→vJ R
 |0=>fun _ _ _ _ _ _=>none
 |k+1=>R0 hx0 (G1 k0 (A1 (G0 k0 hx0 k)) k0)
theorem aO:∀ k,L0 k0 k K=G0 k0 (H0 K) k:=bI rfl fun k ih=>by rw[zs0,G0];(try simp only[ih,dV,bW]);try rfl
variable (f0:Int) (f1 f2:List U7)
def aB:au ((List (Int×Unit))×(List (Int×Unit))×Unit):=cu Tryz.prog [.tmp 2,.tmp 3] KI JX (f0,f1,f2,())
theorem aU:H0 (K0 k0 (aB f0 f1 f2))=A0 f0 f1 f2:=by kernel_rfl
def FF:Option ((List (Int×Unit))×(List (Int×Unit))×Unit):=T (G0 k0 (A0 f0 f1 f2) k0) f0 f1 f2
theorem aT:cO Tryz.prog (aS [(130,[],Lj),(131,[],Ll)]) aA k0 102 KI JX [] (f0,f1,f2,())=FF k0 f0 f1 f2:=Eq.trans (b:=T (L0 k0 k0 (K0 k0 (aB f0 f1 f2))) f0 f1 f2) (by kernel_rfl) (by rw[FF];(try simp only[dV,aO,aU]);try rfl)
def _root_.Go.Rv.DY:=fun x:U3=>FF (300+x.2.1.length+x.2.2.1.length) x.1 x.2.1 x.2.2.1
abbrev _root_.Go.Rv.LQ:aG:=⟨KI,JX,DY,[]⟩
theorem _root_.Go.Rv.abM:aF Dr Tryz.prog 102 LQ:=dw mix (.c abb (.c abd .nil)) (by kernel_rfl) fun x=>⟨aA,_,aT _ _ _ _⟩
end gB
abbrev IK:Is:=[.v true eG]
abbrev Ia:Os:=[(false,[CT.sl eF])]
namespace mG
def aA:Nat→List Nat×List Nat:=fun k=>if k=6 then([1,3,5,6],[3])else([],[])
def zrc{R:Type}(k0:Nat)(p:List Nat):Env→List Ob→au R→Option R:=bF Tryz.prog (aS [(58,[],C9),(102,[],LQ)]) 39 0 aA k0 (bV p (dm Tryz.prog 65))
def R0{R:Type}(nx0:F5 R)(ex0:PW R)(i f:Int)(f3 f4:List U7)(out:List U9)(members:List (Int×Unit)):Option R:=cond (decide (i<(f4.length:Int))) (if 0≤i∧i<(f4.length:Int)then if 0≤i∧i<(members.length:Int)then if out.length+[((rd (0,0,0,0,()) f4 i).1,(members.getD i.toNat (0,())).1,())].length≤maxRow then nx0 (af (i+1)) f f3 f4 (out++[((rd (0,0,0,0,()) f4 i).1,(members.getD i.toNat (0,())).1,())]) members else none else none else none) (ex0 out)
def A0(f0:Int)(f1 f2:List U7)(out:List U9):Option ((List U9)×Unit):=some (out,())
def T(lo0:F5 ((List U9)×Unit))(f0:Int)(f1 f2:List U7):Option ((List U9)×Unit):=(zu (f0,f1,f2,())).bind fun y1=>cond (!y1.1) (some (([]:List U9),())) ((DY (f0,f1,f2,())).bind fun y2=>lo0 0 f0 f1 f2 ([]:List U9) y2.2.1)
def K0{R:Type}(k0:Nat)(K:au R):au R:=bf 0 (bD (fun env ob=>zrc k0 [1,1,1,1,1] env ob (K)) (K))
def L0:F5 R:=fun i f f3 f4 out members=>iter 0 [1,3,5,6] [3] (zrc k0 [1,1,1,1,0,1,0,0]) k [(1,.ptr 0 0 0 0),(3,.own 1),(5,.own 2),(6,.int .i64 i)] [.box [.int .i64 f,.sl aC f3,.sl aC f4],.arr eF out,.arr [CT.int .i64] members] K
def H0:PW R:=fun out=>K (.exit 0) [(3,.own 0)] [.arr eF out]
theorem zs0:L0 k0 (k+1) K=R0 (L0 k0 k K) (H0 K):=by kernel_rfl
def G0{R:Type}(k0:Nat)(hx0:PW R):Nat→F5 R
 |0=>fun _ _ _ _ _ _=>none
 |k+1=>R0 (G0 k0 hx0 k) hx0
theorem aO:∀ k,L0 k0 k K=G0 k0 (H0 K) k:=bI rfl fun k ih=>by rw[zs0,G0];(try simp only[ih]);try rfl
variable (f0:Int) (f1 f2:List U7)
def aB:au ((List U9)×Unit):=cu Tryz.prog [.tmp 2] IK Ia (f0,f1,f2,())
theorem aU:H0 (K0 k0 (aB f0 f1 f2))=A0 f0 f1 f2:=by kernel_rfl
def FF:Option ((List U9)×Unit):=T (G0 k0 (A0 f0 f1 f2) k0) f0 f1 f2
theorem aT:cO Tryz.prog (aS [(58,[],C9),(102,[],LQ)]) aA k0 65 IK Ia [] (f0,f1,f2,())=FF k0 f0 f1 f2:=Eq.trans (b:=T (L0 k0 k0 (K0 k0 (aB f0 f1 f2))) f0 f1 f2) (by kernel_rfl) (by rw[FF];(try simp only[aO,aU]);try rfl)
def _root_.Go.Rv.vZ:=fun x:U3=>FF (300+x.2.1.length+x.2.2.1.length) x.1 x.2.1 x.2.2.1
abbrev _root_.Go.Rv.QJ:aG:=⟨IK,Ia,vZ,[]⟩
theorem _root_.Go.Rv.ZI:aF Dr Tryz.prog 65 QJ:=dw mix (.c JD (.c abM .nil)) (by kernel_rfl) fun x=>⟨aA,_,aT _ _ _ _⟩
end mG
def TG.T(a b:Int):Option (Int×Unit):=cond (decide (a>b)) (some (a,())) (some (b,()))
def LV:=fun x:U9=>TG.T x.1 x.2.1
abbrev aci:aG:=⟨[.v false [CT.int .i64],.v false [CT.int .i64]],[(false,[CT.int .i64])],LV,[]⟩
theorem abN:aF Dr Tryz.prog 103 aci:=aW mix .nil (by kernel_rfl) fun x=>by kernel_rfl
abbrev Ik:Is:=[.v false [CT.sl ct0],.v false [CT.int .i64],.v false [CT.int .i64]]
abbrev Ho:Os:=[(false,[CT.int .i64])]
namespace mr
def aA:Nat→List Nat×List Nat:=fun k=>if k=5 then([0,1,2,7,8],[7])else([],[])
def zrc{R:Type}(k0:Nat)(p:List Nat):Env→List Ob→au R→Option R:=bF Tryz.prog (aS [(59,[],vW)]) 43 0 aA k0 (bV p (dm Tryz.prog 104))
def R0{R:Type}(nx0:uf R)(ex0:Y2 R)(list2:List U8)(now2 id2 sum i:Int):Option R:=cond (decide (i<(list2.length:Int))) (if 0≤i∧i<(list2.length:Int)then cond (decide ((rd (0,0,0,()) list2 i).2.2.1>now2)) (if 0≤i∧i<(list2.length:Int)then cond ((rd (0,0,0,()) list2 i).1 != id2) (if 0≤i∧i<(list2.length:Int)then nx0 list2 now2 id2 (af (sum+(rd (0,0,0,()) list2 i).2.1)) (af (i+1))else none) (nx0 list2 now2 id2 sum (af (i+1)))else none) (nx0 list2 now2 id2 sum (af (i+1)))else none) (ex0 sum)
def A0(list:List U8)(now id:Int)(sum:Int):Option (Int×Unit):=some (sum,())
def T(lo0:uf (Int×Unit))(list:List U8)(now id:Int):Option (Int×Unit):=(vX (list,())).bind fun y1=>cond (!y1.1) (some (0,())) (lo0 list now id 0 0)
def K0{R:Type}(k0:Nat)(K:au R):au R:=bf 0 (bD (fun env ob=>zrc k0 [1,1,1,1] env ob (K)) (K))
def L0:uf R:=fun list2 now2 id2 sum i=>iter 0 [0,1,2,7,8] [7] (zrc k0 [1,1,1,0,1,0,0]) k [(0,.sl ct0 list2),(1,.int .i64 now2),(2,.int .i64 id2),(7,.int .i64 sum),(8,.int .i64 i)] [] K
def H0:Y2 R:=fun sum=>K (.exit 0) [(7,.int .i64 sum)] []
theorem zs0:L0 k0 (k+1) K=R0 (L0 k0 k K) (H0 K):=by kernel_rfl
def G0{R:Type}(k0:Nat)(hx0:Y2 R):Nat→uf R
 |0=>fun _ _ _ _ _=>none
 |k+1=>R0 (G0 k0 hx0 k) hx0
theorem aO:∀ k,L0 k0 k K=G0 k0 (H0 K) k:=bI rfl fun k ih=>by rw[zs0,G0];(try simp only[ih]);try rfl
variable (list:List U8) (now id:Int)
def aB:au (Int×Unit):=cu Tryz.prog [.tmp 6] Ik Ho (list,now,id,())
theorem aU:H0 (K0 k0 (aB list now id))=A0 list now id:=by kernel_rfl
def FF:Option (Int×Unit):=T (G0 k0 (A0 list now id) k0) list now id
theorem aT:cO Tryz.prog (aS [(59,[],vW)]) aA k0 104 Ik Ho [] (list,now,id,())=FF k0 list now id:=Eq.trans (b:=T (L0 k0 k0 (K0 k0 (aB list now id))) list now id) (by kernel_rfl) (by rw[FF];(try simp only[aO,aU]);try rfl)
def _root_.Go.Rv.Jo:=fun x:(List U8)×U9=>FF (300+x.1.length) x.1 x.2.1 x.2.2.1
abbrev _root_.Go.Rv.ZX:aG:=⟨Ik,Ho,Jo,[]⟩
theorem _root_.Go.Rv.Zu:aF Dr Tryz.prog 104 ZX:=dw mix (.c CB .nil) (by kernel_rfl) fun x=>⟨aA,_,aT _ _ _ _⟩
end mr
def RH.T(list:List U8)(now id cap:Int):Option (Int×Unit):=(vX (list,())).bind fun y1=>cond (!y1.1) (some (0,())) ((dX (cap,())).bind fun y2=>cond (!y2.1) (some (0,())) ((Jo (list,now,id,())).bind fun y3=>(LV (0,(af (cap - y3.1)),())).bind fun y4=>some (y4.1,())))
def Df:=fun x:(List U8)×U8=>RH.T x.1 x.2.1 x.2.2.1 x.2.2.2.1
abbrev QY:aG:=⟨[.v false [CT.sl ct0],.v false [CT.int .i64],.v false [CT.int .i64],.v false [CT.int .i64]],[(false,[CT.int .i64])],Df,[]⟩
theorem aae:aF Dr Tryz.prog 67 QY:=aW mix (.c CB (.c wB (.c abN (.c Zu .nil)))) (by kernel_rfl) fun x=>by kernel_rfl
abbrev JI:Is:=[.v false [CT.sl ct0],.v true ct0]
abbrev I8:Os:=[(false,[CT.sl ct0])]
namespace jU
def aA:Nat→List Nat×List Nat:=fun k=>if k=9 then([0,3,5,6,7,8],[3,5,6,7])else([],[])
def zrc{R:Type}(k0:Nat)(p:List Nat):Env→List Ob→au R→Option R:=bF Tryz.prog (aS [(59,[],vW),(101,[],zF)]) 74 0 aA k0 (bV p (dm Tryz.prog 68))
def R0{R:Type}(nx0:FZ R)(ex0:PU R)(list2:List U8)(done:Bool)(i l l3 l4:Int)(same out:List U8):Option R:=cond (decide (i<(list2.length:Int))) (cond (!done) (if 0≤i∧i<(list2.length:Int)then cond (decide ((rd (0,0,0,()) list2 i).1≥l)) (if out.length+[(l,l3,l4,())].length≤maxRow then if 0≤i∧i<(list2.length:Int)then cond ((rd (0,0,0,()) list2 i).1 != l) (if 0≤i∧i<(list2.length:Int)then if(out++[(l,l3,l4,())]).length+[((rd (0,0,0,()) list2 i).1,(rd (0,0,0,()) list2 i).2.1,(rd (0,0,0,()) list2 i).2.2.1,())].length≤maxRow then nx0 list2 true (af (i+1)) l l3 l4 same ((out++[(l,l3,l4,())])++[((rd (0,0,0,()) list2 i).1,(rd (0,0,0,()) list2 i).2.1,(rd (0,0,0,()) list2 i).2.2.1,())])else none else none) (nx0 list2 true (af (i+1)) l l3 l4 same (out++[(l,l3,l4,())]))else none else none) (if 0≤i∧i<(list2.length:Int)then cond ((rd (0,0,0,()) list2 i).1 != l) (if 0≤i∧i<(list2.length:Int)then if out.length+[((rd (0,0,0,()) list2 i).1,(rd (0,0,0,()) list2 i).2.1,(rd (0,0,0,()) list2 i).2.2.1,())].length≤maxRow then nx0 list2 done (af (i+1)) l l3 l4 same (out++[((rd (0,0,0,()) list2 i).1,(rd (0,0,0,()) list2 i).2.1,(rd (0,0,0,()) list2 i).2.2.1,())])else none else none) (nx0 list2 done (af (i+1)) l l3 l4 same out)else none)else none) (if 0≤i∧i<(list2.length:Int)then cond ((rd (0,0,0,()) list2 i).1 != l) (if 0≤i∧i<(list2.length:Int)then if out.length+[((rd (0,0,0,()) list2 i).1,(rd (0,0,0,()) list2 i).2.1,(rd (0,0,0,()) list2 i).2.2.1,())].length≤maxRow then nx0 list2 done (af (i+1)) l l3 l4 same (out++[((rd (0,0,0,()) list2 i).1,(rd (0,0,0,()) list2 i).2.1,(rd (0,0,0,()) list2 i).2.2.1,())])else none else none) (nx0 list2 done (af (i+1)) l l3 l4 same out)else none)) (ex0 done l l3 l4 same out)
def A0(list:List U8)(l0 l1 l2:Int)(done:Bool)(l l3 l4:Int)(same out:List U8):Option ((List U8)×Unit):=cond (!done) (if out.length+[(l,l3,l4,())].length≤maxRow then cond (decide (((out++[(l,l3,l4,())]).length:Int)>60)) (some (same,())) (some ((out++[(l,l3,l4,())]),()))else none) (cond (decide ((out.length:Int)>60)) (some (same,())) (some (out,())))
def T(lo0:FZ ((List U8)×Unit))(list:List U8)(l0 l1 l2:Int):Option ((List U8)×Unit):=cond (decide ((list.length:Int)>400)) (some (([]:List U8),())) (if([]:List U8).length+list.length≤maxRow then(vX (list,())).bind fun y1=>cond (!y1.1) (some ((([]:List U8)++list),())) ((zG (l0,l1,l2,())).bind fun y2=>cond (!y2.1) (some ((([]:List U8)++list),())) (lo0 list false 0 l0 l1 l2 (([]:List U8)++list) ([]:List U8)))else none)
def K0{R:Type}(k0:Nat)(K:au R):au R:=bf 0 (bD (fun env ob=>zrc k0 [1,1,1,1,1,1,1] env ob (K)) (K))
def L0:FZ R:=fun list2 done i l l3 l4 same out=>iter 0 [0,3,5,6,7,8] [3,5,6,7] (zrc k0 [1,1,1,1,1,1,0,1,0,0]) k [(0,.sl ct0 list2),(3,.ptr 0 0 0 0),(5,.own 1),(6,.own 2),(7,.bool done),(8,.int .i64 i)] [.box [.int .i64 l,.int .i64 l3,.int .i64 l4],.arr ct0 same,.arr ct0 out] K
def H0:PU R:=fun done l l3 l4 same out=>K (.exit 0) [(3,.ptr 0 0 0 0),(5,.own 1),(6,.own 2),(7,.bool done)] [.box [.int .i64 l,.int .i64 l3,.int .i64 l4],.arr ct0 same,.arr ct0 out]
theorem zs0:L0 k0 (k+1) K=R0 (L0 k0 k K) (H0 K):=by kernel_rfl
def G0{R:Type}(k0:Nat)(hx0:PU R):Nat→FZ R
 |0=>fun _ _ _ _ _ _ _ _=>none
 |k+1=>R0 (G0 k0 hx0 k) hx0
theorem aO:∀ k,L0 k0 k K=G0 k0 (H0 K) k:=bI rfl fun k ih=>by rw[zs0,G0];(try simp only[ih]);try rfl
variable (list:List U8) (l0 l1 l2:Int)
def aB:au ((List U8)×Unit):=cu Tryz.prog [.tmp 4] JI I8 (list,l0,l1,l2,())
theorem aU:H0 (K0 k0 (aB list l0 l1 l2))=A0 list l0 l1 l2:=by kernel_rfl
def FF:Option ((List U8)×Unit):=T (G0 k0 (A0 list l0 l1 l2) k0) list l0 l1 l2
theorem aT:cO Tryz.prog (aS [(59,[],vW),(101,[],zF)]) aA k0 68 JI I8 [] (list,l0,l1,l2,())=FF k0 list l0 l1 l2:=Eq.trans (b:=T (L0 k0 k0 (K0 k0 (aB list l0 l1 l2))) list l0 l1 l2) (by kernel_rfl) (by rw[FF];(try simp only[aO,aU]);try rfl)
def _root_.Go.Rv.zH:=fun x:(List U8)×U8=>FF (300+x.1.length) x.1 x.2.1 x.2.2.1 x.2.2.2.1
abbrev _root_.Go.Rv.Rw:aG:=⟨JI,I8,zH,[]⟩
theorem _root_.Go.Rv.aaL:aF Dr Tryz.prog 68 Rw:=dw mix (.c CB (.c QM .nil)) (by kernel_rfl) fun x=>⟨aA,_,aT _ _ _ _ _⟩
end jU
abbrev KH:Is:=[.v true jf,.v true iK]
abbrev JW:Os:=[(true,sU)]
namespace jc
def dG:Tb:=[(32,[],KQ),(34,[],CZ),(36,[],KT),(38,[],zO),(64,[],wC),(65,[],QJ),(66,[],DW),(67,[],QY),(68,[],Rw)]
def aA:Nat→List Nat×List Nat:=fun k=>if k=16 then([2,3,4,5,8,9,10],[2,3,4,5,8])else([],[])
def zrc{R:Type}(k0:Nat)(p:List Nat):Env→List Ob→au R→Option R:=bF Tryz.prog (aS dG) 132 0 aA k0 (bV p (dm Tryz.prog 33))
def R0{R:Type}(nx0:FY R)(ex0:PS R)(share i s s7 s8 s9:Int)(s10 s11:List U7)(s12:List U8)(o o5 o6 o7 o8 t4x t4x2 t4x3 t4x4 t4x5 t4x6 t4x7 out out2 out3 out4:Int)(parts:List U9)(o52 o62:List U7)(o72:List U8):Option R:=cond (decide (i<(parts.length:Int))) (if 0≤i∧i<(parts.length:Int)then cond ((parts.getD i.toNat (0,0,())).1==o5) (if 0≤i∧i<(parts.length:Int)then nx0 ((parts.getD i.toNat (0,0,())).2.1) (af (i+1)) s s7 s8 s9 s10 s11 s12 o o5 o6 o7 o8 t4x t4x2 t4x3 t4x4 t4x5 t4x6 t4x7 out out2 out3 out4 parts o52 o62 o72 else none) (nx0 share (af (i+1)) s s7 s8 s9 s10 s11 s12 o o5 o6 o7 o8 t4x t4x2 t4x3 t4x4 t4x5 t4x6 t4x7 out out2 out3 out4 parts o52 o62 o72)else none) (ex0 share s s7 s8 s9 s10 s11 s12 o o5 o6 o7 o8 t4x t4x2 t4x3 t4x4 t4x5 t4x6 t4x7 out out2 out3 out4 o52 o62 o72)
def A0(s0 s1 s2 s3:Int)(s4 s5:List U7)(s6:List U8)(o0 o1 o2 o3 o4:Int)(share s s7 s8 s9:Int)(s10 s11:List U7)(s12:List U8)(o o5 o6 o7 o8 t4x t4x2 t4x3 t4x4 t4x5 t4x6 t4x7 out out2 out3 out4:Int)(o42 o52:List U7)(o62:List U8):Option (U0):=(Df (s12,s8,o5,s9,())).bind fun y1=>(uF (share,y1.1,())).bind fun y2=>(zH (s12,o5,y2.1,(af (s8+s)),())).bind fun y3=>some (out,out2,out3,out4,o42,o52,y3.1,y2.1,(af (s8+s)),0,())
def T(lo0:FY (U0))(s0 s1 s2 s3:Int)(s4 s5:List U7)(s6:List U8)(o0 o1 o2 o3 o4:Int):Option (U0):=cond (decide (s2<(af (s1+s0)))) ((lQ (7,())).bind fun y1=>some (y1.1,y1.2.1,y1.2.2.1,y1.2.2.2.1,y1.2.2.2.2.1,y1.2.2.2.2.2.1,y1.2.2.2.2.2.2.1,y1.2.2.2.2.2.2.2.1,y1.2.2.2.2.2.2.2.2.1,y1.2.2.2.2.2.2.2.2.2.1,())) (cond (o2 != 0) ((jF (s3,s4,s5,o2,())).bind fun y2=>cond (decide (y2.1<0)) ((lQ (4,())).bind fun y3=>some (y3.1,y3.2.1,y3.2.2.1,y3.2.2.2.1,y3.2.2.2.2.1,y3.2.2.2.2.2.1,y3.2.2.2.2.2.2.1,y3.2.2.2.2.2.2.2.1,y3.2.2.2.2.2.2.2.2.1,y3.2.2.2.2.2.2.2.2.2.1,())) ((qU (s0,s1,s2,s3,s4,s5,s6,())).bind fun y4=>(qg (s3,s4,s5,o1,())).bind fun y5=>cond (decide (y5.1<0)) ((jS (s3,s4,s5,1,o1,o2,o3,o4,())).bind fun y6=>cond (y6.2.2.2.2.1 != 0) ((lQ (y6.2.2.2.2.1,())).bind fun y7=>some (y7.1,y7.2.1,y7.2.2.1,y7.2.2.2.1,y7.2.2.2.2.1,y7.2.2.2.2.2.1,y7.2.2.2.2.2.2.1,y7.2.2.2.2.2.2.2.1,y7.2.2.2.2.2.2.2.2.1,y7.2.2.2.2.2.2.2.2.2.1,())) ((vZ (y6.1,y6.2.1,y6.2.2.1,())).bind fun y8=>lo0 0 0 s0 s1 s2 s3 s4 s5 s6 o0 o1 o2 o3 o4 0 0 0 0 0 0 0 y4.1 y4.2.1 y4.2.2.1 y6.1 y8.1 y6.2.1 y6.2.2.1 y4.2.2.2.2.2.2.1)) (if 0≤y5.1∧y5.1<(y4.2.2.2.2.2.1.length:Int)then(vZ (y4.2.2.2.1,y4.2.2.2.2.1,(y4.2.2.2.2.2.1.set ((y5.1).toNat) (o1,o2,o3,o4,())),())).bind fun y9=>lo0 0 0 s0 s1 s2 s3 s4 s5 s6 o0 o1 o2 o3 o4 0 0 0 0 0 0 0 y4.1 y4.2.1 y4.2.2.1 y4.2.2.2.1 y9.1 y4.2.2.2.2.1 (y4.2.2.2.2.2.1.set ((y5.1).toNat) (o1,o2,o3,o4,())) y4.2.2.2.2.2.2.1 else none))) ((qU (s0,s1,s2,s3,s4,s5,s6,())).bind fun y10=>(qg (s3,s4,s5,o1,())).bind fun y11=>cond (decide (y11.1<0)) ((jS (s3,s4,s5,1,o1,o2,o3,o4,())).bind fun y12=>cond (y12.2.2.2.2.1 != 0) ((lQ (y12.2.2.2.2.1,())).bind fun y13=>some (y13.1,y13.2.1,y13.2.2.1,y13.2.2.2.1,y13.2.2.2.2.1,y13.2.2.2.2.2.1,y13.2.2.2.2.2.2.1,y13.2.2.2.2.2.2.2.1,y13.2.2.2.2.2.2.2.2.1,y13.2.2.2.2.2.2.2.2.2.1,())) ((vZ (y12.1,y12.2.1,y12.2.2.1,())).bind fun y14=>lo0 0 0 s0 s1 s2 s3 s4 s5 s6 o0 o1 o2 o3 o4 0 0 0 0 0 0 0 y10.1 y10.2.1 y10.2.2.1 y12.1 y14.1 y12.2.1 y12.2.2.1 y10.2.2.2.2.2.2.1)) (if 0≤y11.1∧y11.1<(y10.2.2.2.2.2.1.length:Int)then(vZ (y10.2.2.2.1,y10.2.2.2.2.1,(y10.2.2.2.2.2.1.set ((y11.1).toNat) (o1,o2,o3,o4,())),())).bind fun y15=>lo0 0 0 s0 s1 s2 s3 s4 s5 s6 o0 o1 o2 o3 o4 0 0 0 0 0 0 0 y10.1 y10.2.1 y10.2.2.1 y10.2.2.2.1 y15.1 y10.2.2.2.2.1 (y10.2.2.2.2.2.1.set ((y11.1).toNat) (o1,o2,o3,o4,())) y10.2.2.2.2.2.2.1 else none)))
def K0{R:Type}(k0:Nat)(K:au R):au R:=bf 0 (bD (fun env ob=>zrc k0 [1,1,1,1,1,1,1,1,1] env ob (K)) (K))
def L0:FY R:=fun share i s s7 s8 s9 s10 s11 s12 o o5 o6 o7 o8 t4x t4x2 t4x3 t4x4 t4x5 t4x6 t4x7 out out2 out3 out4 parts o52 o62 o72=>iter 0 [2,3,4,5,8,9,10] [2,3,4,5,8] (zrc k0 [1,1,1,1,1,1,1,1,0,1,0,0]) k [(2,.ptr 0 0 0 0),(3,.ptr 1 0 0 0),(4,.ptr 2 0 0 0),(5,.ptr 3 0 0 0),(8,.int .i64 share),(9,.own 4),(10,.int .i64 i)] [.box [.int .i64 s,.int .i64 s7,.int .i64 s8,.int .i64 s9,.sl aC s10,.sl aC s11,.sl ct0 s12],.box [.int .i64 o,.int .i64 o5,.int .i64 o6,.int .i64 o7,.int .i64 o8],.box [.int .i64 t4x,.int .i64 t4x2,.int .i64 t4x3,.int .i64 t4x4,.nils,.nils,.nils,.int .i64 t4x5,.int .i64 t4x6,.int .i64 t4x7],.box [.int .i64 out,.int .i64 out2,.int .i64 out3,.int .i64 out4,.own 5,.own 6,.own 7],.arr eF parts,.arr aC o52,.arr aC o62,.arr ct0 o72] K
def H0:PS R:=fun share s s7 s8 s9 s10 s11 s12 o o5 o6 o7 o8 t4x t4x2 t4x3 t4x4 t4x5 t4x6 t4x7 out out2 out3 out4 o42 o52 o62=>K (.exit 0) [(2,.ptr 0 0 0 0),(3,.ptr 1 0 0 0),(4,.ptr 2 0 0 0),(5,.ptr 3 0 0 0),(8,.int .i64 share)] [.box [.int .i64 s,.int .i64 s7,.int .i64 s8,.int .i64 s9,.sl aC s10,.sl aC s11,.sl ct0 s12],.box [.int .i64 o,.int .i64 o5,.int .i64 o6,.int .i64 o7,.int .i64 o8],.box [.int .i64 t4x,.int .i64 t4x2,.int .i64 t4x3,.int .i64 t4x4,.nils,.nils,.nils,.int .i64 t4x5,.int .i64 t4x6,.int .i64 t4x7],.box [.int .i64 out,.int .i64 out2,.int .i64 out3,.int .i64 out4,.own 4,.own 5,.own 6],.arr aC o42,.arr aC o52,.arr ct0 o62]
theorem zs0:L0 k0 (k+1) K=R0 (L0 k0 k K) (H0 K):=by kernel_rfl
def G0{R:Type}(k0:Nat)(hx0:PS R):Nat→FY R
 |0=>fun _ _ _ _ _ _ _ _ _ _ _ _ _ _ _ _ _ _ _ _ _ _ _ _ _ _ _ _ _=>none
 |k+1=>R0 (G0 k0 hx0 k) hx0
theorem aO:∀ k,L0 k0 k K=G0 k0 (H0 K) k:=bI rfl fun k ih=>by rw[zs0,G0];(try simp only[ih]);try rfl
variable (s0 s1 s2 s3:Int) (s4 s5:List U7) (s6:List U8) (o0 o1 o2 o3 o4:Int)
def aB:au (U0):=cu Tryz.prog [.cell 4 40] KH JW (s0,s1,s2,s3,s4,s5,s6,o0,o1,o2,o3,o4,())
theorem aU:H0 (K0 k0 (aB s0 s1 s2 s3 s4 s5 s6 o0 o1 o2 o3 o4))=A0 s0 s1 s2 s3 s4 s5 s6 o0 o1 o2 o3 o4:=by kernel_rfl
def FF:Option (U0):=T (G0 k0 (A0 s0 s1 s2 s3 s4 s5 s6 o0 o1 o2 o3 o4) k0) s0 s1 s2 s3 s4 s5 s6 o0 o1 o2 o3 o4
theorem aT:cO Tryz.prog (aS dG) aA k0 33 KH JW [] (s0,s1,s2,s3,s4,s5,s6,o0,o1,o2,o3,o4,())=FF k0 s0 s1 s2 s3 s4 s5 s6 o0 o1 o2 o3 o4:=Eq.trans (b:=T (L0 k0 k0 (K0 k0 (aB s0 s1 s2 s3 s4 s5 s6 o0 o1 o2 o3 o4))) s0 s1 s2 s3 s4 s5 s6 o0 o1 o2 o3 o4) (by kernel_rfl) (by rw[FF];(try simp only[aO,aU]);try rfl)
def _root_.Go.Rv.DX:=fun x:Int×Int×Int×Int×(List U7)×(List U7)×(List U8)×U5=>FF (300+x.2.2.2.2.1.length+x.2.2.2.2.2.1.length+x.2.2.2.2.2.2.1.length) x.1 x.2.1 x.2.2.1 x.2.2.2.1 x.2.2.2.2.1 x.2.2.2.2.2.1 x.2.2.2.2.2.2.1 x.2.2.2.2.2.2.2.1 x.2.2.2.2.2.2.2.2.1 x.2.2.2.2.2.2.2.2.2.1 x.2.2.2.2.2.2.2.2.2.2.1 x.2.2.2.2.2.2.2.2.2.2.2.1
abbrev _root_.Go.Rv.SK:aG:=⟨KH,JW,DX,[]⟩
theorem _root_.Go.Rv.abL:aF Dr Tryz.prog 33 SK:=dw mix (.c QL (.c CQ (.c QO (.c KE (.c wz (.c ZI (.c RJ (.c aae (.c aaL .nil))))))))) (by kernel_rfl) fun x=>⟨aA,_,aT _ _ _ _ _ _ _ _ _ _ _ _ _⟩
end jc
abbrev KJ:Is:=[.v false [CT.sl [CT.int .i64]],.v false [CT.int .i64]]
abbrev JY:Os:=[(false,[CT.bool])]
namespace nT
def aA:Nat→List Nat×List Nat:=fun k=>if k=2 then([0,1,5],[4])else([],[])
def zrc{R:Type}(k0:Nat)(p:List Nat):Env→List Ob→au R→Option R:=bF Tryz.prog (aS []) 18 0 aA k0 (bV p (dm Tryz.prog 69))
def R0{R:Type}(nx0:FX R)(ex0:gu R)(ex1:dI R)(l2:List (Int×Unit))(n2 i:Int):Option R:=cond (decide (i<(l2.length:Int))) (if 0≤i∧i<(l2.length:Int)then cond ((rd (0,()) l2 i).1==n2) (ex0 true) (nx0 l2 n2 (af (i+1)))else none) (ex1 ())
def A0(l:List (Int×Unit))(n:Int)(t4x:Bool):Option (Bool×Unit):=some (t4x,())
def A1(l:List (Int×Unit))(n:Int)(_u:Unit):Option (Bool×Unit):=some (false,())
def T(lo0:FX (Bool×Unit))(l:List (Int×Unit))(n:Int):Option (Bool×Unit):=lo0 l n 0
def K0{R:Type}(k0:Nat)(K:au R):au R:=bf 0 (bD (fun env ob=>zrc k0 [1,1] env ob (K)) (K))
def L0:FX R:=fun l2 n2 i=>iter 0 [0,1,5] [4] (zrc k0 [1,0,1,0,0]) k [(0,.sl [CT.int .i64] l2),(1,.int .i64 n2),(5,.int .i64 i)] [] K
def H0:gu R:=fun t4x=>K .ret [(4,.bool t4x)] []
def H1:dI R:=fun _=>K (.exit 0) [(4,.undef)] []
theorem zs0:L0 k0 (k+1) K=R0 (L0 k0 k K) (H0 K) (H1 K):=by kernel_rfl
def G0{R:Type}(k0:Nat)(hx0:gu R)(hx1:dI R):Nat→FX R
 |0=>fun _ _ _=>none
 |k+1=>R0 (G0 k0 hx0 hx1 k) hx0 hx1
theorem aO:∀ k,L0 k0 k K=G0 k0 (H0 K) (H1 K) k:=bI rfl fun k ih=>by rw[zs0,G0];(try simp only[ih]);try rfl
variable (l:List (Int×Unit)) (n:Int)
def aB:au (Bool×Unit):=cu Tryz.prog [.tmp 4] KJ JY (l,n,())
theorem aU:H0 (K0 k0 (aB l n))=A0 l n:=by kernel_rfl
theorem bW:H1 (K0 k0 (aB l n))=A1 l n:=by kernel_rfl
def FF:Option (Bool×Unit):=T (G0 k0 (A0 l n) (A1 l n) k0) l n
theorem aT:cO Tryz.prog (aS []) aA k0 69 KJ JY [] (l,n,())=FF k0 l n:=Eq.trans (b:=T (L0 k0 k0 (K0 k0 (aB l n))) l n) (by kernel_rfl) (by rw[FF];(try simp only[aO,aU,bW]);try rfl)
def _root_.Go.Rv.LW:=fun x:(List (Int×Unit))×Int×Unit=>FF (300+x.1.length) x.1 x.2.1
abbrev _root_.Go.Rv.LU:aG:=⟨KJ,JY,LW,[]⟩
theorem _root_.Go.Rv.abO:aF Dr Tryz.prog 69 LU:=dw mix .nil (by kernel_rfl) fun x=>⟨aA,_,aT _ _ _⟩
end nT
abbrev IJ:Is:=[.v true jf,.v false [CT.sl [CT.int .i64]]]
abbrev H9:Os:=[(true,jf)]
namespace oL
def aA:Nat→List Nat×List Nat:=fun k=>if k=5 then([1,2,4,5,6],[4,5])else([],[])
def zrc{R:Type}(k0:Nat)(p:List Nat):Env→List Ob→au R→Option R:=bF Tryz.prog (aS [(38,[],zO),(69,[],LU)]) 54 0 aA k0 (bV p (dm Tryz.prog 35))
def R0{R:Type}(nx0:FW R)(ex0:PO R)(gone2:List (Int×Unit))(i s s7 s8 s9:Int)(s10 s11:List U7)(s12:List U8)(t4x t4x2 t4x3 t4x4 out out2 out3 out4:Int)(o3 o4:List U7)(o5:List U8):Option R:=cond (decide (i<(s12.length:Int))) (if 0≤i∧i<(s12.length:Int)then(LW (gone2,(rd (0,0,0,()) s12 i).1,())).bind fun y1=>cond (!y1.1) (if 0≤i∧i<(s12.length:Int)then if o5.length+[((rd (0,0,0,()) s12 i).1,(rd (0,0,0,()) s12 i).2.1,(rd (0,0,0,()) s12 i).2.2.1,())].length≤maxRow then if 0≤i∧i<(s11.length:Int)then if o4.length+[((rd (0,0,0,0,()) s11 i).1,(rd (0,0,0,0,()) s11 i).2.1,(rd (0,0,0,0,()) s11 i).2.2.1,(rd (0,0,0,0,()) s11 i).2.2.2.1,())].length≤maxRow then nx0 gone2 (af (i+1)) s s7 s8 s9 s10 s11 s12 t4x t4x2 t4x3 t4x4 out out2 out3 out4 o3 (o4++[((rd (0,0,0,0,()) s11 i).1,(rd (0,0,0,0,()) s11 i).2.1,(rd (0,0,0,0,()) s11 i).2.2.1,(rd (0,0,0,0,()) s11 i).2.2.2.1,())]) (o5++[((rd (0,0,0,()) s12 i).1,(rd (0,0,0,()) s12 i).2.1,(rd (0,0,0,()) s12 i).2.2.1,())])else none else none else none else none) (nx0 gone2 (af (i+1)) s s7 s8 s9 s10 s11 s12 t4x t4x2 t4x3 t4x4 out out2 out3 out4 o3 o4 o5)else none) (ex0 t4x t4x2 t4x3 t4x4 out out2 out3 out4 o3 o4 o5)
def A0(s0 s1 s2 s3:Int)(s4 s5:List U7)(s6:List U8)(gone:List (Int×Unit))(t4x t4x2 t4x3 t4x4 out out2 out3 out4:Int)(o2 o3:List U7)(o4:List U8):Option (U1):=some (out,out2,out3,out4,o2,o3,o4,())
def T(lo0:FW (U1))(s0 s1 s2 s3:Int)(s4 s5:List U7)(s6:List U8)(gone:List (Int×Unit)):Option (U1):=(qU (s0,s1,s2,s3,s4,s5,s6,())).bind fun y1=>lo0 gone 0 s0 s1 s2 s3 s4 s5 s6 0 0 0 0 y1.1 y1.2.1 y1.2.2.1 y1.2.2.2.1 y1.2.2.2.2.1 ([]:List U7) ([]:List U8)
def K0{R:Type}(k0:Nat)(K:au R):au R:=bf 0 (bD (fun env ob=>zrc k0 [1,1,1,1,1] env ob (K)) (K))
def L0:FW R:=fun gone2 i s s7 s8 s9 s10 s11 s12 t4x t4x2 t4x3 t4x4 out out2 out3 out4 o3 o4 o5=>iter 0 [1,2,4,5,6] [4,5] (zrc k0 [1,1,1,1,0,1,0,0]) k [(1,.sl [CT.int .i64] gone2),(2,.ptr 0 0 0 0),(4,.ptr 1 0 0 0),(5,.ptr 2 0 0 0),(6,.int .i64 i)] [.box [.int .i64 s,.int .i64 s7,.int .i64 s8,.int .i64 s9,.sl aC s10,.sl aC s11,.sl ct0 s12],.box [.int .i64 t4x,.int .i64 t4x2,.int .i64 t4x3,.int .i64 t4x4,.nils,.nils,.nils],.box [.int .i64 out,.int .i64 out2,.int .i64 out3,.int .i64 out4,.own 3,.own 4,.own 5],.arr aC o3,.arr aC o4,.arr ct0 o5] K
def H0:PO R:=fun t4x t4x2 t4x3 t4x4 out out2 out3 out4 o2 o3 o4=>K (.exit 0) [(4,.ptr 0 0 0 0),(5,.ptr 1 0 0 0)] [.box [.int .i64 t4x,.int .i64 t4x2,.int .i64 t4x3,.int .i64 t4x4,.nils,.nils,.nils],.box [.int .i64 out,.int .i64 out2,.int .i64 out3,.int .i64 out4,.own 2,.own 3,.own 4],.arr aC o2,.arr aC o3,.arr ct0 o4]
theorem zs0:L0 k0 (k+1) K=R0 (L0 k0 k K) (H0 K):=by kernel_rfl
def G0{R:Type}(k0:Nat)(hx0:PO R):Nat→FW R
 |0=>fun _ _ _ _ _ _ _ _ _ _ _ _ _ _ _ _ _ _ _ _=>none
 |k+1=>R0 (G0 k0 hx0 k) hx0
theorem aO:∀ k,L0 k0 k K=G0 k0 (H0 K) k:=bI rfl fun k ih=>by rw[zs0,G0];(try simp only[ih]);try rfl
variable (s0 s1 s2 s3:Int) (s4 s5:List U7) (s6:List U8) (gone:List (Int×Unit))
def aB:au (U1):=cu Tryz.prog [.cell 4 38] IJ H9 (s0,s1,s2,s3,s4,s5,s6,gone,())
theorem aU:H0 (K0 k0 (aB s0 s1 s2 s3 s4 s5 s6 gone))=A0 s0 s1 s2 s3 s4 s5 s6 gone:=by kernel_rfl
def FF:Option (U1):=T (G0 k0 (A0 s0 s1 s2 s3 s4 s5 s6 gone) k0) s0 s1 s2 s3 s4 s5 s6 gone
theorem aT:cO Tryz.prog (aS [(38,[],zO),(69,[],LU)]) aA k0 35 IJ H9 [] (s0,s1,s2,s3,s4,s5,s6,gone,())=FF k0 s0 s1 s2 s3 s4 s5 s6 gone:=Eq.trans (b:=T (L0 k0 k0 (K0 k0 (aB s0 s1 s2 s3 s4 s5 s6 gone))) s0 s1 s2 s3 s4 s5 s6 gone) (by kernel_rfl) (by rw[FF];(try simp only[aO,aU]);try rfl)
def _root_.Go.Rv.zn:=fun x:Int×Int×Int×Int×(List U7)×(List U7)×(List U8)×(List (Int×Unit))×Unit=>FF (300+x.2.2.2.2.1.length+x.2.2.2.2.2.1.length+x.2.2.2.2.2.2.1.length+x.2.2.2.2.2.2.2.1.length) x.1 x.2.1 x.2.2.1 x.2.2.2.1 x.2.2.2.2.1 x.2.2.2.2.2.1 x.2.2.2.2.2.2.1 x.2.2.2.2.2.2.2.1
abbrev _root_.Go.Rv.QI:aG:=⟨IJ,H9,zn,[]⟩
theorem _root_.Go.Rv.ZH:aF Dr Tryz.prog 35 QI:=dw mix (.c KE (.c abO .nil)) (by kernel_rfl) fun x=>⟨aA,_,aT _ _ _ _ _ _ _ _ _⟩
end oL
abbrev JH:Is:=[.v true jf,.v true iK]
abbrev I7:Os:=[(true,sU)]
namespace iF
def dG:Tb:=[(30,[],QB),(31,[],TA),(32,[],KQ),(33,[],SK),(34,[],CZ),(35,[],QI),(36,[],KT),(37,[],RS),(38,[],zO)]
def aA:Nat→List Nat×List Nat:=fun k=>if k=15 then([2,4,5,6],[2,4,5])else if k=24 then([2,4,5,8],[2,4,5])else([],[])
def zrc{R:Type}(k0:Nat)(p:List Nat):Env→List Ob→au R→Option R:=bF Tryz.prog (aS dG) 129 0 aA k0 (bV p (dm Tryz.prog 7))
def R0{R:Type}(nx0:vI R)(ex0:yO R)(i s s7 s8 s9:Int)(s10 s11:List U7)(s12:List U8)(t4x t4x2 t4x3 t4x4 t4x5 t4x6 t4x7:Int)(gone:List (Int×Unit)):Option R:=cond (decide (i<(s12.length:Int))) (if 0≤i∧i<(s12.length:Int)then cond (decide ((rd (0,0,0,()) s12 i).2.2.1≤(af (s8+1)))) (if 0≤i∧i<(s12.length:Int)then if gone.length+[((rd (0,0,0,()) s12 i).1,())].length≤maxRow then nx0 (af (i+1)) s s7 s8 s9 s10 s11 s12 t4x t4x2 t4x3 t4x4 t4x5 t4x6 t4x7 (gone++[((rd (0,0,0,()) s12 i).1,())])else none else none) (nx0 (af (i+1)) s s7 s8 s9 s10 s11 s12 t4x t4x2 t4x3 t4x4 t4x5 t4x6 t4x7 gone)else none) (ex0 s s7 s8 s9 s10 s11 s12 t4x t4x2 t4x3 t4x4 t4x5 t4x6 t4x7 gone)
def R1{R:Type}(nx1:vI R)(ex1:yO R)(i s s7 s8 s9:Int)(s10 s11:List U7)(s12:List U8)(t4x t4x2 t4x3 t4x4 t4x5 t4x6 t4x7:Int)(gone:List (Int×Unit)):Option R:=cond (decide (i<(s12.length:Int))) (if 0≤i∧i<(s12.length:Int)then if gone.length+[((rd (0,0,0,()) s12 i).1,())].length≤maxRow then nx1 (af (i+1)) s s7 s8 s9 s10 s11 s12 t4x t4x2 t4x3 t4x4 t4x5 t4x6 t4x7 (gone++[((rd (0,0,0,()) s12 i).1,())])else none else none) (ex1 s s7 s8 s9 s10 s11 s12 t4x t4x2 t4x3 t4x4 t4x5 t4x6 t4x7 gone)
def A0(s0 s1 s2 s3:Int)(s4 s5:List U7)(s6:List U8)(o0 o1 o2 o3 o4:Int)(s s7 s8 s9:Int)(s10 s11:List U7)(s12:List U8)(t4x t4x2 t4x3 t4x4 t4x5 t4x6 t4x7:Int)(gone:List (Int×Unit)):Option (U0):=(zn (s,s7,s8,s9,s10,s11,s12,gone,())).bind fun y1=>some (y1.1,y1.2.1,(af (s8+1)),y1.2.2.2.1,y1.2.2.2.2.1,y1.2.2.2.2.2.1,y1.2.2.2.2.2.2.1,0,0,0,())
def A1(s0 s1 s2 s3:Int)(s4 s5:List U7)(s6:List U8)(o0 o1 o2 o3 o4:Int)(s s7 s8 s9:Int)(s10 s11:List U7)(s12:List U8)(t4x t4x2 t4x3 t4x4 t4x5 t4x6 t4x7:Int)(gone:List (Int×Unit)):Option (U0):=(zn (s,s7,s8,s9,s10,s11,s12,gone,())).bind fun y1=>some (y1.1,s8,y1.2.2.1,y1.2.2.2.1,y1.2.2.2.2.1,y1.2.2.2.2.2.1,y1.2.2.2.2.2.2.1,0,0,0,())
def T(lo0 lo1:vI (U0))(s0 s1 s2 s3:Int)(s4 s5:List U7)(s6:List U8)(o0 o1 o2 o3 o4:Int):Option (U0):=(Jm (s0,s1,s2,s3,s4,s5,s6,())).bind fun y1=>cond (!y1.1) ((lQ (1,())).bind fun y2=>some (y2.1,y2.2.1,y2.2.2.1,y2.2.2.2.1,y2.2.2.2.2.1,y2.2.2.2.2.2.1,y2.2.2.2.2.2.2.1,y2.2.2.2.2.2.2.2.1,y2.2.2.2.2.2.2.2.2.1,y2.2.2.2.2.2.2.2.2.2.1,())) ((Eb (o0,o1,o2,o3,o4,())).bind fun y3=>cond (!y3.1) ((lQ (1,())).bind fun y4=>some (y4.1,y4.2.1,y4.2.2.1,y4.2.2.2.1,y4.2.2.2.2.1,y4.2.2.2.2.2.1,y4.2.2.2.2.2.2.1,y4.2.2.2.2.2.2.2.1,y4.2.2.2.2.2.2.2.2.1,y4.2.2.2.2.2.2.2.2.2.1,())) (cond (o0==1) ((DX (s0,s1,s2,s3,s4,s5,s6,o0,o1,o2,o3,o4,())).bind fun y5=>some (y5.1,y5.2.1,y5.2.2.1,y5.2.2.2.1,y5.2.2.2.2.1,y5.2.2.2.2.2.1,y5.2.2.2.2.2.2.1,y5.2.2.2.2.2.2.2.1,y5.2.2.2.2.2.2.2.2.1,y5.2.2.2.2.2.2.2.2.2.1,())) (cond (o0==2) ((qg (s3,s4,s5,o1,())).bind fun y6=>cond (decide (y6.1<0)) ((lQ (4,())).bind fun y7=>some (y7.1,y7.2.1,y7.2.2.1,y7.2.2.2.1,y7.2.2.2.2.1,y7.2.2.2.2.2.1,y7.2.2.2.2.2.2.1,y7.2.2.2.2.2.2.2.1,y7.2.2.2.2.2.2.2.2.1,y7.2.2.2.2.2.2.2.2.2.1,())) ((zn (s0,s1,s2,s3,s4,s5,s6,[(o1,())],())).bind fun y8=>some (y8.1,y8.2.1,y8.2.2.1,y8.2.2.2.1,y8.2.2.2.2.1,y8.2.2.2.2.2.1,y8.2.2.2.2.2.2.1,0,0,0,()))) (cond (o0==4) (cond (s2==999000) ((lQ (9,())).bind fun y9=>some (y9.1,y9.2.1,y9.2.2.1,y9.2.2.2.1,y9.2.2.2.2.1,y9.2.2.2.2.2.1,y9.2.2.2.2.2.2.1,y9.2.2.2.2.2.2.2.1,y9.2.2.2.2.2.2.2.2.1,y9.2.2.2.2.2.2.2.2.2.1,())) (lo0 0 s0 s1 s2 s3 s4 s5 s6 0 0 0 0 0 0 0 ([]:List (Int×Unit)))) (cond (o0==5) (lo1 0 s0 s1 s2 s3 s4 s5 s6 0 0 0 0 0 0 0 ([]:List (Int×Unit))) ((oN (o0,o1,o2,o3,o4,())).bind fun y10=>(jS (s3,s4,s5,y10.1,y10.2.1,y10.2.2.1,y10.2.2.2.1,y10.2.2.2.2.1,())).bind fun y11=>cond (y11.2.2.2.2.1 != 0) ((lQ (y11.2.2.2.2.1,())).bind fun y12=>some (y12.1,y12.2.1,y12.2.2.1,y12.2.2.2.1,y12.2.2.2.2.1,y12.2.2.2.2.2.1,y12.2.2.2.2.2.2.1,y12.2.2.2.2.2.2.2.1,y12.2.2.2.2.2.2.2.2.1,y12.2.2.2.2.2.2.2.2.2.1,())) ((qU (s0,s1,s2,s3,s4,s5,s6,())).bind fun y13=>some (y13.1,y13.2.1,y13.2.2.1,y11.1,y11.2.1,y11.2.2.1,y13.2.2.2.2.2.2.1,0,0,0,()))))))))
def K0{R:Type}(k0:Nat)(K:au R):au R:=bf 1 (bD (fun env ob=>zrc k0 [1,1,1,0,1,0,1,1,1,1,1,0,1,1] env ob (bf 0 (bD (fun env ob=>zrc k0 [1,1,1,1] env ob (K)) (K)))) (bf 0 (bD (fun env ob=>zrc k0 [1,1,1,1] env ob (K)) (K))))
def K1{R:Type}(k0:Nat)(K:au R):au R:=bf 3 (bD (fun env ob=>zrc k0 [1,1,1,0,1,0,1,1,1,1,1,1,1,0,1] env ob (bf 0 (bD (fun env ob=>zrc k0 [1,1,1,1] env ob (K)) (K)))) (bf 0 (bD (fun env ob=>zrc k0 [1,1,1,1] env ob (K)) (K))))
def L0:vI R:=fun i s s7 s8 s9 s10 s11 s12 t4x t4x2 t4x3 t4x4 t4x5 t4x6 t4x7 gone=>iter 0 [2,4,5,6] [2,4,5] (zrc k0 [1,1,1,0,1,0,1,1,1,1,1,0,1,0,1,0,0]) k [(2,.ptr 0 0 0 0),(4,.ptr 1 0 0 0),(5,.own 2),(6,.int .i64 i)] [.box [.int .i64 s,.int .i64 s7,.int .i64 s8,.int .i64 s9,.sl aC s10,.sl aC s11,.sl ct0 s12],.box [.int .i64 t4x,.int .i64 t4x2,.int .i64 t4x3,.int .i64 t4x4,.nils,.nils,.nils,.int .i64 t4x5,.int .i64 t4x6,.int .i64 t4x7],.arr [CT.int .i64] gone] K
def L1:vI R:=fun i s s7 s8 s9 s10 s11 s12 t4x t4x2 t4x3 t4x4 t4x5 t4x6 t4x7 gone=>iter 0 [2,4,5,8] [2,4,5] (zrc k0 [1,1,1,0,1,0,1,1,1,1,1,1,1,0,0,1,0,0]) k [(2,.ptr 0 0 0 0),(4,.ptr 1 0 0 0),(5,.own 2),(8,.int .i64 i)] [.box [.int .i64 s,.int .i64 s7,.int .i64 s8,.int .i64 s9,.sl aC s10,.sl aC s11,.sl ct0 s12],.box [.int .i64 t4x,.int .i64 t4x2,.int .i64 t4x3,.int .i64 t4x4,.nils,.nils,.nils,.int .i64 t4x5,.int .i64 t4x6,.int .i64 t4x7],.arr [CT.int .i64] gone] K
def H0:yO R:=fun s s7 s8 s9 s10 s11 s12 t4x t4x2 t4x3 t4x4 t4x5 t4x6 t4x7 gone=>K (.exit 1) [(2,.ptr 0 0 0 0),(4,.ptr 1 0 0 0),(5,.own 2)] [.box [.int .i64 s,.int .i64 s7,.int .i64 s8,.int .i64 s9,.sl aC s10,.sl aC s11,.sl ct0 s12],.box [.int .i64 t4x,.int .i64 t4x2,.int .i64 t4x3,.int .i64 t4x4,.nils,.nils,.nils,.int .i64 t4x5,.int .i64 t4x6,.int .i64 t4x7],.arr [CT.int .i64] gone]
def H1:yO R:=fun s s7 s8 s9 s10 s11 s12 t4x t4x2 t4x3 t4x4 t4x5 t4x6 t4x7 gone=>K (.exit 3) [(2,.ptr 0 0 0 0),(4,.ptr 1 0 0 0),(5,.own 2)] [.box [.int .i64 s,.int .i64 s7,.int .i64 s8,.int .i64 s9,.sl aC s10,.sl aC s11,.sl ct0 s12],.box [.int .i64 t4x,.int .i64 t4x2,.int .i64 t4x3,.int .i64 t4x4,.nils,.nils,.nils,.int .i64 t4x5,.int .i64 t4x6,.int .i64 t4x7],.arr [CT.int .i64] gone]
theorem zs0:L0 k0 (k+1) K=R0 (L0 k0 k K) (H0 K):=by kernel_rfl
theorem zs1:L1 k0 (k+1) K=R1 (L1 k0 k K) (H1 K):=by kernel_rfl
def G0{R:Type}(k0:Nat)(hx0:yO R):Nat→vI R
 |0=>fun _ _ _ _ _ _ _ _ _ _ _ _ _ _ _ _=>none
 |k+1=>R0 (G0 k0 hx0 k) hx0
theorem aO:∀ k,L0 k0 k K=G0 k0 (H0 K) k:=bI rfl fun k ih=>by rw[zs0,G0];(try simp only[ih]);try rfl
def G1{R:Type}(k0:Nat)(hx1:yO R):Nat→vI R
 |0=>fun _ _ _ _ _ _ _ _ _ _ _ _ _ _ _ _=>none
 |k+1=>R1 (G1 k0 hx1 k) hx1
theorem dV:∀ k,L1 k0 k K=G1 k0 (H1 K) k:=bI rfl fun k ih=>by rw[zs1,G1];(try simp only[ih,aO]);try rfl
variable (s0 s1 s2 s3:Int) (s4 s5:List U7) (s6:List U8) (o0 o1 o2 o3 o4:Int)
def aB:au (U0):=cu Tryz.prog [.cell 4 40] JH I7 (s0,s1,s2,s3,s4,s5,s6,o0,o1,o2,o3,o4,())
theorem aU:H0 (K0 k0 (aB s0 s1 s2 s3 s4 s5 s6 o0 o1 o2 o3 o4))=A0 s0 s1 s2 s3 s4 s5 s6 o0 o1 o2 o3 o4:=by kernel_rfl
theorem bW:H1 (K1 k0 (aB s0 s1 s2 s3 s4 s5 s6 o0 o1 o2 o3 o4))=A1 s0 s1 s2 s3 s4 s5 s6 o0 o1 o2 o3 o4:=by kernel_rfl
def FF:Option (U0):=T (G0 k0 (A0 s0 s1 s2 s3 s4 s5 s6 o0 o1 o2 o3 o4) k0) (G1 k0 (A1 s0 s1 s2 s3 s4 s5 s6 o0 o1 o2 o3 o4) k0) s0 s1 s2 s3 s4 s5 s6 o0 o1 o2 o3 o4
theorem aT:cO Tryz.prog (aS dG) aA k0 7 JH I7 [] (s0,s1,s2,s3,s4,s5,s6,o0,o1,o2,o3,o4,())=FF k0 s0 s1 s2 s3 s4 s5 s6 o0 o1 o2 o3 o4:=Eq.trans (b:=T (L0 k0 k0 (K0 k0 (aB s0 s1 s2 s3 s4 s5 s6 o0 o1 o2 o3 o4))) (L1 k0 k0 (K1 k0 (aB s0 s1 s2 s3 s4 s5 s6 o0 o1 o2 o3 o4))) s0 s1 s2 s3 s4 s5 s6 o0 o1 o2 o3 o4) (by kernel_rfl) (by rw[FF];(try simp only[aO,dV,aU,bW]);try rfl)
def _root_.Go.Rv.wF:=fun x:Int×Int×Int×Int×(List U7)×(List U7)×(List U8)×U5=>FF (300+x.2.2.2.2.1.length+x.2.2.2.2.2.1.length+x.2.2.2.2.2.2.1.length) x.1 x.2.1 x.2.2.1 x.2.2.2.1 x.2.2.2.2.1 x.2.2.2.2.2.1 x.2.2.2.2.2.2.1 x.2.2.2.2.2.2.2.1 x.2.2.2.2.2.2.2.2.1 x.2.2.2.2.2.2.2.2.2.1 x.2.2.2.2.2.2.2.2.2.2.1 x.2.2.2.2.2.2.2.2.2.2.2.1
abbrev _root_.Go.Rv.abv:aG:=⟨JH,I7,wF,[]⟩
theorem _root_.Go.Rv.aaJ:aF Dr Tryz.prog 7 abv:=dw mix (.c Zt (.c ace (.c QL (.c abL (.c CQ (.c ZH (.c QO (.c Q9 (.c KE .nil))))))))) (by kernel_rfl) fun x=>⟨aA,_,aT _ _ _ _ _ _ _ _ _ _ _ _ _⟩
end iF
def acF.T(a0 a1 a2 a3:Int):Option (U7):=some (a0,a1,a2,a3,())
def LD:=fun x:U7=>acF.T x.1 x.2.1 x.2.2.1 x.2.2.2.1
abbrev Lr:aG:=⟨[.v true aC],[(true,aC)],LD,[]⟩
theorem abk:aF Dr Tryz.prog 105 Lr:=aW mix .nil (by kernel_rfl) fun x=>by kernel_rfl
end Go.Rv
end
