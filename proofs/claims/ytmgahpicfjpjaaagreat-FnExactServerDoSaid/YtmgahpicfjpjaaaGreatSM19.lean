/- What functions come to on pure values (printed by a program of ours). -/
import Derived.Test.YtmgahpicfjpjaaaGreatSM18
set_option linter.unusedVariables false
set_option linter.unusedSimpArgs false
set_option linter.unusedSectionVars false
set_option maxRecDepth 100000
noncomputable section
namespace Go.Rv
open Go.Proofs
variable {Dr:Kn} {R:Type} (k0 k:Nat) (K:au R)
abbrev JK:Is:=[.v false [CT.sl aC]]
abbrev Ja:Os:=[(false,[CT.sl aC])]
namespace oQ
def aA:Nat→List Nat×List Nat:=fun k=>if k=3 then([0,3,4],[3])else([],[])
def zrc{R:Type}(k0:Nat)(p:List Nat):Env→List Ob→au R→Option R:=bF Tryz.prog (aS [(105,[],Lr)]) 23 0 aA k0 (bV p (dm Tryz.prog 75))
def R0{R:Type}(nx0:tC R)(ex0:yN R)(a2:List U7)(i:Int)(out:List U7):Option R:=cond (decide (i<(a2.length:Int))) (if 0≤i∧i<(a2.length:Int)then(LD ((rd (0,0,0,0,()) a2 i).1,(rd (0,0,0,0,()) a2 i).2.1,(rd (0,0,0,0,()) a2 i).2.2.1,(rd (0,0,0,0,()) a2 i).2.2.2.1,())).bind fun y1=>if 0≤i∧i<(out.length:Int)then nx0 a2 (af (i+1)) (out.set i.toNat (y1.1,y1.2.1,y1.2.2.1,y1.2.2.2.1,()))else none else none) (ex0 out)
def A0(a:List U7)(out:List U7):Option ((List U7)×Unit):=some (out,())
def T(lo0:tC ((List U7)×Unit))(a:List U7):Option ((List U7)×Unit):=if 0≤(a.length:Int)∧(32:Int)*(a.length:Int)≤281474976710656∧(a.length:Int)≤9223372036854775807 then lo0 a 0 (List.replicate (((a.length:Int):Int)).toNat (0,0,0,0,()))else none
def K0{R:Type}(k0:Nat)(K:au R):au R:=bf 0 (bD (fun env ob=>zrc k0 [1,1,1] env ob (K)) (K))
def L0:tC R:=fun a2 i out=>iter 0 [0,3,4] [3] (zrc k0 [1,1,0,1,0,0]) k [(0,.sl aC a2),(3,.own 0),(4,.int .i64 i)] [.arr aC out] K
def H0:yN R:=fun out=>K (.exit 0) [(3,.own 0)] [.arr aC out]
theorem zs0:L0 k0 (k+1) K=R0 (L0 k0 k K) (H0 K):=by kernel_rfl
def G0{R:Type}(k0:Nat)(hx0:yN R):Nat→tC R
 |0=>fun _ _ _=>none
 |k+1=>R0 (G0 k0 hx0 k) hx0
theorem aO:∀ k,L0 k0 k K=G0 k0 (H0 K) k:=bI rfl fun k ih=>by rw[zs0,G0];(try simp only[ih]);try rfl
variable (a:List U7)
def aB:au ((List U7)×Unit):=cu Tryz.prog [.tmp 2] JK Ja (a,())
theorem aU:H0 (K0 k0 (aB a))=A0 a:=by kernel_rfl
def FF:Option ((List U7)×Unit):=T (G0 k0 (A0 a) k0) a
theorem aT:cO Tryz.prog (aS [(105,[],Lr)]) aA k0 75 JK Ja [] (a,())=FF k0 a:=Eq.trans (b:=T (L0 k0 k0 (K0 k0 (aB a))) a) (by kernel_rfl) (by rw[FF];(try simp only[aO,aU]);try rfl)
def _root_.Go.Rv.KZ:=fun x:(List U7)×Unit=>FF (300+x.1.length) x.1
abbrev _root_.Go.Rv.aby:aG:=⟨JK,Ja,KZ,[]⟩
theorem _root_.Go.Rv.aaP:aF Dr Tryz.prog 75 aby:=dw mix (.c abk .nil) (by kernel_rfl) fun x=>⟨aA,_,aT _ _⟩
end oQ
def acg.T(a0 a1 a2 a3:Int):Option (U7):=some (a0,a1,a2,a3,())
def KX:=fun x:U7=>acg.T x.1 x.2.1 x.2.2.1 x.2.2.2.1
abbrev KU:aG:=⟨[.v true aC],[(true,aC)],KX,[]⟩
theorem aaN:aF Dr Tryz.prog 106 KU:=aW mix .nil (by kernel_rfl) fun x=>by kernel_rfl
abbrev Jf:Is:=[.v false [CT.sl aC]]
abbrev IB:Os:=[(false,[CT.sl aC])]
namespace oM
def aA:Nat→List Nat×List Nat:=fun k=>if k=3 then([0,3,4],[3])else([],[])
def zrc{R:Type}(k0:Nat)(p:List Nat):Env→List Ob→au R→Option R:=bF Tryz.prog (aS [(106,[],KU)]) 23 0 aA k0 (bV p (dm Tryz.prog 76))
def R0{R:Type}(nx0:tC R)(ex0:yN R)(a2:List U7)(i:Int)(out:List U7):Option R:=cond (decide (i<(a2.length:Int))) (if 0≤i∧i<(a2.length:Int)then(KX ((rd (0,0,0,0,()) a2 i).1,(rd (0,0,0,0,()) a2 i).2.1,(rd (0,0,0,0,()) a2 i).2.2.1,(rd (0,0,0,0,()) a2 i).2.2.2.1,())).bind fun y1=>if 0≤i∧i<(out.length:Int)then nx0 a2 (af (i+1)) (out.set i.toNat (y1.1,y1.2.1,y1.2.2.1,y1.2.2.2.1,()))else none else none) (ex0 out)
def A0(a:List U7)(out:List U7):Option ((List U7)×Unit):=some (out,())
def T(lo0:tC ((List U7)×Unit))(a:List U7):Option ((List U7)×Unit):=if 0≤(a.length:Int)∧(32:Int)*(a.length:Int)≤281474976710656∧(a.length:Int)≤9223372036854775807 then lo0 a 0 (List.replicate (((a.length:Int):Int)).toNat (0,0,0,0,()))else none
def K0{R:Type}(k0:Nat)(K:au R):au R:=bf 0 (bD (fun env ob=>zrc k0 [1,1,1] env ob (K)) (K))
def L0:tC R:=fun a2 i out=>iter 0 [0,3,4] [3] (zrc k0 [1,1,0,1,0,0]) k [(0,.sl aC a2),(3,.own 0),(4,.int .i64 i)] [.arr aC out] K
def H0:yN R:=fun out=>K (.exit 0) [(3,.own 0)] [.arr aC out]
theorem zs0:L0 k0 (k+1) K=R0 (L0 k0 k K) (H0 K):=by kernel_rfl
def G0{R:Type}(k0:Nat)(hx0:yN R):Nat→tC R
 |0=>fun _ _ _=>none
 |k+1=>R0 (G0 k0 hx0 k) hx0
theorem aO:∀ k,L0 k0 k K=G0 k0 (H0 K) k:=bI rfl fun k ih=>by rw[zs0,G0];(try simp only[ih]);try rfl
variable (a:List U7)
def aB:au ((List U7)×Unit):=cu Tryz.prog [.tmp 2] Jf IB (a,())
theorem aU:H0 (K0 k0 (aB a))=A0 a:=by kernel_rfl
def FF:Option ((List U7)×Unit):=T (G0 k0 (A0 a) k0) a
theorem aT:cO Tryz.prog (aS [(106,[],KU)]) aA k0 76 Jf IB [] (a,())=FF k0 a:=Eq.trans (b:=T (L0 k0 k0 (K0 k0 (aB a))) a) (by kernel_rfl) (by rw[FF];(try simp only[aO,aU]);try rfl)
def _root_.Go.Rv.Ky:=fun x:(List U7)×Unit=>FF (300+x.1.length) x.1
abbrev _root_.Go.Rv.aa3:aG:=⟨Jf,IB,Ky,[]⟩
theorem _root_.Go.Rv.aag:aF Dr Tryz.prog 76 aa3:=dw mix (.c aaN .nil) (by kernel_rfl) fun x=>⟨aA,_,aT _ _⟩
end oM
def TR.T(a0:Int)(a1 a2:List U7):Option (U3):=(KZ (a1,())).bind fun y1=>(Ky (a2,())).bind fun y2=>some (a0,y1.1,y2.1,())
def D5:=fun x:U3=>TR.T x.1 x.2.1 x.2.2.1
abbrev acj:aG:=⟨[.v true eG],[(true,eG)],D5,[]⟩
theorem abQ:aF Dr Tryz.prog 39 acj:=aW mix (.c aaP (.c aag .nil)) (by kernel_rfl) fun x=>by kernel_rfl
def acE.T(a0 a1 a2:Int):Option (U8):=some (a0,a1,a2,())
def LC:=fun x:U8=>acE.T x.1 x.2.1 x.2.2.1
abbrev Lp:aG:=⟨[.v true ct0],[(true,ct0)],LC,[]⟩
theorem abj:aF Dr Tryz.prog 77 Lp:=aW mix .nil (by kernel_rfl) fun x=>by kernel_rfl
abbrev JJ:Is:=[.v false [CT.sl ct0]]
abbrev I9:Os:=[(false,[CT.sl ct0])]
namespace oP
def aA:Nat→List Nat×List Nat:=fun k=>if k=3 then([0,3,4],[3])else([],[])
def zrc{R:Type}(k0:Nat)(p:List Nat):Env→List Ob→au R→Option R:=bF Tryz.prog (aS [(77,[],Lp)]) 23 0 aA k0 (bV p (dm Tryz.prog 40))
def R0{R:Type}(nx0:FV R)(ex0:yM R)(a2:List U8)(i:Int)(out:List U8):Option R:=cond (decide (i<(a2.length:Int))) (if 0≤i∧i<(a2.length:Int)then(LC ((rd (0,0,0,()) a2 i).1,(rd (0,0,0,()) a2 i).2.1,(rd (0,0,0,()) a2 i).2.2.1,())).bind fun y1=>if 0≤i∧i<(out.length:Int)then nx0 a2 (af (i+1)) (out.set i.toNat (y1.1,y1.2.1,y1.2.2.1,()))else none else none) (ex0 out)
def A0(a:List U8)(out:List U8):Option ((List U8)×Unit):=some (out,())
def T(lo0:FV ((List U8)×Unit))(a:List U8):Option ((List U8)×Unit):=if 0≤(a.length:Int)∧(24:Int)*(a.length:Int)≤281474976710656∧(a.length:Int)≤9223372036854775807 then lo0 a 0 (List.replicate (((a.length:Int):Int)).toNat (0,0,0,()))else none
def K0{R:Type}(k0:Nat)(K:au R):au R:=bf 0 (bD (fun env ob=>zrc k0 [1,1,1] env ob (K)) (K))
def L0:FV R:=fun a2 i out=>iter 0 [0,3,4] [3] (zrc k0 [1,1,0,1,0,0]) k [(0,.sl ct0 a2),(3,.own 0),(4,.int .i64 i)] [.arr ct0 out] K
def H0:yM R:=fun out=>K (.exit 0) [(3,.own 0)] [.arr ct0 out]
theorem zs0:L0 k0 (k+1) K=R0 (L0 k0 k K) (H0 K):=by kernel_rfl
def G0{R:Type}(k0:Nat)(hx0:yM R):Nat→FV R
 |0=>fun _ _ _=>none
 |k+1=>R0 (G0 k0 hx0 k) hx0
theorem aO:∀ k,L0 k0 k K=G0 k0 (H0 K) k:=bI rfl fun k ih=>by rw[zs0,G0];(try simp only[ih]);try rfl
variable (a:List U8)
def aB:au ((List U8)×Unit):=cu Tryz.prog [.tmp 2] JJ I9 (a,())
theorem aU:H0 (K0 k0 (aB a))=A0 a:=by kernel_rfl
def FF:Option ((List U8)×Unit):=T (G0 k0 (A0 a) k0) a
theorem aT:cO Tryz.prog (aS [(77,[],Lp)]) aA k0 40 JJ I9 [] (a,())=FF k0 a:=Eq.trans (b:=T (L0 k0 k0 (K0 k0 (aB a))) a) (by kernel_rfl) (by rw[FF];(try simp only[aO,aU]);try rfl)
def _root_.Go.Rv.KY:=fun x:(List U8)×Unit=>FF (300+x.1.length) x.1
abbrev _root_.Go.Rv.abx:aG:=⟨JJ,I9,KY,[]⟩
theorem _root_.Go.Rv.aaO:aF Dr Tryz.prog 40 abx:=dw mix (.c abj .nil) (by kernel_rfl) fun x=>⟨aA,_,aT _ _⟩
end oP
def Sv.T(a0 a1 a2 a3:Int)(a4 a5:List U7)(a6:List U8):Option (U1):=(D5 (a3,a4,a5,())).bind fun y1=>(KY (a6,())).bind fun y2=>some (a0,a1,a2,y1.1,y1.2.1,y1.2.2.1,y2.1,())
def uq:=fun x:U1=>Sv.T x.1 x.2.1 x.2.2.1 x.2.2.2.1 x.2.2.2.2.1 x.2.2.2.2.2.1 x.2.2.2.2.2.2.1
abbrev abw:aG:=⟨[.v true jf],[(true,jf)],uq,[]⟩
theorem aaM:aF Dr Tryz.prog 8 abw:=aW mix (.c abQ (.c aaO .nil)) (by kernel_rfl) fun x=>by kernel_rfl
def adD.T(a0 a1 a2 a3 a4:Int):Option (U5):=some (a0,a1,a2,a3,a4,())
def zZ:=fun x:U5=>adD.T x.1 x.2.1 x.2.2.1 x.2.2.2.1 x.2.2.2.2.1
abbrev acZ:aG:=⟨[.v true iK],[(true,iK)],zZ,[]⟩
theorem acB:aF Dr Tryz.prog 9 acZ:=aW mix .nil (by kernel_rfl) fun x=>by kernel_rfl
def WR.T(n low high:Int):Option (Bool×Unit):=cond (decide (low≤n)) (some ((decide (n≤high)),())) (some (false,()))
def ni:=fun x:U8=>WR.T x.1 x.2.1 x.2.2.1
abbrev Vf:aG:=⟨[.v false [CT.int .i64],.v false [CT.int .i64],.v false [CT.int .i64]],[(false,[CT.bool])],ni,[]⟩
theorem Ad:aF Dr Tryz.prog 78 Vf:=aW mix .nil (by kernel_rfl) fun x=>by kernel_rfl
def Ew.T(n:Int):Option (Bool×Unit):=(ni (n,1,1000000,())).bind fun y1=>some (y1.1,())
def fU:=fun x:Int×Unit=>Ew.T x.1
abbrev Ua:aG:=⟨[.v false [CT.int .i64]],[(false,[CT.bool])],fU,[]⟩
theorem Ea:aF Dr Tryz.prog 81 Ua:=aW mix (.c Ad .nil) (by kernel_rfl) fun x=>by kernel_rfl
def Ed.T(n:Int):Option (Bool×Unit):=(ni (n,0,1125899906842624,())).bind fun y1=>some (y1.1,())
def jb:=fun x:Int×Unit=>Ed.T x.1
abbrev SN:aG:=⟨[.v false [CT.int .i64]],[(false,[CT.bool])],jb,[]⟩
theorem Dx:aF Dr Tryz.prog 82 SN:=aW mix (.c Ad .nil) (by kernel_rfl) fun x=>by kernel_rfl
def DV.T(n:Int):Option (Bool×Unit):=(ni (n,1,1073741824,())).bind fun y1=>some (y1.1,())
def jT:=fun x:Int×Unit=>DV.T x.1
abbrev Rx:aG:=⟨[.v false [CT.int .i64]],[(false,[CT.bool])],jT,[]⟩
theorem J3:aF Dr Tryz.prog 83 Rx:=aW mix (.c Ad .nil) (by kernel_rfl) fun x=>by kernel_rfl
abbrev Jj:Is:=[.v true eG]
abbrev II:Os:=[(false,[CT.bool])]
namespace iD
def dG:Tb:=[(81,[],Ua),(82,[],SN),(83,[],Rx),(107,[],Qq)]
def aA:Nat→List Nat×List Nat:=fun k=>if k=4 then([1,25,26,27],[1,2])else if k=11 then([1,78,79,80],[2])else([],[])
def zrc{R:Type}(k0:Nat)(p:List Nat):Env→List Ob→au R→Option R:=bF Tryz.prog (aS dG) 125 0 aA k0 (bV p (dm Tryz.prog 79))
def R0{R:Type}(nx0:tu R)(ex0:yT R)(ex1:yS R)(t25x:List U7)(t26x t27x f:Int)(f3 f4:List U7):Option R:=cond (decide (t27x<t26x)) (if 0≤t27x∧t27x<(t25x.length:Int)then if 0≤t27x∧t27x≤(f3.length:Int)then(fU ((rd (0,0,0,0,()) t25x t27x).1,())).bind fun y1=>cond (!y1.1) (ex0 false f f3 f4) (cond (decide (t27x>0)) (if 0≤(af (t27x - 1))∧(af (t27x - 1))<(f3.length:Int)then cond (decide ((rd (0,0,0,0,()) f3 (af (t27x - 1))).1≥(rd (0,0,0,0,()) t25x t27x).1)) (ex0 false f f3 f4) ((mg (0,(f3.take (t27x.toNat)),[],(rd (0,0,0,0,()) t25x t27x).2.1,())).bind fun y2=>cond (!y2.1) (ex0 false f f3 f4) ((jb ((rd (0,0,0,0,()) t25x t27x).2.2.1,())).bind fun y3=>cond (!y3.1) (ex0 false f f3 f4) ((jT ((rd (0,0,0,0,()) t25x t27x).2.2.2.1,())).bind fun y4=>cond (!y4.1) (ex0 false f f3 f4) (nx0 t25x t26x (af (t27x+1)) f f3 f4))))else none) ((mg (0,(f3.take (t27x.toNat)),[],(rd (0,0,0,0,()) t25x t27x).2.1,())).bind fun y5=>cond (!y5.1) (ex0 false f f3 f4) ((jb ((rd (0,0,0,0,()) t25x t27x).2.2.1,())).bind fun y6=>cond (!y6.1) (ex0 false f f3 f4) ((jT ((rd (0,0,0,0,()) t25x t27x).2.2.2.1,())).bind fun y7=>cond (!y7.1) (ex0 false f f3 f4) (nx0 t25x t26x (af (t27x+1)) f f3 f4)))))else none else none) (ex1 f f3 f4)
def R1{R:Type}(nx1:tu R)(ex2:gu R)(ex3:dI R)(t78x:List U7)(t79x t80x f:Int)(f3 f4:List U7):Option R:=cond (decide (t80x<t79x)) (if 0≤t80x∧t80x<(t78x.length:Int)then(fU ((rd (0,0,0,0,()) t78x t80x).1,())).bind fun y1=>cond (!y1.1) (ex2 false) (cond (decide (t80x>0)) (if 0≤(af (t80x - 1))∧(af (t80x - 1))<(f4.length:Int)then cond (decide ((rd (0,0,0,0,()) f4 (af (t80x - 1))).1≥(rd (0,0,0,0,()) t78x t80x).1)) (ex2 false) ((mg (f,f3,f4,(rd (0,0,0,0,()) t78x t80x).2.1,())).bind fun y2=>cond (!y2.1) (ex2 false) ((jb ((rd (0,0,0,0,()) t78x t80x).2.2.1,())).bind fun y3=>cond (!y3.1) (ex2 false) ((jT ((rd (0,0,0,0,()) t78x t80x).2.2.2.1,())).bind fun y4=>cond (!y4.1) (ex2 false) (nx1 t78x t79x (af (t80x+1)) f f3 f4))))else none) ((mg (f,f3,f4,(rd (0,0,0,0,()) t78x t80x).2.1,())).bind fun y5=>cond (!y5.1) (ex2 false) ((jb ((rd (0,0,0,0,()) t78x t80x).2.2.1,())).bind fun y6=>cond (!y6.1) (ex2 false) ((jT ((rd (0,0,0,0,()) t78x t80x).2.2.2.1,())).bind fun y7=>cond (!y7.1) (ex2 false) (nx1 t78x t79x (af (t80x+1)) f f3 f4)))))else none) (ex3 ())
def A0(f0:Int)(f1 f2:List U7)(t2x:Bool)(f:Int)(f3 f4:List U7):Option (Bool×Unit):=some (t2x,())
def A1(lo1:tu (Bool×Unit))(f0:Int)(f1 f2:List U7)(f:Int)(f3 f4:List U7):Option (Bool×Unit):=lo1 f4 (f4.length:Int) 0 f f3 f4
def A2(f0:Int)(f1 f2:List U7)(t2x:Bool):Option (Bool×Unit):=some (t2x,())
def A3(f0:Int)(f1 f2:List U7)(_u:Unit):Option (Bool×Unit):=some (true,())
def T(lo0:tu (Bool×Unit))(f0:Int)(f1 f2:List U7):Option (Bool×Unit):=(jb (f0,())).bind fun y1=>cond (!y1.1) (some (false,())) (cond (decide ((f1.length:Int)>30)) (some (false,())) (cond (decide ((f2.length:Int)>60)) (some (false,())) (lo0 f1 (f1.length:Int) 0 f0 f1 f2)))
def K0{R:Type}(k0:Nat)(K:au R):au R:=bf 0 (bD (fun env ob=>zrc k0 [1,1,1] env ob (K)) (K))
def K1{R:Type}(k0:Nat)(K:au R):au R:=bf 2 (bD (fun env ob=>zrc k0 [1,1,1,1] env ob (K)) (K))
def L0:tu R:=fun t25x t26x t27x f f3 f4=>iter 0 [1,25,26,27] [1,2] (zrc k0 [1,1,0,1,0,0]) k [(1,.ptr 0 0 0 0),(25,.sl aC t25x),(26,.int .i64 t26x),(27,.int .i64 t27x)] [.box [.int .i64 f,.sl aC f3,.sl aC f4]] K
def L1:tu R:=fun t78x t79x t80x f f3 f4=>iter 0 [1,78,79,80] [2] (zrc k0 [1,1,1,0,1,0,0]) k [(1,.ptr 0 0 0 0),(78,.sl aC t78x),(79,.int .i64 t79x),(80,.int .i64 t80x)] [.box [.int .i64 f,.sl aC f3,.sl aC f4]] K
def H0:yT R:=fun t2x f f3 f4=>K .ret [(1,.ptr 0 0 0 0),(2,.bool t2x)] [.box [.int .i64 f,.sl aC f3,.sl aC f4]]
def H1:yS R:=fun f f3 f4=>K (.exit 0) [(1,.ptr 0 0 0 0),(2,.undef)] [.box [.int .i64 f,.sl aC f3,.sl aC f4]]
def H2:gu R:=fun t2x=>K .ret [(2,.bool t2x)] []
def H3:dI R:=fun _=>K (.exit 2) [(2,.undef)] []
theorem zs0:L0 k0 (k+1) K=R0 (L0 k0 k K) (H0 K) (H1 K):=by kernel_rfl
theorem zs1:L1 k0 (k+1) K=R1 (L1 k0 k K) (H2 K) (H3 K):=by kernel_rfl
def G0{R:Type}(k0:Nat)(hx0:yT R)(hx1:yS R):Nat→tu R
 |0=>fun _ _ _ _ _ _=>none
 |k+1=>R0 (G0 k0 hx0 hx1 k) hx0 hx1
theorem aO:∀ k,L0 k0 k K=G0 k0 (H0 K) (H1 K) k:=bI rfl fun k ih=>by rw[zs0,G0];(try simp only[ih]);try rfl
def G1{R:Type}(k0:Nat)(hx2:gu R)(hx3:dI R):Nat→tu R
 |0=>fun _ _ _ _ _ _=>none
 |k+1=>R1 (G1 k0 hx2 hx3 k) hx2 hx3
theorem dV:∀ k,L1 k0 k K=G1 k0 (H2 K) (H3 K) k:=bI rfl fun k ih=>by rw[zs1,G1];(try simp only[ih,aO]);try rfl
variable (f0:Int) (f1 f2:List U7)
def aB:au (Bool×Unit):=cu Tryz.prog [.tmp 2] Jj II (f0,f1,f2,())
theorem aU:H0 (K0 k0 (aB f0 f1 f2))=A0 f0 f1 f2:=by kernel_rfl
theorem bW:H1 (K0 k0 (aB f0 f1 f2))=A1 (L1 k0 k0 (K1 k0 (aB f0 f1 f2))) f0 f1 f2:=by kernel_rfl
theorem l7:H2 (K1 k0 (aB f0 f1 f2))=A2 f0 f1 f2:=by kernel_rfl
theorem qO:H3 (K1 k0 (aB f0 f1 f2))=A3 f0 f1 f2:=by kernel_rfl
def FF:Option (Bool×Unit):=T (G0 k0 (A0 f0 f1 f2) (A1 (G1 k0 (A2 f0 f1 f2) (A3 f0 f1 f2) k0) f0 f1 f2) k0) f0 f1 f2
theorem aT:cO Tryz.prog (aS dG) aA k0 79 Jj II [] (f0,f1,f2,())=FF k0 f0 f1 f2:=Eq.trans (b:=T (L0 k0 k0 (K0 k0 (aB f0 f1 f2))) f0 f1 f2) (by kernel_rfl) (by rw[FF];(try simp only[aO,dV,aU,bW,l7,qO]);try rfl)
def _root_.Go.Rv.KC:=fun x:U3=>FF (300+x.2.1.length+x.2.2.1.length) x.1 x.2.1 x.2.2.1
abbrev _root_.Go.Rv.Q7:aG:=⟨Jj,II,KC,[]⟩
theorem _root_.Go.Rv.aap:aF Dr Tryz.prog 79 Q7:=dw mix (.c Ea (.c Dx (.c J3 (.c Cf .nil)))) (by kernel_rfl) fun x=>⟨aA,_,aT _ _ _ _⟩
end iD
def TU.T(n:Int):Option (Bool×Unit):=(ni (n,0,1000000,())).bind fun y1=>some (y1.1,())
def D8:=fun x:Int×Unit=>TU.T x.1
abbrev acp:aG:=⟨[.v false [CT.int .i64]],[(false,[CT.bool])],D8,[]⟩
theorem abU:aF Dr Tryz.prog 132 acp:=aW mix (.c Ad .nil) (by kernel_rfl) fun x=>by kernel_rfl
def Qy.T(l0 l1 l2:Int):Option (Bool×Unit):=(fU (l0,())).bind fun y1=>cond y1.1 ((jb (l1,())).bind fun y2=>cond y2.1 ((D8 (l2,())).bind fun y3=>some (y3.1,())) (some (false,()))) (some (false,()))
def Cm:=fun x:U8=>Qy.T x.1 x.2.1 x.2.2.1
abbrev Iu:aG:=⟨[.v true ct0],[(false,[CT.bool])],Cm,[]⟩
theorem Zi:aF Dr Tryz.prog 108 Iu:=aW mix (.c Ea (.c Dx (.c abU .nil))) (by kernel_rfl) fun x=>by kernel_rfl
abbrev Iq:Is:=[.v false [CT.sl ct0]]
abbrev Hu:Os:=[(false,[CT.bool])]
namespace jR
def aA:Nat→List Nat×List Nat:=fun k=>if k=2 then([0,5,6,7],[0,2])else([],[])
def zrc{R:Type}(k0:Nat)(p:List Nat):Env→List Ob→au R→Option R:=bF Tryz.prog (aS [(108,[],Iu)]) 34 0 aA k0 (bV p (dm Tryz.prog 80))
def R0{R:Type}(nx0:FU R)(ex0:PN R)(ex1:yM R)(list2 t5x:List U8)(t6x t7x:Int):Option R:=cond (decide (t7x<t6x)) (if 0≤t7x∧t7x<(t5x.length:Int)then(Cm ((rd (0,0,0,()) t5x t7x).1,(rd (0,0,0,()) t5x t7x).2.1,(rd (0,0,0,()) t5x t7x).2.2.1,())).bind fun y1=>cond (!y1.1) (ex0 list2 false) (cond (decide (t7x>0)) (if 0≤(af (t7x - 1))∧(af (t7x - 1))<(list2.length:Int)then cond (decide ((rd (0,0,0,()) list2 (af (t7x - 1))).1≥(rd (0,0,0,()) t5x t7x).1)) (ex0 list2 false) (nx0 list2 t5x t6x (af (t7x+1)))else none) (nx0 list2 t5x t6x (af (t7x+1))))else none) (ex1 list2)
def A0(list:List U8)(list2:List U8)(t2x:Bool):Option (Bool×Unit):=some (t2x,())
def A1(list:List U8)(list2:List U8):Option (Bool×Unit):=some ((decide ((list2.length:Int)≤60)),())
def T(lo0:FU (Bool×Unit))(list:List U8):Option (Bool×Unit):=lo0 list list (list.length:Int) 0
def K0{R:Type}(k0:Nat)(K:au R):au R:=bf 0 (bD (fun env ob=>zrc k0 [1,1] env ob (K)) (K))
def L0:FU R:=fun list2 t5x t6x t7x=>iter 0 [0,5,6,7] [0,2] (zrc k0 [1,0,1,0,0]) k [(0,.sl ct0 list2),(5,.sl ct0 t5x),(6,.int .i64 t6x),(7,.int .i64 t7x)] [] K
def H0:PN R:=fun list2 t2x=>K .ret [(0,.sl ct0 list2),(2,.bool t2x)] []
def H1:yM R:=fun list2=>K (.exit 0) [(0,.sl ct0 list2),(2,.undef)] []
theorem zs0:L0 k0 (k+1) K=R0 (L0 k0 k K) (H0 K) (H1 K):=by kernel_rfl
def G0{R:Type}(k0:Nat)(hx0:PN R)(hx1:yM R):Nat→FU R
 |0=>fun _ _ _ _=>none
 |k+1=>R0 (G0 k0 hx0 hx1 k) hx0 hx1
theorem aO:∀ k,L0 k0 k K=G0 k0 (H0 K) (H1 K) k:=bI rfl fun k ih=>by rw[zs0,G0];(try simp only[ih]);try rfl
variable (list:List U8)
def aB:au (Bool×Unit):=cu Tryz.prog [.tmp 2] Iq Hu (list,())
theorem aU:H0 (K0 k0 (aB list))=A0 list:=by kernel_rfl
theorem bW:H1 (K0 k0 (aB list))=A1 list:=by kernel_rfl
def FF:Option (Bool×Unit):=T (G0 k0 (A0 list) (A1 list) k0) list
theorem aT:cO Tryz.prog (aS [(108,[],Iu)]) aA k0 80 Iq Hu [] (list,())=FF k0 list:=Eq.trans (b:=T (L0 k0 k0 (K0 k0 (aB list))) list) (by kernel_rfl) (by rw[FF];(try simp only[aO,aU,bW]);try rfl)
def _root_.Go.Rv.Js:=fun x:(List U8)×Unit=>FF (300+x.1.length) x.1
abbrev _root_.Go.Rv.QC:aG:=⟨Iq,Hu,Js,[]⟩
theorem _root_.Go.Rv.Zz:aF Dr Tryz.prog 80 QC:=dw mix (.c Zi .nil) (by kernel_rfl) fun x=>⟨aA,_,aT _ _⟩
end jR
abbrev Ip:Is:=[.v true jf]
abbrev Ht:Os:=[(false,[CT.bool])]
namespace kD
def dG:Tb:=[(78,[],Vf),(79,[],Q7),(80,[],QC)]
def aA:Nat→List Nat×List Nat:=fun k=>if k=4 then([1,46,47,48],[2])else([],[])
def zrc{R:Type}(k0:Nat)(p:List Nat):Env→List Ob→au R→Option R:=bF Tryz.prog (aS dG) 78 0 aA k0 (bV p (dm Tryz.prog 41))
def R0{R:Type}(nx0:FT R)(ex0:gu R)(ex1:dI R)(t46x:List U8)(t47x t48x s s7 s8 s9:Int)(s10 s11:List U7)(s12:List U8):Option R:=cond (decide (t48x<t47x)) (if 0≤t48x∧t48x<(t46x.length:Int)then if 0≤t48x∧t48x<(s11.length:Int)then cond ((rd (0,0,0,()) t46x t48x).1 != (rd (0,0,0,0,()) s11 t48x).1) (ex0 false) ((ni ((rd (0,0,0,()) t46x t48x).2.2.1,(af (s8+1)),(af (s8+s)),())).bind fun y1=>cond (!y1.1) (ex0 false) (nx0 t46x t47x (af (t48x+1)) s s7 s8 s9 s10 s11 s12))else none else none) (ex1 ())
def A0(s0 s1 s2 s3:Int)(s4 s5:List U7)(s6:List U8)(t2x:Bool):Option (Bool×Unit):=some (t2x,())
def A1(s0 s1 s2 s3:Int)(s4 s5:List U7)(s6:List U8)(_u:Unit):Option (Bool×Unit):=some (true,())
def T(lo0:FT (Bool×Unit))(s0 s1 s2 s3:Int)(s4 s5:List U7)(s6:List U8):Option (Bool×Unit):=(ni (s0,1,1000,())).bind fun y1=>cond (!y1.1) (some (false,())) ((ni (s2,0,999000,())).bind fun y2=>cond (!y2.1) (some (false,())) ((ni (s1,0,s2,())).bind fun y3=>cond (!y3.1) (some (false,())) ((KC (s3,s4,s5,())).bind fun y4=>cond (!y4.1) (some (false,())) ((Js (s6,())).bind fun y5=>cond (!y5.1) (some (false,())) (cond ((s6.length:Int) != (s5.length:Int)) (some (false,())) (lo0 s6 (s6.length:Int) 0 s0 s1 s2 s3 s4 s5 s6))))))
def K0{R:Type}(k0:Nat)(K:au R):au R:=bf 0 (bD (fun env ob=>zrc k0 [1,1,1] env ob (K)) (K))
def L0:FT R:=fun t46x t47x t48x s s7 s8 s9 s10 s11 s12=>iter 0 [1,46,47,48] [2] (zrc k0 [1,1,0,1,0,0]) k [(1,.ptr 0 0 0 0),(46,.sl ct0 t46x),(47,.int .i64 t47x),(48,.int .i64 t48x)] [.box [.int .i64 s,.int .i64 s7,.int .i64 s8,.int .i64 s9,.sl aC s10,.sl aC s11,.sl ct0 s12]] K
def H0:gu R:=fun t2x=>K .ret [(2,.bool t2x)] []
def H1:dI R:=fun _=>K (.exit 0) [(2,.undef)] []
theorem zs0:L0 k0 (k+1) K=R0 (L0 k0 k K) (H0 K) (H1 K):=by kernel_rfl
def G0{R:Type}(k0:Nat)(hx0:gu R)(hx1:dI R):Nat→FT R
 |0=>fun _ _ _ _ _ _ _ _ _ _=>none
 |k+1=>R0 (G0 k0 hx0 hx1 k) hx0 hx1
theorem aO:∀ k,L0 k0 k K=G0 k0 (H0 K) (H1 K) k:=bI rfl fun k ih=>by rw[zs0,G0];(try simp only[ih]);try rfl
variable (s0 s1 s2 s3:Int) (s4 s5:List U7) (s6:List U8)
def aB:au (Bool×Unit):=cu Tryz.prog [.tmp 2] Ip Ht (s0,s1,s2,s3,s4,s5,s6,())
theorem aU:H0 (K0 k0 (aB s0 s1 s2 s3 s4 s5 s6))=A0 s0 s1 s2 s3 s4 s5 s6:=by kernel_rfl
theorem bW:H1 (K0 k0 (aB s0 s1 s2 s3 s4 s5 s6))=A1 s0 s1 s2 s3 s4 s5 s6:=by kernel_rfl
def FF:Option (Bool×Unit):=T (G0 k0 (A0 s0 s1 s2 s3 s4 s5 s6) (A1 s0 s1 s2 s3 s4 s5 s6) k0) s0 s1 s2 s3 s4 s5 s6
theorem aT:cO Tryz.prog (aS dG) aA k0 41 Ip Ht [] (s0,s1,s2,s3,s4,s5,s6,())=FF k0 s0 s1 s2 s3 s4 s5 s6:=Eq.trans (b:=T (L0 k0 k0 (K0 k0 (aB s0 s1 s2 s3 s4 s5 s6))) s0 s1 s2 s3 s4 s5 s6) (by kernel_rfl) (by rw[FF];(try simp only[aO,aU,bW]);try rfl)
def _root_.Go.Rv.Jr:=fun x:U1=>FF (300+x.2.2.2.2.1.length+x.2.2.2.2.2.1.length+x.2.2.2.2.2.2.1.length) x.1 x.2.1 x.2.2.1 x.2.2.2.1 x.2.2.2.2.1 x.2.2.2.2.2.1 x.2.2.2.2.2.2.1
abbrev _root_.Go.Rv.Z7:aG:=⟨Ip,Ht,Jr,[]⟩
theorem _root_.Go.Rv.Zy:aF Dr Tryz.prog 41 Z7:=dw mix (.c Ad (.c aap (.c Zz .nil))) (by kernel_rfl) fun x=>⟨aA,_,aT _ _ _ _ _ _ _ _⟩
end kD
def zN.T(e0 e1 e2 e3 e4:Int):Option (Bool×Unit):=cond (e2==0) (cond (e0==1) ((jb (e3,())).bind fun y1=>(jT (e4,())).bind fun y2=>(fU (e1,())).bind fun y3=>cond y3.1 (cond y1.1 (some (y2.1,())) (some (false,()))) (cond (e0==8) (cond (e1==0) (cond y1.1 (some (y2.1,())) (some (false,()))) (some (false,()))) (some (false,())))) (cond (e0==6) ((jb (e3,())).bind fun y4=>(jT (e4,())).bind fun y5=>(fU (e1,())).bind fun y6=>cond y6.1 (cond y4.1 (some (y5.1,())) (some (false,()))) (cond (e0==8) (cond (e1==0) (cond y4.1 (some (y5.1,())) (some (false,()))) (some (false,()))) (some (false,())))) (cond (e0==3) ((jb (e3,())).bind fun y7=>(fU (e1,())).bind fun y8=>cond y8.1 (cond (e2==0) (cond y7.1 (some ((e4==0),())) (some (false,()))) (some (false,()))) (cond (e0==8) (cond (e1==0) (cond (e2==0) (cond y7.1 (some ((e4==0),())) (some (false,()))) (some (false,()))) (some (false,()))) (some (false,())))) (cond (e0==8) ((jb (e3,())).bind fun y9=>(fU (e1,())).bind fun y10=>cond y10.1 (cond (e2==0) (cond y9.1 (some ((e4==0),())) (some (false,()))) (some (false,()))) (cond (e0==8) (cond (e1==0) (cond (e2==0) (cond y9.1 (some ((e4==0),())) (some (false,()))) (some (false,()))) (some (false,()))) (some (false,())))) (cond (e0==4) ((jT (e3,())).bind fun y11=>(fU (e1,())).bind fun y12=>cond y12.1 (cond (e2==0) (cond y11.1 (some ((e4==0),())) (some (false,()))) (some (false,()))) (cond (e0==8) (cond (e1==0) (cond (e2==0) (cond y11.1 (some ((e4==0),())) (some (false,()))) (some (false,()))) (some (false,()))) (some (false,())))) (cond (e0==5) ((fU (e1,())).bind fun y13=>cond y13.1 (cond (e3==0) (some ((e4==0),())) (some (false,()))) (cond (e0==8) (cond (e1==0) (cond (e3==0) (some ((e4==0),())) (some (false,()))) (some (false,()))) (some (false,())))) (cond (e0==2) ((fU (e1,())).bind fun y14=>cond y14.1 (cond (e2==0) (cond (e3==0) (some ((e4==0),())) (some (false,()))) (some (false,()))) (cond (e0==8) (cond (e1==0) (cond (e2==0) (cond (e3==0) (some ((e4==0),())) (some (false,()))) (some (false,()))) (some (false,()))) (some (false,())))) (cond (e0==7) ((fU (e1,())).bind fun y15=>cond y15.1 (cond (e2==0) (cond (e3==0) (some ((e4==0),())) (some (false,()))) (some (false,()))) (cond (e0==8) (cond (e1==0) (cond (e2==0) (cond (e3==0) (some ((e4==0),())) (some (false,()))) (some (false,()))) (some (false,()))) (some (false,())))) (some (false,())))))))))) ((fU (e2,())).bind fun y16=>cond (e0==1) ((jb (e3,())).bind fun y17=>(jT (e4,())).bind fun y18=>(fU (e1,())).bind fun y19=>cond y19.1 (cond y16.1 (cond y17.1 (some (y18.1,())) (some (false,()))) (some (false,()))) (cond (e0==8) (cond (e1==0) (cond y16.1 (cond y17.1 (some (y18.1,())) (some (false,()))) (some (false,()))) (some (false,()))) (some (false,())))) (cond (e0==6) ((jb (e3,())).bind fun y20=>(jT (e4,())).bind fun y21=>(fU (e1,())).bind fun y22=>cond y22.1 (cond y16.1 (cond y20.1 (some (y21.1,())) (some (false,()))) (some (false,()))) (cond (e0==8) (cond (e1==0) (cond y16.1 (cond y20.1 (some (y21.1,())) (some (false,()))) (some (false,()))) (some (false,()))) (some (false,())))) (cond (e0==3) ((jb (e3,())).bind fun y23=>(fU (e1,())).bind fun y24=>cond y24.1 (cond (e2==0) (cond y23.1 (some ((e4==0),())) (some (false,()))) (some (false,()))) (cond (e0==8) (cond (e1==0) (cond (e2==0) (cond y23.1 (some ((e4==0),())) (some (false,()))) (some (false,()))) (some (false,()))) (some (false,())))) (cond (e0==8) ((jb (e3,())).bind fun y25=>(fU (e1,())).bind fun y26=>cond y26.1 (cond (e2==0) (cond y25.1 (some ((e4==0),())) (some (false,()))) (some (false,()))) (cond (e0==8) (cond (e1==0) (cond (e2==0) (cond y25.1 (some ((e4==0),())) (some (false,()))) (some (false,()))) (some (false,()))) (some (false,())))) (cond (e0==4) ((jT (e3,())).bind fun y27=>(fU (e1,())).bind fun y28=>cond y28.1 (cond (e2==0) (cond y27.1 (some ((e4==0),())) (some (false,()))) (some (false,()))) (cond (e0==8) (cond (e1==0) (cond (e2==0) (cond y27.1 (some ((e4==0),())) (some (false,()))) (some (false,()))) (some (false,()))) (some (false,())))) (cond (e0==5) ((fU (e1,())).bind fun y29=>cond y29.1 (cond y16.1 (cond (e3==0) (some ((e4==0),())) (some (false,()))) (some (false,()))) (cond (e0==8) (cond (e1==0) (cond y16.1 (cond (e3==0) (some ((e4==0),())) (some (false,()))) (some (false,()))) (some (false,()))) (some (false,())))) (cond (e0==2) ((fU (e1,())).bind fun y30=>cond y30.1 (cond (e2==0) (cond (e3==0) (some ((e4==0),())) (some (false,()))) (some (false,()))) (cond (e0==8) (cond (e1==0) (cond (e2==0) (cond (e3==0) (some ((e4==0),())) (some (false,()))) (some (false,()))) (some (false,()))) (some (false,())))) (cond (e0==7) ((fU (e1,())).bind fun y31=>cond y31.1 (cond (e2==0) (cond (e3==0) (some ((e4==0),())) (some (false,()))) (some (false,()))) (cond (e0==8) (cond (e1==0) (cond (e2==0) (cond (e3==0) (some ((e4==0),())) (some (false,()))) (some (false,()))) (some (false,()))) (some (false,())))) (some (false,()))))))))))
def oK:=fun x:U5=>zN.T x.1 x.2.1 x.2.2.1 x.2.2.2.1 x.2.2.2.2.1
abbrev aa6:aG:=⟨[.v true iK],[(false,[CT.bool])],oK,[]⟩
theorem aaq:aF Dr Tryz.prog 109 aa6:=aW mix (.c Ea (.c Dx (.c J3 .nil))) (by kernel_rfl) fun x=>by kernel_rfl
def TV.T(e0 e1 e2 e3 e4:Int):Option (Bool×Unit):=(oK (e0,e1,e2,e3,e4,())).bind fun y1=>cond y1.1 (cond (e0 != 6) (some (true,())) (some ((decide (e2<e1)),()))) (some (false,()))
def LX:=fun x:U5=>TV.T x.1 x.2.1 x.2.2.1 x.2.2.2.1 x.2.2.2.2.1
abbrev acr:aG:=⟨[.v true iK],[(false,[CT.bool])],LX,[]⟩
theorem abV:aF Dr Tryz.prog 84 acr:=aW mix (.c aaq .nil) (by kernel_rfl) fun x=>by kernel_rfl
def Tz.T(o0 o1 o2 o3 o4:Int):Option (Bool×Unit):=cond (o0==1) ((fU (o1,())).bind fun y1=>cond y1.1 (cond (o2==0) ((jb (o3,())).bind fun y2=>cond y2.1 ((jT (o4,())).bind fun y3=>some (y3.1,())) (some (false,()))) ((fU (o2,())).bind fun y4=>cond y4.1 ((jb (o3,())).bind fun y5=>cond y5.1 ((jT (o4,())).bind fun y6=>some (y6.1,())) (some (false,()))) (some (false,())))) (some (false,()))) (cond (o0==2) ((fU (o1,())).bind fun y7=>cond y7.1 (some (((o0==2)&&((o1==o1)&&((o2==0)&&((o3==0)&&((o4==0)&&true))))),())) (some (false,()))) (cond (o0==4) (some (((o0==o0)&&((o1==0)&&((o2==0)&&((o3==0)&&((o4==0)&&true))))),())) (cond (o0==5) (some (((o0==o0)&&((o1==0)&&((o2==0)&&((o3==0)&&((o4==0)&&true))))),())) ((mQ (o0,o1,o2,o3,o4,())).bind fun y8=>(LX (y8.1,y8.2.1,y8.2.2.1,y8.2.2.2.1,y8.2.2.2.2.1,())).bind fun y9=>some (y9.1,())))))
def DU:=fun x:U5=>Tz.T x.1 x.2.1 x.2.2.1 x.2.2.2.1 x.2.2.2.2.1
abbrev ab7:aG:=⟨[.v true iK],[(false,[CT.bool])],DU,[]⟩
theorem abr:aF Dr Tryz.prog 42 ab7:=aW mix (.c Ea (.c Dx (.c J3 (.c abV (.c Ri .nil))))) (by kernel_rfl) fun x=>by kernel_rfl
def He.T(s:List U7):Option ((List U7)×Unit):=if s.length=0 then(@ite _ (some ([],())=if([]:List U7).length+s.length≤maxRow then some ((([]:List U7)++s),())else none) (Classical.propDecidable _) (if([]:List U7).length+s.length≤maxRow then some ((([]:List U7)++s),())else none) none)else if([]:List U7).length+s.length≤maxRow then some ((([]:List U7)++s),())else none
def G8:=fun x:(List U7)×Unit=>He.T x.1
abbrev YW:aG:=⟨[.v false [CT.sl aC]],[(false,[CT.sl aC])],G8,[]⟩
theorem YU:aF Dr Tryz.prog 110 YW:=aW mix .nil (by kernel_rfl) fun x=>by kernel_rfl
def G6.T(s:List U7):Option ((List U7)×Unit):=if s.length=0 then(@ite _ (some ([],())=if([]:List U7).length+s.length≤maxRow then some ((([]:List U7)++s),())else none) (Classical.propDecidable _) (if([]:List U7).length+s.length≤maxRow then some ((([]:List U7)++s),())else none) none)else if([]:List U7).length+s.length≤maxRow then some ((([]:List U7)++s),())else none
def GY:=fun x:(List U7)×Unit=>G6.T x.1
abbrev YT:aG:=⟨[.v false [CT.sl aC]],[(false,[CT.sl aC])],GY,[]⟩
theorem YM:aF Dr Tryz.prog 111 YT:=aW mix .nil (by kernel_rfl) fun x=>by kernel_rfl
def Kr.T(f0:Int)(f1 f2:List U7):Option (U3):=(G8 (f1,())).bind fun y1=>(GY (f2,())).bind fun y2=>some (f0,y1.1,y2.1,())
def Jt:=fun x:U3=>Kr.T x.1 x.2.1 x.2.2.1
abbrev Z9:aG:=⟨[.v true eG],[(true,eG)],Jt,[]⟩
theorem ZB:aF Dr Tryz.prog 86 Z9:=aW mix (.c YU (.c YM .nil)) (by kernel_rfl) fun x=>by kernel_rfl
def Jk.T(s0 s1 s2 s3:Int)(s4 s5:List U7)(s6:List U8):Option (U1):=(Jt (s3,s4,s5,())).bind fun y1=>(BZ (s6,())).bind fun y2=>some (s0,s1,s2,y1.1,y1.2.1,y1.2.2.1,y2.1,())
def Iy:=fun x:U1=>Jk.T x.1 x.2.1 x.2.2.1 x.2.2.2.1 x.2.2.2.2.1 x.2.2.2.2.2.1 x.2.2.2.2.2.2.1
abbrev Zp:aG:=⟨[.v true jf],[(true,jf)],Iy,[]⟩
theorem Zh:aF Dr Tryz.prog 43 Zp:=aW mix (.c ZB (.c Ql .nil)) (by kernel_rfl) fun x=>by kernel_rfl
def zU.T(s0 s1 s2 s3:Int)(s4 s5:List U7)(s6:List U8)(o0 o1 o2 o3 o4:Int):Option (U0):=(Jr (s0,s1,s2,s3,s4,s5,s6,())).bind fun y1=>cond (!y1.1) (some (0,0,0,0,[],[],[],0,0,1,())) ((DU (o0,o1,o2,o3,o4,())).bind fun y2=>cond (!y2.1) (some (0,0,0,0,[],[],[],0,0,1,())) ((Iy (s0,s1,s2,s3,s4,s5,s6,())).bind fun y3=>(zy (y3.1,y3.2.1,y3.2.2.1,y3.2.2.2.1,y3.2.2.2.2.1,y3.2.2.2.2.2.1,y3.2.2.2.2.2.2.1,o0,o1,o2,o3,o4,())).bind fun y4=>cond (y4.2.2.1 != 0) (some (0,0,0,0,[],[],[],0,0,y4.2.2.1,())) (some (y4.2.2.2.1,y4.2.2.2.2.1,y4.2.2.2.2.2.1,y4.2.2.2.2.2.2.1,y4.2.2.2.2.2.2.2.1,y4.2.2.2.2.2.2.2.2.1,y4.2.2.2.2.2.2.2.2.2.1,y4.1,y4.2.1,0,()))))
def zJ:=fun x:Int×Int×Int×Int×(List U7)×(List U7)×(List U8)×U5=>zU.T x.1 x.2.1 x.2.2.1 x.2.2.2.1 x.2.2.2.2.1 x.2.2.2.2.2.1 x.2.2.2.2.2.2.1 x.2.2.2.2.2.2.2.1 x.2.2.2.2.2.2.2.2.1 x.2.2.2.2.2.2.2.2.2.1 x.2.2.2.2.2.2.2.2.2.2.1 x.2.2.2.2.2.2.2.2.2.2.2.1
abbrev abJ:aG:=⟨[.v true jf,.v true iK],[(true,sU)],zJ,[]⟩
theorem aaZ:aF KN Tryz.prog 10 abJ:=aW mix (.c Zy (.c abr (.c Zh (.c QF .nil)))) (by kernel_rfl) fun x=>by kernel_rfl
def Tj.T(a0 a1 a2 a3 b0 b1 b2 b3:Int):Option (Bool×Unit):=cond (a0 != b0) (some (false,())) (cond (a1 != b1) (some (false,())) (cond (a2 != b2) (some (false,())) (cond (a3 != b3) (some (false,())) (some (true,())))))
def DN:=fun x:Int×Int×Int×U5=>Tj.T x.1 x.2.1 x.2.2.1 x.2.2.2.1 x.2.2.2.2.1 x.2.2.2.2.2.1 x.2.2.2.2.2.2.1 x.2.2.2.2.2.2.2.1
abbrev Lu:aG:=⟨[.v true aC,.v true aC],[(false,[CT.bool])],DN,[]⟩
theorem abm:aF Dr Tryz.prog 127 Lu:=aW mix .nil (by kernel_rfl) fun x=>by kernel_rfl
abbrev JM:Is:=[.v false [CT.sl aC],.v false [CT.sl aC]]
abbrev Jc:Os:=[(false,[CT.bool])]
namespace mX
def aA:Nat→List Nat×List Nat:=fun k=>if k=4 then([0,1,5],[4])else([],[])
def zrc{R:Type}(k0:Nat)(p:List Nat):Env→List Ob→au R→Option R:=bF Tryz.prog (aS [(127,[],Lu)]) 27 0 aA k0 (bV p (dm Tryz.prog 94))
def R0{R:Type}(nx0:tq R)(ex0:gu R)(ex1:dI R)(a2 b2:List U7)(i:Int):Option R:=cond (decide (i<(a2.length:Int))) (if 0≤i∧i<(a2.length:Int)then if 0≤i∧i<(b2.length:Int)then(DN ((rd (0,0,0,0,()) a2 i).1,(rd (0,0,0,0,()) a2 i).2.1,(rd (0,0,0,0,()) a2 i).2.2.1,(rd (0,0,0,0,()) a2 i).2.2.2.1,(rd (0,0,0,0,()) b2 i).1,(rd (0,0,0,0,()) b2 i).2.1,(rd (0,0,0,0,()) b2 i).2.2.1,(rd (0,0,0,0,()) b2 i).2.2.2.1,())).bind fun y1=>cond (!y1.1) (ex0 false) (nx0 a2 b2 (af (i+1)))else none else none) (ex1 ())
def A0(a b:List U7)(t4x:Bool):Option (Bool×Unit):=some (t4x,())
def A1(a b:List U7)(_u:Unit):Option (Bool×Unit):=some (true,())
def T(lo0:tq (Bool×Unit))(a b:List U7):Option (Bool×Unit):=cond ((a.length:Int) != (b.length:Int)) (some (false,())) (lo0 a b 0)
def K0{R:Type}(k0:Nat)(K:au R):au R:=bf 0 (bD (fun env ob=>zrc k0 [1,1,1] env ob (K)) (K))
def L0:tq R:=fun a2 b2 i=>iter 0 [0,1,5] [4] (zrc k0 [1,1,0,1,0,0]) k [(0,.sl aC a2),(1,.sl aC b2),(5,.int .i64 i)] [] K
def H0:gu R:=fun t4x=>K .ret [(4,.bool t4x)] []
def H1:dI R:=fun _=>K (.exit 0) [(4,.undef)] []
theorem zs0:L0 k0 (k+1) K=R0 (L0 k0 k K) (H0 K) (H1 K):=by kernel_rfl
def G0{R:Type}(k0:Nat)(hx0:gu R)(hx1:dI R):Nat→tq R
 |0=>fun _ _ _=>none
 |k+1=>R0 (G0 k0 hx0 hx1 k) hx0 hx1
theorem aO:∀ k,L0 k0 k K=G0 k0 (H0 K) (H1 K) k:=bI rfl fun k ih=>by rw[zs0,G0];(try simp only[ih]);try rfl
variable (a b:List U7)
def aB:au (Bool×Unit):=cu Tryz.prog [.tmp 4] JM Jc (a,b,())
theorem aU:H0 (K0 k0 (aB a b))=A0 a b:=by kernel_rfl
theorem bW:H1 (K0 k0 (aB a b))=A1 a b:=by kernel_rfl
def FF:Option (Bool×Unit):=T (G0 k0 (A0 a b) (A1 a b) k0) a b
theorem aT:cO Tryz.prog (aS [(127,[],Lu)]) aA k0 94 JM Jc [] (a,b,())=FF k0 a b:=Eq.trans (b:=T (L0 k0 k0 (K0 k0 (aB a b))) a b) (by kernel_rfl) (by rw[FF];(try simp only[aO,aU,bW]);try rfl)
def _root_.Go.Rv.Lc:=fun x:(List U7)×(List U7)×Unit=>FF (300+x.1.length+x.2.1.length) x.1 x.2.1
abbrev _root_.Go.Rv.abH:aG:=⟨JM,Jc,Lc,[]⟩
theorem _root_.Go.Rv.aaX:aF Dr Tryz.prog 94 abH:=dw mix (.c abm .nil) (by kernel_rfl) fun x=>⟨aA,_,aT _ _ _⟩
end mX
def SH.T(a0 a1 a2 a3 b0 b1 b2 b3:Int):Option (Bool×Unit):=cond (a0 != b0) (some (false,())) (cond (a1 != b1) (some (false,())) (cond (a2 != b2) (some (false,())) (cond (a3 != b3) (some (false,())) (some (true,())))))
def Dw:=fun x:Int×Int×Int×U5=>SH.T x.1 x.2.1 x.2.2.1 x.2.2.2.1 x.2.2.2.2.1 x.2.2.2.2.2.1 x.2.2.2.2.2.2.1 x.2.2.2.2.2.2.2.1
abbrev KW:aG:=⟨[.v true aC,.v true aC],[(false,[CT.bool])],Dw,[]⟩
theorem aaV:aF Dr Tryz.prog 128 KW:=aW mix .nil (by kernel_rfl) fun x=>by kernel_rfl
abbrev Jg:Is:=[.v false [CT.sl aC],.v false [CT.sl aC]]
abbrev IC:Os:=[(false,[CT.bool])]
namespace mP
def aA:Nat→List Nat×List Nat:=fun k=>if k=4 then([0,1,5],[4])else([],[])
def zrc{R:Type}(k0:Nat)(p:List Nat):Env→List Ob→au R→Option R:=bF Tryz.prog (aS [(128,[],KW)]) 27 0 aA k0 (bV p (dm Tryz.prog 95))
def R0{R:Type}(nx0:tq R)(ex0:gu R)(ex1:dI R)(a2 b2:List U7)(i:Int):Option R:=cond (decide (i<(a2.length:Int))) (if 0≤i∧i<(a2.length:Int)then if 0≤i∧i<(b2.length:Int)then(Dw ((rd (0,0,0,0,()) a2 i).1,(rd (0,0,0,0,()) a2 i).2.1,(rd (0,0,0,0,()) a2 i).2.2.1,(rd (0,0,0,0,()) a2 i).2.2.2.1,(rd (0,0,0,0,()) b2 i).1,(rd (0,0,0,0,()) b2 i).2.1,(rd (0,0,0,0,()) b2 i).2.2.1,(rd (0,0,0,0,()) b2 i).2.2.2.1,())).bind fun y1=>cond (!y1.1) (ex0 false) (nx0 a2 b2 (af (i+1)))else none else none) (ex1 ())
def A0(a b:List U7)(t4x:Bool):Option (Bool×Unit):=some (t4x,())
def A1(a b:List U7)(_u:Unit):Option (Bool×Unit):=some (true,())
def T(lo0:tq (Bool×Unit))(a b:List U7):Option (Bool×Unit):=cond ((a.length:Int) != (b.length:Int)) (some (false,())) (lo0 a b 0)
def K0{R:Type}(k0:Nat)(K:au R):au R:=bf 0 (bD (fun env ob=>zrc k0 [1,1,1] env ob (K)) (K))
def L0:tq R:=fun a2 b2 i=>iter 0 [0,1,5] [4] (zrc k0 [1,1,0,1,0,0]) k [(0,.sl aC a2),(1,.sl aC b2),(5,.int .i64 i)] [] K
def H0:gu R:=fun t4x=>K .ret [(4,.bool t4x)] []
def H1:dI R:=fun _=>K (.exit 0) [(4,.undef)] []
theorem zs0:L0 k0 (k+1) K=R0 (L0 k0 k K) (H0 K) (H1 K):=by kernel_rfl
def G0{R:Type}(k0:Nat)(hx0:gu R)(hx1:dI R):Nat→tq R
 |0=>fun _ _ _=>none
 |k+1=>R0 (G0 k0 hx0 hx1 k) hx0 hx1
theorem aO:∀ k,L0 k0 k K=G0 k0 (H0 K) (H1 K) k:=bI rfl fun k ih=>by rw[zs0,G0];(try simp only[ih]);try rfl
variable (a b:List U7)
def aB:au (Bool×Unit):=cu Tryz.prog [.tmp 4] Jg IC (a,b,())
theorem aU:H0 (K0 k0 (aB a b))=A0 a b:=by kernel_rfl
theorem bW:H1 (K0 k0 (aB a b))=A1 a b:=by kernel_rfl
def FF:Option (Bool×Unit):=T (G0 k0 (A0 a b) (A1 a b) k0) a b
theorem aT:cO Tryz.prog (aS [(128,[],KW)]) aA k0 95 Jg IC [] (a,b,())=FF k0 a b:=Eq.trans (b:=T (L0 k0 k0 (K0 k0 (aB a b))) a b) (by kernel_rfl) (by rw[FF];(try simp only[aO,aU,bW]);try rfl)
def _root_.Go.Rv.Kz:=fun x:(List U7)×(List U7)×Unit=>FF (300+x.1.length+x.2.1.length) x.1 x.2.1
abbrev _root_.Go.Rv.aa5:aG:=⟨Jg,IC,Kz,[]⟩
theorem _root_.Go.Rv.aai:aF Dr Tryz.prog 95 aa5:=dw mix (.c aaV .nil) (by kernel_rfl) fun x=>⟨aA,_,aT _ _ _⟩
end mP
def TT.T(a0:Int)(a1 a2:List U7)(b0:Int)(b1 b2:List U7):Option (Bool×Unit):=cond (a0 != b0) (some (false,())) ((Lc (a1,b1,())).bind fun y1=>cond (!y1.1) (some (false,())) ((Kz (a2,b2,())).bind fun y2=>cond (!y2.1) (some (false,())) (some (true,()))))
def D7:=fun x:Int×(List U7)×(List U7)×U3=>TT.T x.1 x.2.1 x.2.2.1 x.2.2.2.1 x.2.2.2.2.1 x.2.2.2.2.2.1
abbrev acn:aG:=⟨[.v true eG,.v true eG],[(false,[CT.bool])],D7,[]⟩
theorem abS:aF Dr Tryz.prog 45 acn:=aW mix (.c aaX (.c aai .nil)) (by kernel_rfl) fun x=>by kernel_rfl
def Ti.T(a0 a1 a2 b0 b1 b2:Int):Option (Bool×Unit):=cond (a0 != b0) (some (false,())) (cond (a1 != b1) (some (false,())) (cond (a2 != b2) (some (false,())) (some (true,()))))
def DL:=fun x:Int×U5=>Ti.T x.1 x.2.1 x.2.2.1 x.2.2.2.1 x.2.2.2.2.1 x.2.2.2.2.2.1
abbrev Ls:aG:=⟨[.v true ct0,.v true ct0],[(false,[CT.bool])],DL,[]⟩
theorem abl:aF Dr Tryz.prog 96 Ls:=aW mix .nil (by kernel_rfl) fun x=>by kernel_rfl
abbrev JL:Is:=[.v false [CT.sl ct0],.v false [CT.sl ct0]]
abbrev Jb:Os:=[(false,[CT.bool])]
namespace mV
def aA:Nat→List Nat×List Nat:=fun k=>if k=4 then([0,1,5],[4])else([],[])
def zrc{R:Type}(k0:Nat)(p:List Nat):Env→List Ob→au R→Option R:=bF Tryz.prog (aS [(96,[],Ls)]) 27 0 aA k0 (bV p (dm Tryz.prog 46))
def R0{R:Type}(nx0:FQ R)(ex0:gu R)(ex1:dI R)(a2 b2:List U8)(i:Int):Option R:=cond (decide (i<(a2.length:Int))) (if 0≤i∧i<(a2.length:Int)then if 0≤i∧i<(b2.length:Int)then(DL ((rd (0,0,0,()) a2 i).1,(rd (0,0,0,()) a2 i).2.1,(rd (0,0,0,()) a2 i).2.2.1,(rd (0,0,0,()) b2 i).1,(rd (0,0,0,()) b2 i).2.1,(rd (0,0,0,()) b2 i).2.2.1,())).bind fun y1=>cond (!y1.1) (ex0 false) (nx0 a2 b2 (af (i+1)))else none else none) (ex1 ())
def A0(a b:List U8)(t4x:Bool):Option (Bool×Unit):=some (t4x,())
def A1(a b:List U8)(_u:Unit):Option (Bool×Unit):=some (true,())
def T(lo0:FQ (Bool×Unit))(a b:List U8):Option (Bool×Unit):=cond ((a.length:Int) != (b.length:Int)) (some (false,())) (lo0 a b 0)
def K0{R:Type}(k0:Nat)(K:au R):au R:=bf 0 (bD (fun env ob=>zrc k0 [1,1,1] env ob (K)) (K))
def L0:FQ R:=fun a2 b2 i=>iter 0 [0,1,5] [4] (zrc k0 [1,1,0,1,0,0]) k [(0,.sl ct0 a2),(1,.sl ct0 b2),(5,.int .i64 i)] [] K
def H0:gu R:=fun t4x=>K .ret [(4,.bool t4x)] []
def H1:dI R:=fun _=>K (.exit 0) [(4,.undef)] []
theorem zs0:L0 k0 (k+1) K=R0 (L0 k0 k K) (H0 K) (H1 K):=by kernel_rfl
def G0{R:Type}(k0:Nat)(hx0:gu R)(hx1:dI R):Nat→FQ R
 |0=>fun _ _ _=>none
 |k+1=>R0 (G0 k0 hx0 hx1 k) hx0 hx1
theorem aO:∀ k,L0 k0 k K=G0 k0 (H0 K) (H1 K) k:=bI rfl fun k ih=>by rw[zs0,G0];(try simp only[ih]);try rfl
variable (a b:List U8)
def aB:au (Bool×Unit):=cu Tryz.prog [.tmp 4] JL Jb (a,b,())
theorem aU:H0 (K0 k0 (aB a b))=A0 a b:=by kernel_rfl
theorem bW:H1 (K0 k0 (aB a b))=A1 a b:=by kernel_rfl
def FF:Option (Bool×Unit):=T (G0 k0 (A0 a b) (A1 a b) k0) a b
theorem aT:cO Tryz.prog (aS [(96,[],Ls)]) aA k0 46 JL Jb [] (a,b,())=FF k0 a b:=Eq.trans (b:=T (L0 k0 k0 (K0 k0 (aB a b))) a b) (by kernel_rfl) (by rw[FF];(try simp only[aO,aU,bW]);try rfl)
def _root_.Go.Rv.La:=fun x:(List U8)×(List U8)×Unit=>FF (300+x.1.length+x.2.1.length) x.1 x.2.1
abbrev _root_.Go.Rv.abG:aG:=⟨JL,Jb,La,[]⟩
theorem _root_.Go.Rv.aaW:aF Dr Tryz.prog 46 abG:=dw mix (.c abl .nil) (by kernel_rfl) fun x=>⟨aA,_,aT _ _ _⟩
end mV
def SG.T(a0 a1 a2 a3:Int)(a4 a5:List U7)(a6:List U8)(b0 b1 b2 b3:Int)(b4 b5:List U7)(b6:List U8):Option (Bool×Unit):=cond (a0 != b0) (some (false,())) (cond (a1 != b1) (some (false,())) (cond (a2 != b2) (some (false,())) ((D7 (a3,a4,a5,b3,b4,b5,())).bind fun y1=>cond (!y1.1) (some (false,())) ((La (a6,b6,())).bind fun y2=>cond (!y2.1) (some (false,())) (some (true,()))))))
def zI:=fun x:Int×Int×Int×Int×(List U7)×(List U7)×(List U8)×U1=>SG.T x.1 x.2.1 x.2.2.1 x.2.2.2.1 x.2.2.2.2.1 x.2.2.2.2.2.1 x.2.2.2.2.2.2.1 x.2.2.2.2.2.2.2.1 x.2.2.2.2.2.2.2.2.1 x.2.2.2.2.2.2.2.2.2.1 x.2.2.2.2.2.2.2.2.2.2.1 x.2.2.2.2.2.2.2.2.2.2.2.1 x.2.2.2.2.2.2.2.2.2.2.2.2.1 x.2.2.2.2.2.2.2.2.2.2.2.2.2.1
abbrev abE:aG:=⟨[.v true jf,.v true jf],[(false,[CT.bool])],zI,[]⟩
theorem QR:aF Dr Tryz.prog 12 abE:=aW mix (.c abS (.c aaW .nil)) (by kernel_rfl) fun x=>by kernel_rfl
def QS.T(a0 a1 a2 a3:Int)(a4 a5:List U7)(a6:List U8)(a7 a8 a9 b0 b1 b2 b3:Int)(b4 b5:List U7)(b6:List U8)(b7 b8 b9:Int):Option (Bool×Unit):=(zI (a0,a1,a2,a3,a4,a5,a6,b0,b1,b2,b3,b4,b5,b6,())).bind fun y1=>cond (!y1.1) (some (false,())) (cond (a7 != b7) (some (false,())) (cond (a8 != b8) (some (false,())) (cond (a9 != b9) (some (false,())) (some (true,())))))
def vY:=fun x:Int×Int×Int×Int×(List U7)×(List U7)×(List U8)×Int×Int×Int×U0=>QS.T x.1 x.2.1 x.2.2.1 x.2.2.2.1 x.2.2.2.2.1 x.2.2.2.2.2.1 x.2.2.2.2.2.2.1 x.2.2.2.2.2.2.2.1 x.2.2.2.2.2.2.2.2.1 x.2.2.2.2.2.2.2.2.2.1 x.2.2.2.2.2.2.2.2.2.2.1 x.2.2.2.2.2.2.2.2.2.2.2.1 x.2.2.2.2.2.2.2.2.2.2.2.2.1 x.2.2.2.2.2.2.2.2.2.2.2.2.2.1 x.2.2.2.2.2.2.2.2.2.2.2.2.2.2.1 x.2.2.2.2.2.2.2.2.2.2.2.2.2.2.2.1 x.2.2.2.2.2.2.2.2.2.2.2.2.2.2.2.2.1 x.2.2.2.2.2.2.2.2.2.2.2.2.2.2.2.2.2.1 x.2.2.2.2.2.2.2.2.2.2.2.2.2.2.2.2.2.2.1 x.2.2.2.2.2.2.2.2.2.2.2.2.2.2.2.2.2.2.2.1
abbrev Z5:aG:=⟨[.v true sU,.v true sU],[(false,[CT.bool])],vY,[]⟩
theorem Zx:aF Dr Tryz.prog 11 Z5:=aW mix (.c QR .nil) (by kernel_rfl) fun x=>by kernel_rfl
abbrev IU:Is:=[.w false [CT.sl aC],.v false [CT.int .i64]]
abbrev Ie:Os:=[(false,[CT.int .i64])]
namespace mO
def aA:Nat→List Nat×List Nat:=fun k=>if k=2 then([0,1,5],[1])else([],[])
def zrc{R:Type}(k0:Nat)(p:List Nat):Env→List Ob→au R→Option R:=bF Tryz.prog (aS []) 41 1 aA k0 (bV p (dm Tryz.prog 97))
def R0{R:Type}(nx0:sZ R)(ex0:yL R)(kx i:Int)(a2:List U7):Option R:=cond (decide (i<(a2.length:Int))) (if 0≤i∧i<(a2.length:Int)then if 0≤i∧i<((a2.set i.toNat (fH (a2.getD i.toNat (0,0,0,0,())) kx)).length:Int)then if 0≤i∧i<(((a2.set i.toNat (fH (a2.getD i.toNat (0,0,0,0,())) kx)).set i.toNat (lH ((a2.set i.toNat (fH (a2.getD i.toNat (0,0,0,0,())) kx)).getD i.toNat (0,0,0,0,())) (af (kx+1)))).length:Int)then if 0≤i∧i<((((a2.set i.toNat (fH (a2.getD i.toNat (0,0,0,0,())) kx)).set i.toNat (lH ((a2.set i.toNat (fH (a2.getD i.toNat (0,0,0,0,())) kx)).getD i.toNat (0,0,0,0,())) (af (kx+1)))).set i.toNat (yu (((a2.set i.toNat (fH (a2.getD i.toNat (0,0,0,0,())) kx)).set i.toNat (lH ((a2.set i.toNat (fH (a2.getD i.toNat (0,0,0,0,())) kx)).getD i.toNat (0,0,0,0,())) (af (kx+1)))).getD i.toNat (0,0,0,0,())) (af ((af (kx+1))+1)))).length:Int)then nx0 (af ((af ((af ((af (kx+1))+1))+1))+1)) (af (i+1)) ((((a2.set i.toNat (fH (a2.getD i.toNat (0,0,0,0,())) kx)).set i.toNat (lH ((a2.set i.toNat (fH (a2.getD i.toNat (0,0,0,0,())) kx)).getD i.toNat (0,0,0,0,())) (af (kx+1)))).set i.toNat (yu (((a2.set i.toNat (fH (a2.getD i.toNat (0,0,0,0,())) kx)).set i.toNat (lH ((a2.set i.toNat (fH (a2.getD i.toNat (0,0,0,0,())) kx)).getD i.toNat (0,0,0,0,())) (af (kx+1)))).getD i.toNat (0,0,0,0,())) (af ((af (kx+1))+1)))).set i.toNat (X0 ((((a2.set i.toNat (fH (a2.getD i.toNat (0,0,0,0,())) kx)).set i.toNat (lH ((a2.set i.toNat (fH (a2.getD i.toNat (0,0,0,0,())) kx)).getD i.toNat (0,0,0,0,())) (af (kx+1)))).set i.toNat (yu (((a2.set i.toNat (fH (a2.getD i.toNat (0,0,0,0,())) kx)).set i.toNat (lH ((a2.set i.toNat (fH (a2.getD i.toNat (0,0,0,0,())) kx)).getD i.toNat (0,0,0,0,())) (af (kx+1)))).getD i.toNat (0,0,0,0,())) (af ((af (kx+1))+1)))).getD i.toNat (0,0,0,0,())) (af ((af ((af (kx+1))+1))+1))))else none else none else none else none) (ex0 kx a2)
def A0(a:List U7)(ak:Int)(kx:Int)(o0:List U7):Option (Int×(List U7)×Unit):=some (kx,o0,())
def T(lo0:sZ (Int×(List U7)×Unit))(a:List U7)(ak:Int):Option (Int×(List U7)×Unit):=lo0 ak 0 a
def K0{R:Type}(k0:Nat)(K:au R):au R:=bf 0 (bD (fun env ob=>zrc k0 [1,1] env ob (K)) (K))
def L0:sZ R:=fun kx i a2=>iter 1 [0,1,5] [1] (zrc k0 [1,0,1,0,0]) k [(0,.own 0),(1,.int .i64 kx),(5,.int .i64 i)] [.arr aC a2] K
def H0:yL R:=fun kx o0=>K (.exit 0) [(1,.int .i64 kx)] [.arr aC o0]
theorem zs0:L0 k0 (k+1) K=R0 (L0 k0 k K) (H0 K):=by kernel_rfl
def G0{R:Type}(k0:Nat)(hx0:yL R):Nat→sZ R
 |0=>fun _ _ _=>none
 |k+1=>R0 (G0 k0 hx0 k) hx0
theorem aO:∀ k,L0 k0 k K=G0 k0 (H0 K) k:=bI rfl fun k ih=>by rw[zs0,G0];(try simp only[ih]);try rfl
variable (a:List U7) (ak:Int)
def aB:au (Int×(List U7)×Unit):=cu Tryz.prog [.tmp 4] IU Ie (a,ak,())
theorem aU:H0 (K0 k0 (aB a ak))=A0 a ak:=by kernel_rfl
def FF:Option (Int×(List U7)×Unit):=T (G0 k0 (A0 a ak) k0) a ak
theorem aT:cO Tryz.prog (aS []) aA k0 97 IU Ie [] (a,ak,())=FF k0 a ak:=Eq.trans (b:=T (L0 k0 k0 (K0 k0 (aB a ak))) a ak) (by kernel_rfl) (by rw[FF];(try simp only[aO,aU]);try rfl)
def _root_.Go.Rv.JR:=fun x:(List U7)×Int×Unit=>FF (300+x.1.length) x.1 x.2.1
abbrev _root_.Go.Rv.aax:aG:=⟨IU,Ie,JR,[]⟩
theorem _root_.Go.Rv.ZN:aF Dr Tryz.prog 97 aax:=dw mix .nil (by kernel_rfl) fun x=>⟨aA,_,aT _ _ _⟩
end mO
abbrev Il:Is:=[.w false [CT.sl aC],.v false [CT.int .i64]]
abbrev Hq:Os:=[(false,[CT.int .i64])]
namespace mD
def aA:Nat→List Nat×List Nat:=fun k=>if k=2 then([0,1,5],[1])else([],[])
def zrc{R:Type}(k0:Nat)(p:List Nat):Env→List Ob→au R→Option R:=bF Tryz.prog (aS []) 41 1 aA k0 (bV p (dm Tryz.prog 98))
def R0{R:Type}(nx0:sZ R)(ex0:yL R)(kx i:Int)(a2:List U7):Option R:=cond (decide (i<(a2.length:Int))) (if 0≤i∧i<(a2.length:Int)then if 0≤i∧i<((a2.set i.toNat (fH (a2.getD i.toNat (0,0,0,0,())) kx)).length:Int)then if 0≤i∧i<(((a2.set i.toNat (fH (a2.getD i.toNat (0,0,0,0,())) kx)).set i.toNat (lH ((a2.set i.toNat (fH (a2.getD i.toNat (0,0,0,0,())) kx)).getD i.toNat (0,0,0,0,())) (af (kx+1)))).length:Int)then if 0≤i∧i<((((a2.set i.toNat (fH (a2.getD i.toNat (0,0,0,0,())) kx)).set i.toNat (lH ((a2.set i.toNat (fH (a2.getD i.toNat (0,0,0,0,())) kx)).getD i.toNat (0,0,0,0,())) (af (kx+1)))).set i.toNat (yu (((a2.set i.toNat (fH (a2.getD i.toNat (0,0,0,0,())) kx)).set i.toNat (lH ((a2.set i.toNat (fH (a2.getD i.toNat (0,0,0,0,())) kx)).getD i.toNat (0,0,0,0,())) (af (kx+1)))).getD i.toNat (0,0,0,0,())) (af ((af (kx+1))+1)))).length:Int)then nx0 (af ((af ((af ((af (kx+1))+1))+1))+1)) (af (i+1)) ((((a2.set i.toNat (fH (a2.getD i.toNat (0,0,0,0,())) kx)).set i.toNat (lH ((a2.set i.toNat (fH (a2.getD i.toNat (0,0,0,0,())) kx)).getD i.toNat (0,0,0,0,())) (af (kx+1)))).set i.toNat (yu (((a2.set i.toNat (fH (a2.getD i.toNat (0,0,0,0,())) kx)).set i.toNat (lH ((a2.set i.toNat (fH (a2.getD i.toNat (0,0,0,0,())) kx)).getD i.toNat (0,0,0,0,())) (af (kx+1)))).getD i.toNat (0,0,0,0,())) (af ((af (kx+1))+1)))).set i.toNat (X0 ((((a2.set i.toNat (fH (a2.getD i.toNat (0,0,0,0,())) kx)).set i.toNat (lH ((a2.set i.toNat (fH (a2.getD i.toNat (0,0,0,0,())) kx)).getD i.toNat (0,0,0,0,())) (af (kx+1)))).set i.toNat (yu (((a2.set i.toNat (fH (a2.getD i.toNat (0,0,0,0,())) kx)).set i.toNat (lH ((a2.set i.toNat (fH (a2.getD i.toNat (0,0,0,0,())) kx)).getD i.toNat (0,0,0,0,())) (af (kx+1)))).getD i.toNat (0,0,0,0,())) (af ((af (kx+1))+1)))).getD i.toNat (0,0,0,0,())) (af ((af ((af (kx+1))+1))+1))))else none else none else none else none) (ex0 kx a2)
def A0(a:List U7)(ak:Int)(kx:Int)(o0:List U7):Option (Int×(List U7)×Unit):=some (kx,o0,())
def T(lo0:sZ (Int×(List U7)×Unit))(a:List U7)(ak:Int):Option (Int×(List U7)×Unit):=lo0 ak 0 a
def K0{R:Type}(k0:Nat)(K:au R):au R:=bf 0 (bD (fun env ob=>zrc k0 [1,1] env ob (K)) (K))
def L0:sZ R:=fun kx i a2=>iter 1 [0,1,5] [1] (zrc k0 [1,0,1,0,0]) k [(0,.own 0),(1,.int .i64 kx),(5,.int .i64 i)] [.arr aC a2] K
def H0:yL R:=fun kx o0=>K (.exit 0) [(1,.int .i64 kx)] [.arr aC o0]
theorem zs0:L0 k0 (k+1) K=R0 (L0 k0 k K) (H0 K):=by kernel_rfl
def G0{R:Type}(k0:Nat)(hx0:yL R):Nat→sZ R
 |0=>fun _ _ _=>none
 |k+1=>R0 (G0 k0 hx0 k) hx0
theorem aO:∀ k,L0 k0 k K=G0 k0 (H0 K) k:=bI rfl fun k ih=>by rw[zs0,G0];(try simp only[ih]);try rfl
variable (a:List U7) (ak:Int)
def aB:au (Int×(List U7)×Unit):=cu Tryz.prog [.tmp 4] Il Hq (a,ak,())
theorem aU:H0 (K0 k0 (aB a ak))=A0 a ak:=by kernel_rfl
def FF:Option (Int×(List U7)×Unit):=T (G0 k0 (A0 a ak) k0) a ak
theorem aT:cO Tryz.prog (aS []) aA k0 98 Il Hq [] (a,ak,())=FF k0 a ak:=Eq.trans (b:=T (L0 k0 k0 (K0 k0 (aB a ak))) a ak) (by kernel_rfl) (by rw[FF];(try simp only[aO,aU]);try rfl)
def _root_.Go.Rv.Jp:=fun x:(List U7)×Int×Unit=>FF (300+x.1.length) x.1 x.2.1
abbrev _root_.Go.Rv.ZY:aG:=⟨Il,Hq,Jp,[]⟩
theorem _root_.Go.Rv.Zv:aF Dr Tryz.prog 98 ZY:=dw mix .nil (by kernel_rfl) fun x=>⟨aA,_,aT _ _ _⟩
end mD
def SC.T(a0:Int)(a1 a2:List U7)(ak:Int):Option (Int×U3):=(JR (a1,ak,())).bind fun y1=>(Jp (a2,y1.1,())).bind fun y2=>some (y2.1,a0,y1.2.1,y2.2.1,())
def Du:=fun x:Int×(List U7)×(List U7)×Int×Unit=>SC.T x.1 x.2.1 x.2.2.1 x.2.2.2.1
abbrev abC:aG:=⟨[.w true eG,.v false [CT.int .i64]],[(false,[CT.int .i64])],Du,[]⟩
theorem aaT:aF Dr Tryz.prog 47 abC:=aW mix (.c ZN (.c Zv .nil)) (by kernel_rfl) fun x=>by kernel_rfl
abbrev IQ:Is:=[.w false [CT.sl ct0],.v false [CT.int .i64]]
abbrev Ic:Os:=[(false,[CT.int .i64])]
namespace mM
def aA:Nat→List Nat×List Nat:=fun k=>if k=2 then([0,1,5],[1])else([],[])
def zrc{R:Type}(k0:Nat)(p:List Nat):Env→List Ob→au R→Option R:=bF Tryz.prog (aS []) 34 1 aA k0 (bV p (dm Tryz.prog 48))
def R0{R:Type}(nx0:FP R)(ex0:PL R)(kx i:Int)(a2:List U8):Option R:=cond (decide (i<(a2.length:Int))) (if 0≤i∧i<(a2.length:Int)then if 0≤i∧i<((a2.set i.toNat (kx,(a2.getD i.toNat (0,0,0,())).2.1,(a2.getD i.toNat (0,0,0,())).2.2.1,())).length:Int)then if 0≤i∧i<(((a2.set i.toNat (kx,(a2.getD i.toNat (0,0,0,())).2.1,(a2.getD i.toNat (0,0,0,())).2.2.1,())).set i.toNat (((a2.set i.toNat (kx,(a2.getD i.toNat (0,0,0,())).2.1,(a2.getD i.toNat (0,0,0,())).2.2.1,())).getD i.toNat (0,0,0,())).1,(af (kx+1)),((a2.set i.toNat (kx,(a2.getD i.toNat (0,0,0,())).2.1,(a2.getD i.toNat (0,0,0,())).2.2.1,())).getD i.toNat (0,0,0,())).2.2.1,())).length:Int)then nx0 (af ((af ((af (kx+1))+1))+1)) (af (i+1)) (((a2.set i.toNat (kx,(a2.getD i.toNat (0,0,0,())).2.1,(a2.getD i.toNat (0,0,0,())).2.2.1,())).set i.toNat (((a2.set i.toNat (kx,(a2.getD i.toNat (0,0,0,())).2.1,(a2.getD i.toNat (0,0,0,())).2.2.1,())).getD i.toNat (0,0,0,())).1,(af (kx+1)),((a2.set i.toNat (kx,(a2.getD i.toNat (0,0,0,())).2.1,(a2.getD i.toNat (0,0,0,())).2.2.1,())).getD i.toNat (0,0,0,())).2.2.1,())).set i.toNat ((((a2.set i.toNat (kx,(a2.getD i.toNat (0,0,0,())).2.1,(a2.getD i.toNat (0,0,0,())).2.2.1,())).set i.toNat (((a2.set i.toNat (kx,(a2.getD i.toNat (0,0,0,())).2.1,(a2.getD i.toNat (0,0,0,())).2.2.1,())).getD i.toNat (0,0,0,())).1,(af (kx+1)),((a2.set i.toNat (kx,(a2.getD i.toNat (0,0,0,())).2.1,(a2.getD i.toNat (0,0,0,())).2.2.1,())).getD i.toNat (0,0,0,())).2.2.1,())).getD i.toNat (0,0,0,())).1,(((a2.set i.toNat (kx,(a2.getD i.toNat (0,0,0,())).2.1,(a2.getD i.toNat (0,0,0,())).2.2.1,())).set i.toNat (((a2.set i.toNat (kx,(a2.getD i.toNat (0,0,0,())).2.1,(a2.getD i.toNat (0,0,0,())).2.2.1,())).getD i.toNat (0,0,0,())).1,(af (kx+1)),((a2.set i.toNat (kx,(a2.getD i.toNat (0,0,0,())).2.1,(a2.getD i.toNat (0,0,0,())).2.2.1,())).getD i.toNat (0,0,0,())).2.2.1,())).getD i.toNat (0,0,0,())).2.1,(af ((af (kx+1))+1)),()))else none else none else none) (ex0 kx a2)
def A0(a:List U8)(ak:Int)(kx:Int)(o0:List U8):Option (Int×(List U8)×Unit):=some (kx,o0,())
def T(lo0:FP (Int×(List U8)×Unit))(a:List U8)(ak:Int):Option (Int×(List U8)×Unit):=lo0 ak 0 a
def K0{R:Type}(k0:Nat)(K:au R):au R:=bf 0 (bD (fun env ob=>zrc k0 [1,1] env ob (K)) (K))
def L0:FP R:=fun kx i a2=>iter 1 [0,1,5] [1] (zrc k0 [1,0,1,0,0]) k [(0,.own 0),(1,.int .i64 kx),(5,.int .i64 i)] [.arr ct0 a2] K
def H0:PL R:=fun kx o0=>K (.exit 0) [(1,.int .i64 kx)] [.arr ct0 o0]
theorem zs0:L0 k0 (k+1) K=R0 (L0 k0 k K) (H0 K):=by kernel_rfl
def G0{R:Type}(k0:Nat)(hx0:PL R):Nat→FP R
 |0=>fun _ _ _=>none
 |k+1=>R0 (G0 k0 hx0 k) hx0
theorem aO:∀ k,L0 k0 k K=G0 k0 (H0 K) k:=bI rfl fun k ih=>by rw[zs0,G0];(try simp only[ih]);try rfl
variable (a:List U8) (ak:Int)
def aB:au (Int×(List U8)×Unit):=cu Tryz.prog [.tmp 4] IQ Ic (a,ak,())
theorem aU:H0 (K0 k0 (aB a ak))=A0 a ak:=by kernel_rfl
def FF:Option (Int×(List U8)×Unit):=T (G0 k0 (A0 a ak) k0) a ak
theorem aT:cO Tryz.prog (aS []) aA k0 48 IQ Ic [] (a,ak,())=FF k0 a ak:=Eq.trans (b:=T (L0 k0 k0 (K0 k0 (aB a ak))) a ak) (by kernel_rfl) (by rw[FF];(try simp only[aO,aU]);try rfl)
def _root_.Go.Rv.JQ:=fun x:(List U8)×Int×Unit=>FF (300+x.1.length) x.1 x.2.1
abbrev _root_.Go.Rv.aaw:aG:=⟨IQ,Ic,JQ,[]⟩
theorem _root_.Go.Rv.ZM:aF Dr Tryz.prog 48 aaw:=dw mix .nil (by kernel_rfl) fun x=>⟨aA,_,aT _ _ _⟩
end mM
def Rk.T(a0 a1 a2 a3:Int)(a4 a5:List U7)(a6:List U8)(ak:Int):Option (Int×U1):=(Du (a3,a4,a5,ak,())).bind fun y1=>(JQ (a6,y1.1,())).bind fun y2=>some (y2.1,a0,a1,a2,a3,y1.2.2.1,y1.2.2.2.1,y2.2.1,())
def zo:=fun x:Int×Int×Int×Int×(List U7)×(List U7)×(List U8)×Int×Unit=>Rk.T x.1 x.2.1 x.2.2.1 x.2.2.2.1 x.2.2.2.2.1 x.2.2.2.2.2.1 x.2.2.2.2.2.2.1 x.2.2.2.2.2.2.2.1
abbrev aav:aG:=⟨[.w true jf,.v false [CT.int .i64]],[(false,[CT.int .i64])],zo,[]⟩
theorem Qv:aF Dr Tryz.prog 13 aav:=aW mix (.c aaT (.c ZM .nil)) (by kernel_rfl) fun x=>by kernel_rfl
def Qw.T(a0 a1 a2 a3:Int)(a4 a5:List U7)(a6:List U8)(a7 a8 a9 ak:Int):Option (Int×U0):=(zo (a0,a1,a2,a3,a4,a5,a6,ak,())).bind fun y1=>some (y1.1,a0,a1,a2,a3,y1.2.2.2.2.2.1,y1.2.2.2.2.2.2.1,y1.2.2.2.2.2.2.2.1,a7,a8,a9,())
def Cj:=fun x:Int×Int×Int×Int×(List U7)×(List U7)×(List U8)×U7=>Qw.T x.1 x.2.1 x.2.2.1 x.2.2.2.1 x.2.2.2.2.1 x.2.2.2.2.2.1 x.2.2.2.2.2.2.1 x.2.2.2.2.2.2.2.1 x.2.2.2.2.2.2.2.2.1 x.2.2.2.2.2.2.2.2.2.1 x.2.2.2.2.2.2.2.2.2.2.1
abbrev Zn:aG:=⟨[.w true sU,.v false [CT.int .i64]],[(false,[CT.int .i64])],Cj,[]⟩
theorem Zf:aF Dr Tryz.prog 14 Zn:=aW mix (.c Qv .nil) (by kernel_rfl) fun x=>by kernel_rfl
abbrev IW:Is:=[.v false [CT.sl aC],.v false [CT.int .i64]]
abbrev Ih:Os:=[(false,[CT.int .i64])]
namespace kY
def aA:Nat→List Nat×List Nat:=fun k=>if k=2 then([0,1,5],[1,4])else([],[])
def zrc{R:Type}(k0:Nat)(p:List Nat):Env→List Ob→au R→Option R:=bF Tryz.prog (aS []) 49 0 aA k0 (bV p (dm Tryz.prog 99))
def R0{R:Type}(nx0:sW R)(ex0:Y1 R)(ex1:Y2 R)(a2:List U7)(kx i:Int):Option R:=cond (decide (i<(a2.length:Int))) (if 0≤i∧i<(a2.length:Int)then cond ((rd (0,0,0,0,()) a2 i).1 != kx) (ex0 kx (-1)) (if 0≤i∧i<(a2.length:Int)then cond ((rd (0,0,0,0,()) a2 i).2.1 != (af (kx+1))) (ex0 (af (kx+1)) (-1)) (if 0≤i∧i<(a2.length:Int)then cond ((rd (0,0,0,0,()) a2 i).2.2.1 != (af ((af (kx+1))+1))) (ex0 (af ((af (kx+1))+1)) (-1)) (if 0≤i∧i<(a2.length:Int)then cond ((rd (0,0,0,0,()) a2 i).2.2.2.1 != (af ((af ((af (kx+1))+1))+1))) (ex0 (af ((af ((af (kx+1))+1))+1)) (-1)) (nx0 a2 (af ((af ((af ((af (kx+1))+1))+1))+1)) (af (i+1)))else none)else none)else none)else none) (ex1 kx)
def A0(a:List U7)(ak:Int)(kx t4x:Int):Option (Int×Unit):=some (t4x,())
def A1(a:List U7)(ak:Int)(kx:Int):Option (Int×Unit):=some (kx,())
def T(lo0:sW (Int×Unit))(a:List U7)(ak:Int):Option (Int×Unit):=lo0 a ak 0
def K0{R:Type}(k0:Nat)(K:au R):au R:=bf 0 (bD (fun env ob=>zrc k0 [1,1] env ob (K)) (K))
def L0:sW R:=fun a2 kx i=>iter 0 [0,1,5] [1,4] (zrc k0 [1,0,1,0,0]) k [(0,.sl aC a2),(1,.int .i64 kx),(5,.int .i64 i)] [] K
def H0:Y1 R:=fun kx t4x=>K .ret [(1,.int .i64 kx),(4,.int .i64 t4x)] []
def H1:Y2 R:=fun kx=>K (.exit 0) [(1,.int .i64 kx),(4,.undef)] []
theorem zs0:L0 k0 (k+1) K=R0 (L0 k0 k K) (H0 K) (H1 K):=by kernel_rfl
def G0{R:Type}(k0:Nat)(hx0:Y1 R)(hx1:Y2 R):Nat→sW R
 |0=>fun _ _ _=>none
 |k+1=>R0 (G0 k0 hx0 hx1 k) hx0 hx1
theorem aO:∀ k,L0 k0 k K=G0 k0 (H0 K) (H1 K) k:=bI rfl fun k ih=>by rw[zs0,G0];(try simp only[ih]);try rfl
variable (a:List U7) (ak:Int)
def aB:au (Int×Unit):=cu Tryz.prog [.tmp 4] IW Ih (a,ak,())
theorem aU:H0 (K0 k0 (aB a ak))=A0 a ak:=by kernel_rfl
theorem bW:H1 (K0 k0 (aB a ak))=A1 a ak:=by kernel_rfl
def FF:Option (Int×Unit):=T (G0 k0 (A0 a ak) (A1 a ak) k0) a ak
theorem aT:cO Tryz.prog (aS []) aA k0 99 IW Ih [] (a,ak,())=FF k0 a ak:=Eq.trans (b:=T (L0 k0 k0 (K0 k0 (aB a ak))) a ak) (by kernel_rfl) (by rw[FF];(try simp only[aO,aU,bW]);try rfl)
def _root_.Go.Rv.JU:=fun x:(List U7)×Int×Unit=>FF (300+x.1.length) x.1 x.2.1
abbrev _root_.Go.Rv.aaA:aG:=⟨IW,Ih,JU,[]⟩
theorem _root_.Go.Rv.ZQ:aF Dr Tryz.prog 99 aaA:=dw mix .nil (by kernel_rfl) fun x=>⟨aA,_,aT _ _ _⟩
end kY
abbrev Io:Is:=[.v false [CT.sl aC],.v false [CT.int .i64]]
abbrev Hr:Os:=[(false,[CT.int .i64])]
namespace kV
def aA:Nat→List Nat×List Nat:=fun k=>if k=2 then([0,1,5],[1,4])else([],[])
def zrc{R:Type}(k0:Nat)(p:List Nat):Env→List Ob→au R→Option R:=bF Tryz.prog (aS []) 49 0 aA k0 (bV p (dm Tryz.prog 100))
def R0{R:Type}(nx0:sW R)(ex0:Y1 R)(ex1:Y2 R)(a2:List U7)(kx i:Int):Option R:=cond (decide (i<(a2.length:Int))) (if 0≤i∧i<(a2.length:Int)then cond ((rd (0,0,0,0,()) a2 i).1 != kx) (ex0 kx (-1)) (if 0≤i∧i<(a2.length:Int)then cond ((rd (0,0,0,0,()) a2 i).2.1 != (af (kx+1))) (ex0 (af (kx+1)) (-1)) (if 0≤i∧i<(a2.length:Int)then cond ((rd (0,0,0,0,()) a2 i).2.2.1 != (af ((af (kx+1))+1))) (ex0 (af ((af (kx+1))+1)) (-1)) (if 0≤i∧i<(a2.length:Int)then cond ((rd (0,0,0,0,()) a2 i).2.2.2.1 != (af ((af ((af (kx+1))+1))+1))) (ex0 (af ((af ((af (kx+1))+1))+1)) (-1)) (nx0 a2 (af ((af ((af ((af (kx+1))+1))+1))+1)) (af (i+1)))else none)else none)else none)else none) (ex1 kx)
def A0(a:List U7)(ak:Int)(kx t4x:Int):Option (Int×Unit):=some (t4x,())
def A1(a:List U7)(ak:Int)(kx:Int):Option (Int×Unit):=some (kx,())
def T(lo0:sW (Int×Unit))(a:List U7)(ak:Int):Option (Int×Unit):=lo0 a ak 0
def K0{R:Type}(k0:Nat)(K:au R):au R:=bf 0 (bD (fun env ob=>zrc k0 [1,1] env ob (K)) (K))
def L0:sW R:=fun a2 kx i=>iter 0 [0,1,5] [1,4] (zrc k0 [1,0,1,0,0]) k [(0,.sl aC a2),(1,.int .i64 kx),(5,.int .i64 i)] [] K
def H0:Y1 R:=fun kx t4x=>K .ret [(1,.int .i64 kx),(4,.int .i64 t4x)] []
def H1:Y2 R:=fun kx=>K (.exit 0) [(1,.int .i64 kx),(4,.undef)] []
theorem zs0:L0 k0 (k+1) K=R0 (L0 k0 k K) (H0 K) (H1 K):=by kernel_rfl
def G0{R:Type}(k0:Nat)(hx0:Y1 R)(hx1:Y2 R):Nat→sW R
 |0=>fun _ _ _=>none
 |k+1=>R0 (G0 k0 hx0 hx1 k) hx0 hx1
theorem aO:∀ k,L0 k0 k K=G0 k0 (H0 K) (H1 K) k:=bI rfl fun k ih=>by rw[zs0,G0];(try simp only[ih]);try rfl
variable (a:List U7) (ak:Int)
def aB:au (Int×Unit):=cu Tryz.prog [.tmp 4] Io Hr (a,ak,())
theorem aU:H0 (K0 k0 (aB a ak))=A0 a ak:=by kernel_rfl
theorem bW:H1 (K0 k0 (aB a ak))=A1 a ak:=by kernel_rfl
def FF:Option (Int×Unit):=T (G0 k0 (A0 a ak) (A1 a ak) k0) a ak
theorem aT:cO Tryz.prog (aS []) aA k0 100 Io Hr [] (a,ak,())=FF k0 a ak:=Eq.trans (b:=T (L0 k0 k0 (K0 k0 (aB a ak))) a ak) (by kernel_rfl) (by rw[FF];(try simp only[aO,aU,bW]);try rfl)
def _root_.Go.Rv.Jq:=fun x:(List U7)×Int×Unit=>FF (300+x.1.length) x.1 x.2.1
abbrev _root_.Go.Rv.Z4:aG:=⟨Io,Hr,Jq,[]⟩
theorem _root_.Go.Rv.Zw:aF Dr Tryz.prog 100 Z4:=dw mix .nil (by kernel_rfl) fun x=>⟨aA,_,aT _ _ _⟩
end kV
def SE.T(a0:Int)(a1 a2:List U7)(ak:Int):Option (Int×Unit):=(JU (a1,ak,())).bind fun y1=>cond (decide (y1.1<0)) (some ((-1),())) ((Jq (a2,y1.1,())).bind fun y2=>cond (decide (y2.1<0)) (some ((-1),())) (some (y2.1,())))
def Dv:=fun x:Int×(List U7)×(List U7)×Int×Unit=>SE.T x.1 x.2.1 x.2.2.1 x.2.2.2.1
abbrev abD:aG:=⟨[.v true eG,.v false [CT.int .i64]],[(false,[CT.int .i64])],Dv,[]⟩
theorem aaU:aF Dr Tryz.prog 53 abD:=aW mix (.c ZQ (.c Zw .nil)) (by kernel_rfl) fun x=>by kernel_rfl
abbrev IV:Is:=[.v false [CT.sl ct0],.v false [CT.int .i64]]
abbrev Ig:Os:=[(false,[CT.int .i64])]
namespace kX
def aA:Nat→List Nat×List Nat:=fun k=>if k=2 then([0,1,5],[1,4])else([],[])
def zrc{R:Type}(k0:Nat)(p:List Nat):Env→List Ob→au R→Option R:=bF Tryz.prog (aS []) 40 0 aA k0 (bV p (dm Tryz.prog 54))
def R0{R:Type}(nx0:FO R)(ex0:Y1 R)(ex1:Y2 R)(a2:List U8)(kx i:Int):Option R:=cond (decide (i<(a2.length:Int))) (if 0≤i∧i<(a2.length:Int)then cond ((rd (0,0,0,()) a2 i).1 != kx) (ex0 kx (-1)) (if 0≤i∧i<(a2.length:Int)then cond ((rd (0,0,0,()) a2 i).2.1 != (af (kx+1))) (ex0 (af (kx+1)) (-1)) (if 0≤i∧i<(a2.length:Int)then cond ((rd (0,0,0,()) a2 i).2.2.1 != (af ((af (kx+1))+1))) (ex0 (af ((af (kx+1))+1)) (-1)) (nx0 a2 (af ((af ((af (kx+1))+1))+1)) (af (i+1)))else none)else none)else none) (ex1 kx)
def A0(a:List U8)(ak:Int)(kx t4x:Int):Option (Int×Unit):=some (t4x,())
def A1(a:List U8)(ak:Int)(kx:Int):Option (Int×Unit):=some (kx,())
def T(lo0:FO (Int×Unit))(a:List U8)(ak:Int):Option (Int×Unit):=lo0 a ak 0
def K0{R:Type}(k0:Nat)(K:au R):au R:=bf 0 (bD (fun env ob=>zrc k0 [1,1] env ob (K)) (K))
def L0:FO R:=fun a2 kx i=>iter 0 [0,1,5] [1,4] (zrc k0 [1,0,1,0,0]) k [(0,.sl ct0 a2),(1,.int .i64 kx),(5,.int .i64 i)] [] K
def H0:Y1 R:=fun kx t4x=>K .ret [(1,.int .i64 kx),(4,.int .i64 t4x)] []
def H1:Y2 R:=fun kx=>K (.exit 0) [(1,.int .i64 kx),(4,.undef)] []
theorem zs0:L0 k0 (k+1) K=R0 (L0 k0 k K) (H0 K) (H1 K):=by kernel_rfl
def G0{R:Type}(k0:Nat)(hx0:Y1 R)(hx1:Y2 R):Nat→FO R
 |0=>fun _ _ _=>none
 |k+1=>R0 (G0 k0 hx0 hx1 k) hx0 hx1
theorem aO:∀ k,L0 k0 k K=G0 k0 (H0 K) (H1 K) k:=bI rfl fun k ih=>by rw[zs0,G0];(try simp only[ih]);try rfl
variable (a:List U8) (ak:Int)
def aB:au (Int×Unit):=cu Tryz.prog [.tmp 4] IV Ig (a,ak,())
theorem aU:H0 (K0 k0 (aB a ak))=A0 a ak:=by kernel_rfl
theorem bW:H1 (K0 k0 (aB a ak))=A1 a ak:=by kernel_rfl
def FF:Option (Int×Unit):=T (G0 k0 (A0 a ak) (A1 a ak) k0) a ak
theorem aT:cO Tryz.prog (aS []) aA k0 54 IV Ig [] (a,ak,())=FF k0 a ak:=Eq.trans (b:=T (L0 k0 k0 (K0 k0 (aB a ak))) a ak) (by kernel_rfl) (by rw[FF];(try simp only[aO,aU,bW]);try rfl)
def _root_.Go.Rv.JS:=fun x:(List U8)×Int×Unit=>FF (300+x.1.length) x.1 x.2.1
abbrev _root_.Go.Rv.aaz:aG:=⟨IV,Ig,JS,[]⟩
theorem _root_.Go.Rv.ZP:aF Dr Tryz.prog 54 aaz:=dw mix .nil (by kernel_rfl) fun x=>⟨aA,_,aT _ _ _⟩
end kX
def Rl.T(a0 a1 a2 a3:Int)(a4 a5:List U7)(a6:List U8)(ak:Int):Option (Int×Unit):=(Dv (a3,a4,a5,ak,())).bind fun y1=>cond (decide (y1.1<0)) (some ((-1),())) ((JS (a6,y1.1,())).bind fun y2=>cond (decide (y2.1<0)) (some ((-1),())) (some (y2.1,())))
def CX:=fun x:Int×Int×Int×Int×(List U7)×(List U7)×(List U8)×Int×Unit=>Rl.T x.1 x.2.1 x.2.2.1 x.2.2.2.1 x.2.2.2.2.1 x.2.2.2.2.2.1 x.2.2.2.2.2.2.1 x.2.2.2.2.2.2.2.1
abbrev aay:aG:=⟨[.v true jf,.v false [CT.int .i64]],[(false,[CT.int .i64])],CX,[]⟩
theorem ZO:aF Dr Tryz.prog 27 aay:=aW mix (.c aaU (.c ZP .nil)) (by kernel_rfl) fun x=>by kernel_rfl
def Qx.T(a0 a1 a2 a3:Int)(a4 a5:List U7)(a6:List U8)(a7 a8 a9 ak:Int):Option (Int×Unit):=(CX (a0,a1,a2,a3,a4,a5,a6,ak,())).bind fun y1=>cond (decide (y1.1<0)) (some ((-1),())) (some (y1.1,()))
def zf:=fun x:Int×Int×Int×Int×(List U7)×(List U7)×(List U8)×U7=>Qx.T x.1 x.2.1 x.2.2.1 x.2.2.2.1 x.2.2.2.2.1 x.2.2.2.2.2.1 x.2.2.2.2.2.2.1 x.2.2.2.2.2.2.2.1 x.2.2.2.2.2.2.2.2.1 x.2.2.2.2.2.2.2.2.2.1 x.2.2.2.2.2.2.2.2.2.2.1
abbrev Zo:aG:=⟨[.v true sU,.v false [CT.int .i64]],[(false,[CT.int .i64])],zf,[]⟩
theorem Zg:aF Dr Tryz.prog 15 Zo:=aW mix (.c ZO .nil) (by kernel_rfl) fun x=>by kernel_rfl
abbrev Ce:Is:=[.v true jf,.v true iK]
abbrev Qm:Os:=[(false,[CT.bool])]
def Qp.T(aS0 aS1 aS2 aS3:Int)(aS4 aS5:List U7)(aS6:List U8)(aO0 aO1 aO2 aO3 aO4:Int):Option (Bool×Unit):=(Dp (aS0,aS1,aS2,aS3,aS4,aS5,aS6,1048576,())).bind fun y1=>cond (decide (y1.1<0)) (some (true,())) ((uq (aS0,aS1,aS2,aS3,aS4,aS5,aS6,())).bind fun y2=>(zZ (aO0,aO1,aO2,aO3,aO4,())).bind fun y3=>(wF (y2.1,y2.2.1,y2.2.2.1,y2.2.2.2.1,y2.2.2.2.2.1,y2.2.2.2.2.2.1,y2.2.2.2.2.2.2.1,y3.1,y3.2.1,y3.2.2.1,y3.2.2.2.1,y3.2.2.2.2.1,())).bind fun y4=>(uq (aS0,aS1,aS2,aS3,aS4,aS5,aS6,())).bind fun y5=>(zZ (aO0,aO1,aO2,aO3,aO4,())).bind fun y6=>(zJ (y5.1,y5.2.1,y5.2.2.1,y5.2.2.2.1,y5.2.2.2.2.1,y5.2.2.2.2.2.1,y5.2.2.2.2.2.2.1,y6.1,y6.2.1,y6.2.2.1,y6.2.2.2.1,y6.2.2.2.2.1,())).bind fun y7=>(vY (y7.1,y7.2.1,y7.2.2.1,y7.2.2.2.1,y7.2.2.2.2.1,y7.2.2.2.2.2.1,y7.2.2.2.2.2.2.1,y7.2.2.2.2.2.2.2.1,y7.2.2.2.2.2.2.2.2.1,y7.2.2.2.2.2.2.2.2.2.1,y4.1,y4.2.1,y4.2.2.1,y4.2.2.2.1,y4.2.2.2.2.1,y4.2.2.2.2.2.1,y4.2.2.2.2.2.2.1,y4.2.2.2.2.2.2.2.1,y4.2.2.2.2.2.2.2.2.1,y4.2.2.2.2.2.2.2.2.2.1,())).bind fun y8=>cond (!y8.1) (some (false,())) ((uq (aS0,aS1,aS2,aS3,aS4,aS5,aS6,())).bind fun y9=>(zI (y5.1,y5.2.1,y5.2.2.1,y5.2.2.2.1,y5.2.2.2.2.1,y5.2.2.2.2.2.1,y5.2.2.2.2.2.2.1,y9.1,y9.2.1,y9.2.2.1,y9.2.2.2.1,y9.2.2.2.2.1,y9.2.2.2.2.2.1,y9.2.2.2.2.2.2.1,())).bind fun y10=>cond (!y10.1) (some (false,())) ((zo (y5.1,y5.2.1,y5.2.2.1,y5.2.2.2.1,y5.2.2.2.2.1,y5.2.2.2.2.2.1,y5.2.2.2.2.2.2.1,1,())).bind fun y11=>cond (decide (y11.1<0)) (some (false,())) ((vY (y7.1,y7.2.1,y7.2.2.1,y7.2.2.2.1,y7.2.2.2.2.1,y7.2.2.2.2.2.1,y7.2.2.2.2.2.2.1,y7.2.2.2.2.2.2.2.1,y7.2.2.2.2.2.2.2.2.1,y7.2.2.2.2.2.2.2.2.2.1,y4.1,y4.2.1,y4.2.2.1,y4.2.2.2.1,y4.2.2.2.2.1,y4.2.2.2.2.2.1,y4.2.2.2.2.2.2.1,y4.2.2.2.2.2.2.2.1,y4.2.2.2.2.2.2.2.2.1,y4.2.2.2.2.2.2.2.2.2.1,())).bind fun y12=>cond (!y12.1) (some (false,())) ((Cj (y7.1,y7.2.1,y7.2.2.1,y7.2.2.2.1,y7.2.2.2.2.1,y7.2.2.2.2.2.1,y7.2.2.2.2.2.2.1,y7.2.2.2.2.2.2.2.1,y7.2.2.2.2.2.2.2.2.1,y7.2.2.2.2.2.2.2.2.2.1,1,())).bind fun y13=>(zf (y7.1,y7.2.1,y7.2.2.1,y7.2.2.2.1,y13.2.2.2.2.2.1,y13.2.2.2.2.2.2.1,y13.2.2.2.2.2.2.2.1,y7.2.2.2.2.2.2.2.1,y7.2.2.2.2.2.2.2.2.1,y7.2.2.2.2.2.2.2.2.2.1,1,())).bind fun y14=>cond (decide (y14.1<0)) (some (false,())) (cond (y14.1 != y13.1) (some (false,())) ((uq (aS0,aS1,aS2,aS3,aS4,aS5,aS6,())).bind fun y15=>(zZ (aO0,aO1,aO2,aO3,aO4,())).bind fun y16=>(zJ (y15.1,y15.2.1,y15.2.2.1,y15.2.2.2.1,y15.2.2.2.2.1,y15.2.2.2.2.2.1,y15.2.2.2.2.2.2.1,y16.1,y16.2.1,y16.2.2.1,y16.2.2.2.1,y16.2.2.2.2.1,())).bind fun y17=>(vY (y17.1,y17.2.1,y17.2.2.1,y17.2.2.2.1,y17.2.2.2.2.1,y17.2.2.2.2.2.1,y17.2.2.2.2.2.2.1,y17.2.2.2.2.2.2.2.1,y17.2.2.2.2.2.2.2.2.1,y17.2.2.2.2.2.2.2.2.2.1,y4.1,y4.2.1,y4.2.2.1,y4.2.2.2.1,y4.2.2.2.2.1,y4.2.2.2.2.2.1,y4.2.2.2.2.2.2.1,y4.2.2.2.2.2.2.2.1,y4.2.2.2.2.2.2.2.2.1,y4.2.2.2.2.2.2.2.2.2.1,())).bind fun y18=>cond (!y18.1) (some (false,())) ((zf (y7.1,y7.2.1,y7.2.2.1,y7.2.2.2.1,y13.2.2.2.2.2.1,y13.2.2.2.2.2.2.1,y13.2.2.2.2.2.2.2.1,y7.2.2.2.2.2.2.2.1,y7.2.2.2.2.2.2.2.2.1,y7.2.2.2.2.2.2.2.2.2.1,1,())).bind fun y19=>cond (decide (y19.1<0)) (some (false,())) (cond (y19.1 != y13.1) (some (false,())) (some (true,())))))))))))
def yZ:=fun x:Int×Int×Int×Int×(List U7)×(List U7)×(List U8)×U5=>Qp.T x.1 x.2.1 x.2.2.1 x.2.2.2.1 x.2.2.2.2.1 x.2.2.2.2.2.1 x.2.2.2.2.2.2.1 x.2.2.2.2.2.2.2.1 x.2.2.2.2.2.2.2.2.1 x.2.2.2.2.2.2.2.2.2.1 x.2.2.2.2.2.2.2.2.2.2.1 x.2.2.2.2.2.2.2.2.2.2.2.1
abbrev Ze:aG:=⟨Ce,Qm,yZ,[]⟩
theorem Zb:aF KN Tryz.prog 3 Ze:=aW mix (.c aaQ (.c aaJ (.c aaM (.c acB (.c aaZ (.c Zx (.c QR (.c Qv (.c Zf (.c Zg .nil)))))))))) (by kernel_rfl) fun x=>by kernel_rfl
end Go.Rv
end
