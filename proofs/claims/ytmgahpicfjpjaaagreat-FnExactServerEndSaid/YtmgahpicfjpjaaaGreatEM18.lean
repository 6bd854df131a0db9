/- What functions come to on pure values (printed by a program of ours). -/
import Derived.Test.YtmgahpicfjpjaaaGreatEM17
set_option linter.unusedVariables false
set_option linter.unusedSimpArgs false
set_option linter.unusedSectionVars false
set_option maxRecDepth 100000
noncomputable section
namespace Go.Rv
open Go.Proofs
variable {Dr:Kn} {R:Type} (k0 k:Nat) (K:ai R)
def TU.T(a:List U7)(left:Int):Option (Int×Unit):=cond (decide ((af (left - (a.length:Int)))<0)) (some ((-1),())) (some ((af (left - (a.length:Int))),()))
def DC:=fun x:(List U7)×Int×Unit=>TU.T x.1 x.2.1
abbrev acr:aG:=⟨[.v false [CT.sl aC],.v false [CT.int .i64]],[(false,[CT.int .i64])],DC,[]⟩
theorem abC:aF Dr Tryz.prog 55 acr:=aW mix .nil (by kernel_rfl) fun x=>by kernel_rfl
def Tv.T(a:List U7)(left:Int):Option (Int×Unit):=cond (decide ((af (left - (a.length:Int)))<0)) (some ((-1),())) (some ((af (left - (a.length:Int))),()))
def Dq:=fun x:(List U7)×Int×Unit=>Tv.T x.1 x.2.1
abbrev abQ:aG:=⟨[.v false [CT.sl aC],.v false [CT.int .i64]],[(false,[CT.int .i64])],Dq,[]⟩
theorem aaX:aF Dr Tryz.prog 56 abQ:=aW mix .nil (by kernel_rfl) fun x=>by kernel_rfl
def UM.T(a0:Int)(a1 a2:List U7)(left:Int):Option (Int×Unit):=(DC (a1,left,())).bind fun y1=>cond (decide (y1.1<0)) (some ((-1),())) ((Dq (a2,y1.1,())).bind fun y2=>cond (decide (y2.1<0)) (some ((-1),())) (some (y2.1,())))
def Ee:=fun x:Int×(List U7)×(List U7)×Int×Unit=>UM.T x.1 x.2.1 x.2.2.1 x.2.2.2.1
abbrev ade:aG:=⟨[.v true eH,.v false [CT.int .i64]],[(false,[CT.int .i64])],Ee,[]⟩
theorem acI:aF Dr Tryz.prog 28 ade:=aW mix (.c abC (.c aaX .nil)) (by kernel_rfl) fun x=>by kernel_rfl
def TT.T(a:List U8)(left:Int):Option (Int×Unit):=cond (decide ((af (left - (a.length:Int)))<0)) (some ((-1),())) (some ((af (left - (a.length:Int))),()))
def Dz:=fun x:(List U8)×Int×Unit=>TT.T x.1 x.2.1
abbrev acp:aG:=⟨[.v false [CT.sl ct0],.v false [CT.int .i64]],[(false,[CT.int .i64])],Dz,[]⟩
theorem abB:aF Dr Tryz.prog 29 acp:=aW mix .nil (by kernel_rfl) fun x=>by kernel_rfl
def TS.T(a0 a1 a2 a3:Int)(a4 a5:List U7)(a6:List U8)(left:Int):Option (Int×Unit):=(Ee (a3,a4,a5,left,())).bind fun y1=>cond (decide (y1.1<0)) (some ((-1),())) ((Dz (a6,y1.1,())).bind fun y2=>cond (decide (y2.1<0)) (some ((-1),())) (some (y2.1,())))
def Dy:=fun x:Int×Int×Int×Int×(List U7)×(List U7)×(List U8)×Int×Unit=>TS.T x.1 x.2.1 x.2.2.1 x.2.2.2.1 x.2.2.2.2.1 x.2.2.2.2.2.1 x.2.2.2.2.2.2.1 x.2.2.2.2.2.2.2.1
abbrev aco:aG:=⟨[.v true gV,.v false [CT.int .i64]],[(false,[CT.int .i64])],Dy,[]⟩
theorem abA:aF Dr Tryz.prog 6 aco:=aW mix (.c acI (.c abB .nil)) (by kernel_rfl) fun x=>by kernel_rfl
def adv.T(a0 a1 a2 a3:Int):Option (U7):=some (a0,a1,a2,a3,())
def MS:=fun x:U7=>adv.T x.1 x.2.1 x.2.2.1 x.2.2.2.1
abbrev MO:aG:=⟨[.v true aC],[(true,aC)],MS,[]⟩
theorem ab5:aF Dr Tryz.prog 105 MO:=aW mix .nil (by kernel_rfl) fun x=>by kernel_rfl
abbrev Ku:Is:=[.v false [CT.sl aC]]
abbrev JB:Os:=[(false,[CT.sl aC])]
namespace pF
def ay:Nat→List Nat×List Nat:=fun k=>if k=3 then([0,3,4],[3])else([],[])
def zrc{R:Type}(k0:Nat)(p:List Nat):Env→List Ob→ai R→Option R:=bD Tryz.prog (aP [(105,[],MO)]) 23 0 ay k0 (bQ p (cZ Tryz.prog 75))
def R0{R:Type}(nx0:uz R)(ex0:zn R)(a2:List U7)(i:Int)(out:List U7):Option R:=cond (decide (i<(a2.length:Int))) (if 0≤i∧i<(a2.length:Int)then(MS ((rd (0,0,0,0,()) a2 i).1,(rd (0,0,0,0,()) a2 i).2.1,(rd (0,0,0,0,()) a2 i).2.2.1,(rd (0,0,0,0,()) a2 i).2.2.2.1,())).bind fun y1=>if 0≤i∧i<(out.length:Int)then nx0 a2 (af (i+1)) (out.set i.toNat (y1.1,y1.2.1,y1.2.2.1,y1.2.2.2.1,()))else none else none) (ex0 out)
def A0(a:List U7)(out:List U7):Option ((List U7)×Unit):=some (out,())
def T(lo0:uz ((List U7)×Unit))(a:List U7):Option ((List U7)×Unit):=if 0≤(a.length:Int)∧(32:Int)*(a.length:Int)≤281474976710656∧(a.length:Int)≤9223372036854775807 then lo0 a 0 (List.replicate (((a.length:Int):Int)).toNat (0,0,0,0,()))else none
def K0{R:Type}(k0:Nat)(K:ai R):ai R:=aY 0 (bg (fun env ob=>zrc k0 [1,1,1] env ob (K)) (K))
def L0:uz R:=fun a2 i out=>iter 0 [0,3,4] [3] (zrc k0 [1,1,0,1,0,0]) k [(0,.sl aC a2),(3,.own 0),(4,.int .i64 i)] [.arr aC out] K
def H0:zn R:=fun out=>K (.exit 0) [(3,.own 0)] [.arr aC out]
theorem zs0:L0 k0 (k+1) K=R0 (L0 k0 k K) (H0 K):=by kernel_rfl
def G0{R:Type}(k0:Nat)(hx0:zn R):Nat→uz R
 |0=>fun _ _ _=>none
 |k+1=>R0 (G0 k0 hx0 k) hx0
theorem aK:∀ k,L0 k0 k K=G0 k0 (H0 K) k:=bG rfl fun k ih=>by rw[zs0,G0];(try simp only[ih]);try rfl
variable (a:List U7)
def aA:ai ((List U7)×Unit):=bW Tryz.prog [.tmp 2] Ku JB (a,())
theorem aS:H0 (K0 k0 (aA a))=A0 a:=by kernel_rfl
def FF:Option ((List U7)×Unit):=T (G0 k0 (A0 a) k0) a
theorem aQ:bZ Tryz.prog (aP [(105,[],MO)]) ay k0 75 Ku JB [] (a,())=FF k0 a:=Eq.trans (b:=T (L0 k0 k0 (K0 k0 (aA a))) a) (by kernel_rfl) (by rw[FF];(try simp only[aK,aS]);try rfl)
def _root_.Go.Rv.L9:=fun x:(List U7)×Unit=>FF (300+x.1.length) x.1
abbrev _root_.Go.Rv.acn:aG:=⟨Ku,JB,L9,[]⟩
theorem _root_.Go.Rv.abz:aF Dr Tryz.prog 75 acn:=dh mix (.c ab5 .nil) (by kernel_rfl) fun x=>⟨ay,_,aQ _ _⟩
end pF
def ac7.T(a0 a1 a2 a3:Int):Option (U7):=some (a0,a1,a2,a3,())
def L6:=fun x:U7=>ac7.T x.1 x.2.1 x.2.2.1 x.2.2.2.1
abbrev LY:aG:=⟨[.v true aC],[(true,aC)],L6,[]⟩
theorem abx:aF Dr Tryz.prog 106 LY:=aW mix .nil (by kernel_rfl) fun x=>by kernel_rfl
abbrev JG:Is:=[.v false [CT.sl aC]]
abbrev Jg:Os:=[(false,[CT.sl aC])]
namespace oZ
def ay:Nat→List Nat×List Nat:=fun k=>if k=3 then([0,3,4],[3])else([],[])
def zrc{R:Type}(k0:Nat)(p:List Nat):Env→List Ob→ai R→Option R:=bD Tryz.prog (aP [(106,[],LY)]) 23 0 ay k0 (bQ p (cZ Tryz.prog 76))
def R0{R:Type}(nx0:uz R)(ex0:zn R)(a2:List U7)(i:Int)(out:List U7):Option R:=cond (decide (i<(a2.length:Int))) (if 0≤i∧i<(a2.length:Int)then(L6 ((rd (0,0,0,0,()) a2 i).1,(rd (0,0,0,0,()) a2 i).2.1,(rd (0,0,0,0,()) a2 i).2.2.1,(rd (0,0,0,0,()) a2 i).2.2.2.1,())).bind fun y1=>if 0≤i∧i<(out.length:Int)then nx0 a2 (af (i+1)) (out.set i.toNat (y1.1,y1.2.1,y1.2.2.1,y1.2.2.2.1,()))else none else none) (ex0 out)
def A0(a:List U7)(out:List U7):Option ((List U7)×Unit):=some (out,())
def T(lo0:uz ((List U7)×Unit))(a:List U7):Option ((List U7)×Unit):=if 0≤(a.length:Int)∧(32:Int)*(a.length:Int)≤281474976710656∧(a.length:Int)≤9223372036854775807 then lo0 a 0 (List.replicate (((a.length:Int):Int)).toNat (0,0,0,0,()))else none
def K0{R:Type}(k0:Nat)(K:ai R):ai R:=aY 0 (bg (fun env ob=>zrc k0 [1,1,1] env ob (K)) (K))
def L0:uz R:=fun a2 i out=>iter 0 [0,3,4] [3] (zrc k0 [1,1,0,1,0,0]) k [(0,.sl aC a2),(3,.own 0),(4,.int .i64 i)] [.arr aC out] K
def H0:zn R:=fun out=>K (.exit 0) [(3,.own 0)] [.arr aC out]
theorem zs0:L0 k0 (k+1) K=R0 (L0 k0 k K) (H0 K):=by kernel_rfl
def G0{R:Type}(k0:Nat)(hx0:zn R):Nat→uz R
 |0=>fun _ _ _=>none
 |k+1=>R0 (G0 k0 hx0 k) hx0
theorem aK:∀ k,L0 k0 k K=G0 k0 (H0 K) k:=bG rfl fun k ih=>by rw[zs0,G0];(try simp only[ih]);try rfl
variable (a:List U7)
def aA:ai ((List U7)×Unit):=bW Tryz.prog [.tmp 2] JG Jg (a,())
theorem aS:H0 (K0 k0 (aA a))=A0 a:=by kernel_rfl
def FF:Option ((List U7)×Unit):=T (G0 k0 (A0 a) k0) a
theorem aQ:bZ Tryz.prog (aP [(106,[],LY)]) ay k0 76 JG Jg [] (a,())=FF k0 a:=Eq.trans (b:=T (L0 k0 k0 (K0 k0 (aA a))) a) (by kernel_rfl) (by rw[FF];(try simp only[aK,aS]);try rfl)
def _root_.Go.Rv.Lj:=fun x:(List U7)×Unit=>FF (300+x.1.length) x.1
abbrev _root_.Go.Rv.abP:aG:=⟨JG,Jg,Lj,[]⟩
theorem _root_.Go.Rv.aaW:aF Dr Tryz.prog 76 abP:=dh mix (.c abx .nil) (by kernel_rfl) fun x=>⟨ay,_,aQ _ _⟩
end oZ
def UL.T(a0:Int)(a1 a2:List U7):Option (U3):=(L9 (a1,())).bind fun y1=>(Lj (a2,())).bind fun y2=>some (a0,y1.1,y2.1,())
def Ed:=fun x:U3=>UL.T x.1 x.2.1 x.2.2.1
abbrev adb:aG:=⟨[.v true eH],[(true,eH)],Ed,[]⟩
theorem acH:aF Dr Tryz.prog 39 adb:=aW mix (.c abz (.c aaW .nil)) (by kernel_rfl) fun x=>by kernel_rfl
def adu.T(a0 a1 a2:Int):Option (U8):=some (a0,a1,a2,())
def MR:=fun x:U8=>adu.T x.1 x.2.1 x.2.2.1
abbrev MN:aG:=⟨[.v true ct0],[(true,ct0)],MR,[]⟩
theorem ab4:aF Dr Tryz.prog 77 MN:=aW mix .nil (by kernel_rfl) fun x=>by kernel_rfl
abbrev Kt:Is:=[.v false [CT.sl ct0]]
abbrev JA:Os:=[(false,[CT.sl ct0])]
namespace pz
def ay:Nat→List Nat×List Nat:=fun k=>if k=3 then([0,3,4],[3])else([],[])
def zrc{R:Type}(k0:Nat)(p:List Nat):Env→List Ob→ai R→Option R:=bD Tryz.prog (aP [(77,[],MN)]) 23 0 ay k0 (bQ p (cZ Tryz.prog 40))
def R0{R:Type}(nx0:GV R)(ex0:zl R)(a2:List U8)(i:Int)(out:List U8):Option R:=cond (decide (i<(a2.length:Int))) (if 0≤i∧i<(a2.length:Int)then(MR ((rd (0,0,0,()) a2 i).1,(rd (0,0,0,()) a2 i).2.1,(rd (0,0,0,()) a2 i).2.2.1,())).bind fun y1=>if 0≤i∧i<(out.length:Int)then nx0 a2 (af (i+1)) (out.set i.toNat (y1.1,y1.2.1,y1.2.2.1,()))else none else none) (ex0 out)
def A0(a:List U8)(out:List U8):Option ((List U8)×Unit):=some (out,())
def T(lo0:GV ((List U8)×Unit))(a:List U8):Option ((List U8)×Unit):=if 0≤(a.length:Int)∧(24:Int)*(a.length:Int)≤281474976710656∧(a.length:Int)≤9223372036854775807 then lo0 a 0 (List.replicate (((a.length:Int):Int)).toNat (0,0,0,()))else none
def K0{R:Type}(k0:Nat)(K:ai R):ai R:=aY 0 (bg (fun env ob=>zrc k0 [1,1,1] env ob (K)) (K))
def L0:GV R:=fun a2 i out=>iter 0 [0,3,4] [3] (zrc k0 [1,1,0,1,0,0]) k [(0,.sl ct0 a2),(3,.own 0),(4,.int .i64 i)] [.arr ct0 out] K
def H0:zl R:=fun out=>K (.exit 0) [(3,.own 0)] [.arr ct0 out]
theorem zs0:L0 k0 (k+1) K=R0 (L0 k0 k K) (H0 K):=by kernel_rfl
def G0{R:Type}(k0:Nat)(hx0:zl R):Nat→GV R
 |0=>fun _ _ _=>none
 |k+1=>R0 (G0 k0 hx0 k) hx0
theorem aK:∀ k,L0 k0 k K=G0 k0 (H0 K) k:=bG rfl fun k ih=>by rw[zs0,G0];(try simp only[ih]);try rfl
variable (a:List U8)
def aA:ai ((List U8)×Unit):=bW Tryz.prog [.tmp 2] Kt JA (a,())
theorem aS:H0 (K0 k0 (aA a))=A0 a:=by kernel_rfl
def FF:Option ((List U8)×Unit):=T (G0 k0 (A0 a) k0) a
theorem aQ:bZ Tryz.prog (aP [(77,[],MN)]) ay k0 40 Kt JA [] (a,())=FF k0 a:=Eq.trans (b:=T (L0 k0 k0 (K0 k0 (aA a))) a) (by kernel_rfl) (by rw[FF];(try simp only[aK,aS]);try rfl)
def _root_.Go.Rv.L8:=fun x:(List U8)×Unit=>FF (300+x.1.length) x.1
abbrev _root_.Go.Rv.ack:aG:=⟨Kt,JA,L8,[]⟩
theorem _root_.Go.Rv.aby:aF Dr Tryz.prog 40 ack:=dh mix (.c ab4 .nil) (by kernel_rfl) fun x=>⟨ay,_,aQ _ _⟩
end pz
def TR.T(a0 a1 a2 a3:Int)(a4 a5:List U7)(a6:List U8):Option (U1):=(Ed (a3,a4,a5,())).bind fun y1=>(L8 (a6,())).bind fun y2=>some (a0,a1,a2,y1.1,y1.2.1,y1.2.2.1,y2.1,())
def uK:=fun x:U1=>TR.T x.1 x.2.1 x.2.2.1 x.2.2.2.1 x.2.2.2.2.1 x.2.2.2.2.2.1 x.2.2.2.2.2.2.1
abbrev acj:aG:=⟨[.v true gV],[(true,gV)],uK,[]⟩
theorem abw:aF Dr Tryz.prog 8 acj:=aW mix (.c acH (.c aby .nil)) (by kernel_rfl) fun x=>by kernel_rfl
def Ur.T(a0 a1 a2 a3 b0 b1 b2 b3:Int):Option (Bool×Unit):=cond (a0 != b0) (some (false,())) (cond (a1 != b1) (some (false,())) (cond (a2 != b2) (some (false,())) (cond (a3 != b3) (some (false,())) (some (true,())))))
def DY:=fun x:Int×Int×Int×U5=>Ur.T x.1 x.2.1 x.2.2.1 x.2.2.2.1 x.2.2.2.2.1 x.2.2.2.2.2.1 x.2.2.2.2.2.2.1 x.2.2.2.2.2.2.2.1
abbrev MQ:aG:=⟨[.v true aC,.v true aC],[(false,[CT.bool])],DY,[]⟩
theorem ab8:aF Dr Tryz.prog 127 MQ:=aW mix .nil (by kernel_rfl) fun x=>by kernel_rfl
abbrev Kw:Is:=[.v false [CT.sl aC],.v false [CT.sl aC]]
abbrev JD:Os:=[(false,[CT.bool])]
namespace ng
def ay:Nat→List Nat×List Nat:=fun k=>if k=4 then([0,1,5],[4])else([],[])
def zrc{R:Type}(k0:Nat)(p:List Nat):Env→List Ob→ai R→Option R:=bD Tryz.prog (aP [(127,[],MQ)]) 27 0 ay k0 (bQ p (cZ Tryz.prog 94))
def R0{R:Type}(nx0:uw R)(ex0:fM R)(ex1:dF R)(a2 b2:List U7)(i:Int):Option R:=cond (decide (i<(a2.length:Int))) (if 0≤i∧i<(a2.length:Int)then if 0≤i∧i<(b2.length:Int)then(DY ((rd (0,0,0,0,()) a2 i).1,(rd (0,0,0,0,()) a2 i).2.1,(rd (0,0,0,0,()) a2 i).2.2.1,(rd (0,0,0,0,()) a2 i).2.2.2.1,(rd (0,0,0,0,()) b2 i).1,(rd (0,0,0,0,()) b2 i).2.1,(rd (0,0,0,0,()) b2 i).2.2.1,(rd (0,0,0,0,()) b2 i).2.2.2.1,())).bind fun y1=>cond (!y1.1) (ex0 false) (nx0 a2 b2 (af (i+1)))else none else none) (ex1 ())
def A0(a b:List U7)(t4x:Bool):Option (Bool×Unit):=some (t4x,())
def A1(a b:List U7)(_u:Unit):Option (Bool×Unit):=some (true,())
def T(lo0:uw (Bool×Unit))(a b:List U7):Option (Bool×Unit):=cond ((a.length:Int) != (b.length:Int)) (some (false,())) (lo0 a b 0)
def K0{R:Type}(k0:Nat)(K:ai R):ai R:=aY 0 (bg (fun env ob=>zrc k0 [1,1,1] env ob (K)) (K))
def L0:uw R:=fun a2 b2 i=>iter 0 [0,1,5] [4] (zrc k0 [1,1,0,1,0,0]) k [(0,.sl aC a2),(1,.sl aC b2),(5,.int .i64 i)] [] K
def H0:fM R:=fun t4x=>K .ret [(4,.bool t4x)] []
def H1:dF R:=fun _=>K (.exit 0) [(4,.undef)] []
theorem zs0:L0 k0 (k+1) K=R0 (L0 k0 k K) (H0 K) (H1 K):=by kernel_rfl
def G0{R:Type}(k0:Nat)(hx0:fM R)(hx1:dF R):Nat→uw R
 |0=>fun _ _ _=>none
 |k+1=>R0 (G0 k0 hx0 hx1 k) hx0 hx1
theorem aK:∀ k,L0 k0 k K=G0 k0 (H0 K) (H1 K) k:=bG rfl fun k ih=>by rw[zs0,G0];(try simp only[ih]);try rfl
variable (a b:List U7)
def aA:ai (Bool×Unit):=bW Tryz.prog [.tmp 4] Kw JD (a,b,())
theorem aS:H0 (K0 k0 (aA a b))=A0 a b:=by kernel_rfl
theorem bU:H1 (K0 k0 (aA a b))=A1 a b:=by kernel_rfl
def FF:Option (Bool×Unit):=T (G0 k0 (A0 a b) (A1 a b) k0) a b
theorem aQ:bZ Tryz.prog (aP [(127,[],MQ)]) ay k0 94 Kw JD [] (a,b,())=FF k0 a b:=Eq.trans (b:=T (L0 k0 k0 (K0 k0 (aA a b))) a b) (by kernel_rfl) (by rw[FF];(try simp only[aK,aS,bU]);try rfl)
def _root_.Go.Rv.Md:=fun x:(List U7)×(List U7)×Unit=>FF (300+x.1.length+x.2.1.length) x.1 x.2.1
abbrev _root_.Go.Rv.acy:aG:=⟨Kw,JD,Md,[]⟩
theorem _root_.Go.Rv.abJ:aF Dr Tryz.prog 94 acy:=dh mix (.c ab8 .nil) (by kernel_rfl) fun x=>⟨ay,_,aQ _ _ _⟩
end ng
def Ua.T(a0 a1 a2 a3 b0 b1 b2 b3:Int):Option (Bool×Unit):=cond (a0 != b0) (some (false,())) (cond (a1 != b1) (some (false,())) (cond (a2 != b2) (some (false,())) (cond (a3 != b3) (some (false,())) (some (true,())))))
def DJ:=fun x:Int×Int×Int×U5=>Ua.T x.1 x.2.1 x.2.2.1 x.2.2.2.1 x.2.2.2.2.1 x.2.2.2.2.2.1 x.2.2.2.2.2.2.1 x.2.2.2.2.2.2.2.1
abbrev LZ:aG:=⟨[.v true aC,.v true aC],[(false,[CT.bool])],DJ,[]⟩
theorem abH:aF Dr Tryz.prog 128 LZ:=aW mix .nil (by kernel_rfl) fun x=>by kernel_rfl
abbrev JH:Is:=[.v false [CT.sl aC],.v false [CT.sl aC]]
abbrev Jh:Os:=[(false,[CT.bool])]
namespace mX
def ay:Nat→List Nat×List Nat:=fun k=>if k=4 then([0,1,5],[4])else([],[])
def zrc{R:Type}(k0:Nat)(p:List Nat):Env→List Ob→ai R→Option R:=bD Tryz.prog (aP [(128,[],LZ)]) 27 0 ay k0 (bQ p (cZ Tryz.prog 95))
def R0{R:Type}(nx0:uw R)(ex0:fM R)(ex1:dF R)(a2 b2:List U7)(i:Int):Option R:=cond (decide (i<(a2.length:Int))) (if 0≤i∧i<(a2.length:Int)then if 0≤i∧i<(b2.length:Int)then(DJ ((rd (0,0,0,0,()) a2 i).1,(rd (0,0,0,0,()) a2 i).2.1,(rd (0,0,0,0,()) a2 i).2.2.1,(rd (0,0,0,0,()) a2 i).2.2.2.1,(rd (0,0,0,0,()) b2 i).1,(rd (0,0,0,0,()) b2 i).2.1,(rd (0,0,0,0,()) b2 i).2.2.1,(rd (0,0,0,0,()) b2 i).2.2.2.1,())).bind fun y1=>cond (!y1.1) (ex0 false) (nx0 a2 b2 (af (i+1)))else none else none) (ex1 ())
def A0(a b:List U7)(t4x:Bool):Option (Bool×Unit):=some (t4x,())
def A1(a b:List U7)(_u:Unit):Option (Bool×Unit):=some (true,())
def T(lo0:uw (Bool×Unit))(a b:List U7):Option (Bool×Unit):=cond ((a.length:Int) != (b.length:Int)) (some (false,())) (lo0 a b 0)
def K0{R:Type}(k0:Nat)(K:ai R):ai R:=aY 0 (bg (fun env ob=>zrc k0 [1,1,1] env ob (K)) (K))
def L0:uw R:=fun a2 b2 i=>iter 0 [0,1,5] [4] (zrc k0 [1,1,0,1,0,0]) k [(0,.sl aC a2),(1,.sl aC b2),(5,.int .i64 i)] [] K
def H0:fM R:=fun t4x=>K .ret [(4,.bool t4x)] []
def H1:dF R:=fun _=>K (.exit 0) [(4,.undef)] []
theorem zs0:L0 k0 (k+1) K=R0 (L0 k0 k K) (H0 K) (H1 K):=by kernel_rfl
def G0{R:Type}(k0:Nat)(hx0:fM R)(hx1:dF R):Nat→uw R
 |0=>fun _ _ _=>none
 |k+1=>R0 (G0 k0 hx0 hx1 k) hx0 hx1
theorem aK:∀ k,L0 k0 k K=G0 k0 (H0 K) (H1 K) k:=bG rfl fun k ih=>by rw[zs0,G0];(try simp only[ih]);try rfl
variable (a b:List U7)
def aA:ai (Bool×Unit):=bW Tryz.prog [.tmp 4] JH Jh (a,b,())
theorem aS:H0 (K0 k0 (aA a b))=A0 a b:=by kernel_rfl
theorem bU:H1 (K0 k0 (aA a b))=A1 a b:=by kernel_rfl
def FF:Option (Bool×Unit):=T (G0 k0 (A0 a b) (A1 a b) k0) a b
theorem aQ:bZ Tryz.prog (aP [(128,[],LZ)]) ay k0 95 JH Jh [] (a,b,())=FF k0 a b:=Eq.trans (b:=T (L0 k0 k0 (K0 k0 (aA a b))) a b) (by kernel_rfl) (by rw[FF];(try simp only[aK,aS,bU]);try rfl)
def _root_.Go.Rv.Ll:=fun x:(List U7)×(List U7)×Unit=>FF (300+x.1.length+x.2.1.length) x.1 x.2.1
abbrev _root_.Go.Rv.abR:aG:=⟨JH,Jh,Ll,[]⟩
theorem _root_.Go.Rv.aaY:aF Dr Tryz.prog 95 abR:=dh mix (.c abH .nil) (by kernel_rfl) fun x=>⟨ay,_,aQ _ _ _⟩
end mX
def UN.T(a0:Int)(a1 a2:List U7)(b0:Int)(b1 b2:List U7):Option (Bool×Unit):=cond (a0 != b0) (some (false,())) ((Md (a1,b1,())).bind fun y1=>cond (!y1.1) (some (false,())) ((Ll (a2,b2,())).bind fun y2=>cond (!y2.1) (some (false,())) (some (true,()))))
def Ef:=fun x:Int×(List U7)×(List U7)×U3=>UN.T x.1 x.2.1 x.2.2.1 x.2.2.2.1 x.2.2.2.2.1 x.2.2.2.2.2.1
abbrev adf:aG:=⟨[.v true eH,.v true eH],[(false,[CT.bool])],Ef,[]⟩
theorem acJ:aF Dr Tryz.prog 45 adf:=aW mix (.c abJ (.c aaY .nil)) (by kernel_rfl) fun x=>by kernel_rfl
def Uo.T(a0 a1 a2 b0 b1 b2:Int):Option (Bool×Unit):=cond (a0 != b0) (some (false,())) (cond (a1 != b1) (some (false,())) (cond (a2 != b2) (some (false,())) (some (true,()))))
def DX:=fun x:Int×U5=>Uo.T x.1 x.2.1 x.2.2.1 x.2.2.2.1 x.2.2.2.2.1 x.2.2.2.2.2.1
abbrev MP:aG:=⟨[.v true ct0,.v true ct0],[(false,[CT.bool])],DX,[]⟩
theorem ab7:aF Dr Tryz.prog 96 MP:=aW mix .nil (by kernel_rfl) fun x=>by kernel_rfl
abbrev Kv:Is:=[.v false [CT.sl ct0],.v false [CT.sl ct0]]
abbrev JC:Os:=[(false,[CT.bool])]
namespace mZ
def ay:Nat→List Nat×List Nat:=fun k=>if k=4 then([0,1,5],[4])else([],[])
def zrc{R:Type}(k0:Nat)(p:List Nat):Env→List Ob→ai R→Option R:=bD Tryz.prog (aP [(96,[],MP)]) 27 0 ay k0 (bQ p (cZ Tryz.prog 46))
def R0{R:Type}(nx0:GU R)(ex0:fM R)(ex1:dF R)(a2 b2:List U8)(i:Int):Option R:=cond (decide (i<(a2.length:Int))) (if 0≤i∧i<(a2.length:Int)then if 0≤i∧i<(b2.length:Int)then(DX ((rd (0,0,0,()) a2 i).1,(rd (0,0,0,()) a2 i).2.1,(rd (0,0,0,()) a2 i).2.2.1,(rd (0,0,0,()) b2 i).1,(rd (0,0,0,()) b2 i).2.1,(rd (0,0,0,()) b2 i).2.2.1,())).bind fun y1=>cond (!y1.1) (ex0 false) (nx0 a2 b2 (af (i+1)))else none else none) (ex1 ())
def A0(a b:List U8)(t4x:Bool):Option (Bool×Unit):=some (t4x,())
def A1(a b:List U8)(_u:Unit):Option (Bool×Unit):=some (true,())
def T(lo0:GU (Bool×Unit))(a b:List U8):Option (Bool×Unit):=cond ((a.length:Int) != (b.length:Int)) (some (false,())) (lo0 a b 0)
def K0{R:Type}(k0:Nat)(K:ai R):ai R:=aY 0 (bg (fun env ob=>zrc k0 [1,1,1] env ob (K)) (K))
def L0:GU R:=fun a2 b2 i=>iter 0 [0,1,5] [4] (zrc k0 [1,1,0,1,0,0]) k [(0,.sl ct0 a2),(1,.sl ct0 b2),(5,.int .i64 i)] [] K
def H0:fM R:=fun t4x=>K .ret [(4,.bool t4x)] []
def H1:dF R:=fun _=>K (.exit 0) [(4,.undef)] []
theorem zs0:L0 k0 (k+1) K=R0 (L0 k0 k K) (H0 K) (H1 K):=by kernel_rfl
def G0{R:Type}(k0:Nat)(hx0:fM R)(hx1:dF R):Nat→GU R
 |0=>fun _ _ _=>none
 |k+1=>R0 (G0 k0 hx0 hx1 k) hx0 hx1
theorem aK:∀ k,L0 k0 k K=G0 k0 (H0 K) (H1 K) k:=bG rfl fun k ih=>by rw[zs0,G0];(try simp only[ih]);try rfl
variable (a b:List U8)
def aA:ai (Bool×Unit):=bW Tryz.prog [.tmp 4] Kv JC (a,b,())
theorem aS:H0 (K0 k0 (aA a b))=A0 a b:=by kernel_rfl
theorem bU:H1 (K0 k0 (aA a b))=A1 a b:=by kernel_rfl
def FF:Option (Bool×Unit):=T (G0 k0 (A0 a b) (A1 a b) k0) a b
theorem aQ:bZ Tryz.prog (aP [(96,[],MP)]) ay k0 46 Kv JC [] (a,b,())=FF k0 a b:=Eq.trans (b:=T (L0 k0 k0 (K0 k0 (aA a b))) a b) (by kernel_rfl) (by rw[FF];(try simp only[aK,aS,bU]);try rfl)
def _root_.Go.Rv.Mc:=fun x:(List U8)×(List U8)×Unit=>FF (300+x.1.length+x.2.1.length) x.1 x.2.1
abbrev _root_.Go.Rv.acw:aG:=⟨Kv,JC,Mc,[]⟩
theorem _root_.Go.Rv.abI:aF Dr Tryz.prog 46 acw:=dh mix (.c ab7 .nil) (by kernel_rfl) fun x=>⟨ay,_,aQ _ _ _⟩
end mZ
def TY.T(a0 a1 a2 a3:Int)(a4 a5:List U7)(a6:List U8)(b0 b1 b2 b3:Int)(b4 b5:List U7)(b6:List U8):Option (Bool×Unit):=cond (a0 != b0) (some (false,())) (cond (a1 != b1) (some (false,())) (cond (a2 != b2) (some (false,())) ((Ef (a3,a4,a5,b3,b4,b5,())).bind fun y1=>cond (!y1.1) (some (false,())) ((Mc (a6,b6,())).bind fun y2=>cond (!y2.1) (some (false,())) (some (true,()))))))
def uM:=fun x:Int×Int×Int×Int×(List U7)×(List U7)×(List U8)×U1=>TY.T x.1 x.2.1 x.2.2.1 x.2.2.2.1 x.2.2.2.2.1 x.2.2.2.2.2.1 x.2.2.2.2.2.2.1 x.2.2.2.2.2.2.2.1 x.2.2.2.2.2.2.2.2.1 x.2.2.2.2.2.2.2.2.2.1 x.2.2.2.2.2.2.2.2.2.2.1 x.2.2.2.2.2.2.2.2.2.2.2.1 x.2.2.2.2.2.2.2.2.2.2.2.2.1 x.2.2.2.2.2.2.2.2.2.2.2.2.2.1
abbrev acv:aG:=⟨[.v true gV,.v true gV],[(false,[CT.bool])],uM,[]⟩
theorem abG:aF Dr Tryz.prog 12 acv:=aW mix (.c acJ (.c abI .nil)) (by kernel_rfl) fun x=>by kernel_rfl
abbrev Jq:Is:=[.w false [CT.sl aC],.v false [CT.int .i64]]
abbrev IL:Os:=[(false,[CT.int .i64])]
namespace mV
def ay:Nat→List Nat×List Nat:=fun k=>if k=2 then([0,1,5],[1])else([],[])
def zrc{R:Type}(k0:Nat)(p:List Nat):Env→List Ob→ai R→Option R:=bD Tryz.prog (aP []) 41 1 ay k0 (bQ p (cZ Tryz.prog 97))
def R0{R:Type}(nx0:uq R)(ex0:zk R)(kx i:Int)(a2:List U7):Option R:=cond (decide (i<(a2.length:Int))) (if 0≤i∧i<(a2.length:Int)then if 0≤i∧i<((a2.set i.toNat (fK (a2.getD i.toNat (0,0,0,0,())) kx)).length:Int)then if 0≤i∧i<(((a2.set i.toNat (fK (a2.getD i.toNat (0,0,0,0,())) kx)).set i.toNat (lJ ((a2.set i.toNat (fK (a2.getD i.toNat (0,0,0,0,())) kx)).getD i.toNat (0,0,0,0,())) (af (kx+1)))).length:Int)then if 0≤i∧i<((((a2.set i.toNat (fK (a2.getD i.toNat (0,0,0,0,())) kx)).set i.toNat (lJ ((a2.set i.toNat (fK (a2.getD i.toNat (0,0,0,0,())) kx)).getD i.toNat (0,0,0,0,())) (af (kx+1)))).set i.toNat (yH (((a2.set i.toNat (fK (a2.getD i.toNat (0,0,0,0,())) kx)).set i.toNat (lJ ((a2.set i.toNat (fK (a2.getD i.toNat (0,0,0,0,())) kx)).getD i.toNat (0,0,0,0,())) (af (kx+1)))).getD i.toNat (0,0,0,0,())) (af ((af (kx+1))+1)))).length:Int)then nx0 (af ((af ((af ((af (kx+1))+1))+1))+1)) (af (i+1)) ((((a2.set i.toNat (fK (a2.getD i.toNat (0,0,0,0,())) kx)).set i.toNat (lJ ((a2.set i.toNat (fK (a2.getD i.toNat (0,0,0,0,())) kx)).getD i.toNat (0,0,0,0,())) (af (kx+1)))).set i.toNat (yH (((a2.set i.toNat (fK (a2.getD i.toNat (0,0,0,0,())) kx)).set i.toNat (lJ ((a2.set i.toNat (fK (a2.getD i.toNat (0,0,0,0,())) kx)).getD i.toNat (0,0,0,0,())) (af (kx+1)))).getD i.toNat (0,0,0,0,())) (af ((af (kx+1))+1)))).set i.toNat (YL ((((a2.set i.toNat (fK (a2.getD i.toNat (0,0,0,0,())) kx)).set i.toNat (lJ ((a2.set i.toNat (fK (a2.getD i.toNat (0,0,0,0,())) kx)).getD i.toNat (0,0,0,0,())) (af (kx+1)))).set i.toNat (yH (((a2.set i.toNat (fK (a2.getD i.toNat (0,0,0,0,())) kx)).set i.toNat (lJ ((a2.set i.toNat (fK (a2.getD i.toNat (0,0,0,0,())) kx)).getD i.toNat (0,0,0,0,())) (af (kx+1)))).getD i.toNat (0,0,0,0,())) (af ((af (kx+1))+1)))).getD i.toNat (0,0,0,0,())) (af ((af ((af (kx+1))+1))+1))))else none else none else none else none) (ex0 kx a2)
def A0(a:List U7)(ak:Int)(kx:Int)(o0:List U7):Option (Int×(List U7)×Unit):=some (kx,o0,())
def T(lo0:uq (Int×(List U7)×Unit))(a:List U7)(ak:Int):Option (Int×(List U7)×Unit):=lo0 ak 0 a
def K0{R:Type}(k0:Nat)(K:ai R):ai R:=aY 0 (bg (fun env ob=>zrc k0 [1,1] env ob (K)) (K))
def L0:uq R:=fun kx i a2=>iter 1 [0,1,5] [1] (zrc k0 [1,0,1,0,0]) k [(0,.own 0),(1,.int .i64 kx),(5,.int .i64 i)] [.arr aC a2] K
def H0:zk R:=fun kx o0=>K (.exit 0) [(1,.int .i64 kx)] [.arr aC o0]
theorem zs0:L0 k0 (k+1) K=R0 (L0 k0 k K) (H0 K):=by kernel_rfl
def G0{R:Type}(k0:Nat)(hx0:zk R):Nat→uq R
 |0=>fun _ _ _=>none
 |k+1=>R0 (G0 k0 hx0 k) hx0
theorem aK:∀ k,L0 k0 k K=G0 k0 (H0 K) k:=bG rfl fun k ih=>by rw[zs0,G0];(try simp only[ih]);try rfl
variable (a:List U7) (ak:Int)
def aA:ai (Int×(List U7)×Unit):=bW Tryz.prog [.tmp 4] Jq IL (a,ak,())
theorem aS:H0 (K0 k0 (aA a ak))=A0 a ak:=by kernel_rfl
def FF:Option (Int×(List U7)×Unit):=T (G0 k0 (A0 a ak) k0) a ak
theorem aQ:bZ Tryz.prog (aP []) ay k0 97 Jq IL [] (a,ak,())=FF k0 a ak:=Eq.trans (b:=T (L0 k0 k0 (K0 k0 (aA a ak))) a ak) (by kernel_rfl) (by rw[FF];(try simp only[aK,aS]);try rfl)
def _root_.Go.Rv.KC:=fun x:(List U7)×Int×Unit=>FF (300+x.1.length) x.1 x.2.1
abbrev _root_.Go.Rv.abf:aG:=⟨Jq,IL,KC,[]⟩
theorem _root_.Go.Rv.aaC:aF Dr Tryz.prog 97 abf:=dh mix .nil (by kernel_rfl) fun x=>⟨ay,_,aQ _ _ _⟩
end mV
abbrev IY:Is:=[.w false [CT.sl aC],.v false [CT.int .i64]]
abbrev Iq:Os:=[(false,[CT.int .i64])]
namespace mJ
def ay:Nat→List Nat×List Nat:=fun k=>if k=2 then([0,1,5],[1])else([],[])
def zrc{R:Type}(k0:Nat)(p:List Nat):Env→List Ob→ai R→Option R:=bD Tryz.prog (aP []) 41 1 ay k0 (bQ p (cZ Tryz.prog 98))
def R0{R:Type}(nx0:uq R)(ex0:zk R)(kx i:Int)(a2:List U7):Option R:=cond (decide (i<(a2.length:Int))) (if 0≤i∧i<(a2.length:Int)then if 0≤i∧i<((a2.set i.toNat (fK (a2.getD i.toNat (0,0,0,0,())) kx)).length:Int)then if 0≤i∧i<(((a2.set i.toNat (fK (a2.getD i.toNat (0,0,0,0,())) kx)).set i.toNat (lJ ((a2.set i.toNat (fK (a2.getD i.toNat (0,0,0,0,())) kx)).getD i.toNat (0,0,0,0,())) (af (kx+1)))).length:Int)then if 0≤i∧i<((((a2.set i.toNat (fK (a2.getD i.toNat (0,0,0,0,())) kx)).set i.toNat (lJ ((a2.set i.toNat (fK (a2.getD i.toNat (0,0,0,0,())) kx)).getD i.toNat (0,0,0,0,())) (af (kx+1)))).set i.toNat (yH (((a2.set i.toNat (fK (a2.getD i.toNat (0,0,0,0,())) kx)).set i.toNat (lJ ((a2.set i.toNat (fK (a2.getD i.toNat (0,0,0,0,())) kx)).getD i.toNat (0,0,0,0,())) (af (kx+1)))).getD i.toNat (0,0,0,0,())) (af ((af (kx+1))+1)))).length:Int)then nx0 (af ((af ((af ((af (kx+1))+1))+1))+1)) (af (i+1)) ((((a2.set i.toNat (fK (a2.getD i.toNat (0,0,0,0,())) kx)).set i.toNat (lJ ((a2.set i.toNat (fK (a2.getD i.toNat (0,0,0,0,())) kx)).getD i.toNat (0,0,0,0,())) (af (kx+1)))).set i.toNat (yH (((a2.set i.toNat (fK (a2.getD i.toNat (0,0,0,0,())) kx)).set i.toNat (lJ ((a2.set i.toNat (fK (a2.getD i.toNat (0,0,0,0,())) kx)).getD i.toNat (0,0,0,0,())) (af (kx+1)))).getD i.toNat (0,0,0,0,())) (af ((af (kx+1))+1)))).set i.toNat (YL ((((a2.set i.toNat (fK (a2.getD i.toNat (0,0,0,0,())) kx)).set i.toNat (lJ ((a2.set i.toNat (fK (a2.getD i.toNat (0,0,0,0,())) kx)).getD i.toNat (0,0,0,0,())) (af (kx+1)))).set i.toNat (yH (((a2.set i.toNat (fK (a2.getD i.toNat (0,0,0,0,())) kx)).set i.toNat (lJ ((a2.set i.toNat (fK (a2.getD i.toNat (0,0,0,0,())) kx)).getD i.toNat (0,0,0,0,())) (af (kx+1)))).getD i.toNat (0,0,0,0,())) (af ((af (kx+1))+1)))).getD i.toNat (0,0,0,0,())) (af ((af ((af (kx+1))+1))+1))))else none else none else none else none) (ex0 kx a2)
def A0(a:List U7)(ak:Int)(kx:Int)(o0:List U7):Option (Int×(List U7)×Unit):=some (kx,o0,())
def T(lo0:uq (Int×(List U7)×Unit))(a:List U7)(ak:Int):Option (Int×(List U7)×Unit):=lo0 ak 0 a
def K0{R:Type}(k0:Nat)(K:ai R):ai R:=aY 0 (bg (fun env ob=>zrc k0 [1,1] env ob (K)) (K))
def L0:uq R:=fun kx i a2=>iter 1 [0,1,5] [1] (zrc k0 [1,0,1,0,0]) k [(0,.own 0),(1,.int .i64 kx),(5,.int .i64 i)] [.arr aC a2] K
def H0:zk R:=fun kx o0=>K (.exit 0) [(1,.int .i64 kx)] [.arr aC o0]
theorem zs0:L0 k0 (k+1) K=R0 (L0 k0 k K) (H0 K):=by kernel_rfl
def G0{R:Type}(k0:Nat)(hx0:zk R):Nat→uq R
 |0=>fun _ _ _=>none
 |k+1=>R0 (G0 k0 hx0 k) hx0
theorem aK:∀ k,L0 k0 k K=G0 k0 (H0 K) k:=bG rfl fun k ih=>by rw[zs0,G0];(try simp only[ih]);try rfl
variable (a:List U7) (ak:Int)
def aA:ai (Int×(List U7)×Unit):=bW Tryz.prog [.tmp 4] IY Iq (a,ak,())
theorem aS:H0 (K0 k0 (aA a ak))=A0 a ak:=by kernel_rfl
def FF:Option (Int×(List U7)×Unit):=T (G0 k0 (A0 a ak) k0) a ak
theorem aQ:bZ Tryz.prog (aP []) ay k0 98 IY Iq [] (a,ak,())=FF k0 a ak:=Eq.trans (b:=T (L0 k0 k0 (K0 k0 (aA a ak))) a ak) (by kernel_rfl) (by rw[FF];(try simp only[aK,aS]);try rfl)
def _root_.Go.Rv.JP:=fun x:(List U7)×Int×Unit=>FF (300+x.1.length) x.1 x.2.1
abbrev _root_.Go.Rv.aaL:aG:=⟨IY,Iq,JP,[]⟩
theorem _root_.Go.Rv.aaj:aF Dr Tryz.prog 98 aaL:=dh mix .nil (by kernel_rfl) fun x=>⟨ay,_,aQ _ _ _⟩
end mJ
def TV.T(a0:Int)(a1 a2:List U7)(ak:Int):Option (Int×U3):=(KC (a1,ak,())).bind fun y1=>(JP (a2,y1.1,())).bind fun y2=>some (y2.1,a0,y1.2.1,y2.2.1,())
def DF:=fun x:Int×(List U7)×(List U7)×Int×Unit=>TV.T x.1 x.2.1 x.2.2.1 x.2.2.2.1
abbrev acs:aG:=⟨[.w true eH,.v false [CT.int .i64]],[(false,[CT.int .i64])],DF,[]⟩
theorem abD:aF Dr Tryz.prog 47 acs:=aW mix (.c aaC (.c aaj .nil)) (by kernel_rfl) fun x=>by kernel_rfl
abbrev Jp:Is:=[.w false [CT.sl ct0],.v false [CT.int .i64]]
abbrev IK:Os:=[(false,[CT.int .i64])]
namespace mQ
def ay:Nat→List Nat×List Nat:=fun k=>if k=2 then([0,1,5],[1])else([],[])
def zrc{R:Type}(k0:Nat)(p:List Nat):Env→List Ob→ai R→Option R:=bD Tryz.prog (aP []) 34 1 ay k0 (bQ p (cZ Tryz.prog 48))
def R0{R:Type}(nx0:GR R)(ex0:QS R)(kx i:Int)(a2:List U8):Option R:=cond (decide (i<(a2.length:Int))) (if 0≤i∧i<(a2.length:Int)then if 0≤i∧i<((a2.set i.toNat (kx,(a2.getD i.toNat (0,0,0,())).2.1,(a2.getD i.toNat (0,0,0,())).2.2.1,())).length:Int)then if 0≤i∧i<(((a2.set i.toNat (kx,(a2.getD i.toNat (0,0,0,())).2.1,(a2.getD i.toNat (0,0,0,())).2.2.1,())).set i.toNat (((a2.set i.toNat (kx,(a2.getD i.toNat (0,0,0,())).2.1,(a2.getD i.toNat (0,0,0,())).2.2.1,())).getD i.toNat (0,0,0,())).1,(af (kx+1)),((a2.set i.toNat (kx,(a2.getD i.toNat (0,0,0,())).2.1,(a2.getD i.toNat (0,0,0,())).2.2.1,())).getD i.toNat (0,0,0,())).2.2.1,())).length:Int)then nx0 (af ((af ((af (kx+1))+1))+1)) (af (i+1)) (((a2.set i.toNat (kx,(a2.getD i.toNat (0,0,0,())).2.1,(a2.getD i.toNat (0,0,0,())).2.2.1,())).set i.toNat (((a2.set i.toNat (kx,(a2.getD i.toNat (0,0,0,())).2.1,(a2.getD i.toNat (0,0,0,())).2.2.1,())).getD i.toNat (0,0,0,())).1,(af (kx+1)),((a2.set i.toNat (kx,(a2.getD i.toNat (0,0,0,())).2.1,(a2.getD i.toNat (0,0,0,())).2.2.1,())).getD i.toNat (0,0,0,())).2.2.1,())).set i.toNat ((((a2.set i.toNat (kx,(a2.getD i.toNat (0,0,0,())).2.1,(a2.getD i.toNat (0,0,0,())).2.2.1,())).set i.toNat (((a2.set i.toNat (kx,(a2.getD i.toNat (0,0,0,())).2.1,(a2.getD i.toNat (0,0,0,())).2.2.1,())).getD i.toNat (0,0,0,())).1,(af (kx+1)),((a2.set i.toNat (kx,(a2.getD i.toNat (0,0,0,())).2.1,(a2.getD i.toNat (0,0,0,())).2.2.1,())).getD i.toNat (0,0,0,())).2.2.1,())).getD i.toNat (0,0,0,())).1,(((a2.set i.toNat (kx,(a2.getD i.toNat (0,0,0,())).2.1,(a2.getD i.toNat (0,0,0,())).2.2.1,())).set i.toNat (((a2.set i.toNat (kx,(a2.getD i.toNat (0,0,0,())).2.1,(a2.getD i.toNat (0,0,0,())).2.2.1,())).getD i.toNat (0,0,0,())).1,(af (kx+1)),((a2.set i.toNat (kx,(a2.getD i.toNat (0,0,0,())).2.1,(a2.getD i.toNat (0,0,0,())).2.2.1,())).getD i.toNat (0,0,0,())).2.2.1,())).getD i.toNat (0,0,0,())).2.1,(af ((af (kx+1))+1)),()))else none else none else none) (ex0 kx a2)
def A0(a:List U8)(ak:Int)(kx:Int)(o0:List U8):Option (Int×(List U8)×Unit):=some (kx,o0,())
def T(lo0:GR (Int×(List U8)×Unit))(a:List U8)(ak:Int):Option (Int×(List U8)×Unit):=lo0 ak 0 a
def K0{R:Type}(k0:Nat)(K:ai R):ai R:=aY 0 (bg (fun env ob=>zrc k0 [1,1] env ob (K)) (K))
def L0:GR R:=fun kx i a2=>iter 1 [0,1,5] [1] (zrc k0 [1,0,1,0,0]) k [(0,.own 0),(1,.int .i64 kx),(5,.int .i64 i)] [.arr ct0 a2] K
def H0:QS R:=fun kx o0=>K (.exit 0) [(1,.int .i64 kx)] [.arr ct0 o0]
theorem zs0:L0 k0 (k+1) K=R0 (L0 k0 k K) (H0 K):=by kernel_rfl
def G0{R:Type}(k0:Nat)(hx0:QS R):Nat→GR R
 |0=>fun _ _ _=>none
 |k+1=>R0 (G0 k0 hx0 k) hx0
theorem aK:∀ k,L0 k0 k K=G0 k0 (H0 K) k:=bG rfl fun k ih=>by rw[zs0,G0];(try simp only[ih]);try rfl
variable (a:List U8) (ak:Int)
def aA:ai (Int×(List U8)×Unit):=bW Tryz.prog [.tmp 4] Jp IK (a,ak,())
theorem aS:H0 (K0 k0 (aA a ak))=A0 a ak:=by kernel_rfl
def FF:Option (Int×(List U8)×Unit):=T (G0 k0 (A0 a ak) k0) a ak
theorem aQ:bZ Tryz.prog (aP []) ay k0 48 Jp IK [] (a,ak,())=FF k0 a ak:=Eq.trans (b:=T (L0 k0 k0 (K0 k0 (aA a ak))) a ak) (by kernel_rfl) (by rw[FF];(try simp only[aK,aS]);try rfl)
def _root_.Go.Rv.KA:=fun x:(List U8)×Int×Unit=>FF (300+x.1.length) x.1 x.2.1
abbrev _root_.Go.Rv.abe:aG:=⟨Jp,IK,KA,[]⟩
theorem _root_.Go.Rv.aaB:aF Dr Tryz.prog 48 abe:=dh mix .nil (by kernel_rfl) fun x=>⟨ay,_,aQ _ _ _⟩
end mQ
def SK.T(a0 a1 a2 a3:Int)(a4 a5:List U7)(a6:List U8)(ak:Int):Option (Int×U1):=(DF (a3,a4,a5,ak,())).bind fun y1=>(KA (a6,y1.1,())).bind fun y2=>some (y2.1,a0,a1,a2,a3,y1.2.2.1,y1.2.2.2.1,y2.2.1,())
def zF:=fun x:Int×Int×Int×Int×(List U7)×(List U7)×(List U8)×Int×Unit=>SK.T x.1 x.2.1 x.2.2.1 x.2.2.2.1 x.2.2.2.2.1 x.2.2.2.2.2.1 x.2.2.2.2.2.2.1 x.2.2.2.2.2.2.2.1
abbrev abd:aG:=⟨[.w true gV,.v false [CT.int .i64]],[(false,[CT.int .i64])],zF,[]⟩
theorem aaA:aF Dr Tryz.prog 13 abd:=aW mix (.c abD (.c aaB .nil)) (by kernel_rfl) fun x=>by kernel_rfl
def Vs.T(a:List U5)(left:Int):Option (Int×Unit):=cond (decide ((af (left - (a.length:Int)))<0)) (some ((-1),())) (some ((af (left - (a.length:Int))),()))
def Em:=fun x:(List U5)×Int×Unit=>Vs.T x.1 x.2.1
abbrev adA:aG:=⟨[.v false [CT.sl dJ],.v false [CT.int .i64]],[(false,[CT.int .i64])],Em,[]⟩
theorem ac4:aF Dr Tryz.prog 16 adA:=aW mix .nil (by kernel_rfl) fun x=>by kernel_rfl
def aeu.T(a0 a1 a2 a3 a4:Int):Option (U5):=some (a0,a1,a2,a3,a4,())
def NH:=fun x:U5=>aeu.T x.1 x.2.1 x.2.2.1 x.2.2.2.1 x.2.2.2.2.1
abbrev NE:aG:=⟨[.v true dJ],[(true,dJ)],NH,[]⟩
theorem adq:aF Dr Tryz.prog 9 NE:=aW mix .nil (by kernel_rfl) fun x=>by kernel_rfl
abbrev MC:Is:=[.v false [CT.sl dJ]]
abbrev Lr:Os:=[(false,[CT.sl dJ])]
namespace pK
def ay:Nat→List Nat×List Nat:=fun k=>if k=3 then([0,3,4],[3])else([],[])
def zrc{R:Type}(k0:Nat)(p:List Nat):Env→List Ob→ai R→Option R:=bD Tryz.prog (aP [(9,[],NE)]) 23 0 ay k0 (bQ p (cZ Tryz.prog 18))
def R0{R:Type}(nx0:GN R)(ex0:QR R)(a2:List U5)(i:Int)(out:List U5):Option R:=cond (decide (i<(a2.length:Int))) (if 0≤i∧i<(a2.length:Int)then(NH ((rd (0,0,0,0,0,()) a2 i).1,(rd (0,0,0,0,0,()) a2 i).2.1,(rd (0,0,0,0,0,()) a2 i).2.2.1,(rd (0,0,0,0,0,()) a2 i).2.2.2.1,(rd (0,0,0,0,0,()) a2 i).2.2.2.2.1,())).bind fun y1=>if 0≤i∧i<(out.length:Int)then nx0 a2 (af (i+1)) (out.set i.toNat y1)else none else none) (ex0 out)
def A0(a:List U5)(out:List U5):Option ((List U5)×Unit):=some (out,())
def T(lo0:GN ((List U5)×Unit))(a:List U5):Option ((List U5)×Unit):=if 0≤(a.length:Int)∧(40:Int)*(a.length:Int)≤281474976710656∧(a.length:Int)≤9223372036854775807 then lo0 a 0 (List.replicate (((a.length:Int):Int)).toNat (0,0,0,0,0,()))else none
def K0{R:Type}(k0:Nat)(K:ai R):ai R:=aY 0 (bg (fun env ob=>zrc k0 [1,1,1] env ob (K)) (K))
def L0:GN R:=fun a2 i out=>iter 0 [0,3,4] [3] (zrc k0 [1,1,0,1,0,0]) k [(0,.sl dJ a2),(3,.own 0),(4,.int .i64 i)] [.arr dJ out] K
def H0:QR R:=fun out=>K (.exit 0) [(3,.own 0)] [.arr dJ out]
theorem zs0:L0 k0 (k+1) K=R0 (L0 k0 k K) (H0 K):=by kernel_rfl
def G0{R:Type}(k0:Nat)(hx0:QR R):Nat→GN R
 |0=>fun _ _ _=>none
 |k+1=>R0 (G0 k0 hx0 k) hx0
theorem aK:∀ k,L0 k0 k K=G0 k0 (H0 K) k:=bG rfl fun k ih=>by rw[zs0,G0];(try simp only[ih]);try rfl
variable (a:List U5)
def aA:ai ((List U5)×Unit):=bW Tryz.prog [.tmp 2] MC Lr (a,())
theorem aS:H0 (K0 k0 (aA a))=A0 a:=by kernel_rfl
def FF:Option ((List U5)×Unit):=T (G0 k0 (A0 a) k0) a
theorem aQ:bZ Tryz.prog (aP [(9,[],NE)]) ay k0 18 MC Lr [] (a,())=FF k0 a:=Eq.trans (b:=T (L0 k0 k0 (K0 k0 (aA a))) a) (by kernel_rfl) (by rw[FF];(try simp only[aK,aS]);try rfl)
def _root_.Go.Rv.xg:=fun x:(List U5)×Unit=>FF (300+x.1.length) x.1
abbrev _root_.Go.Rv.adz:aG:=⟨MC,Lr,xg,[]⟩
theorem _root_.Go.Rv.ac3:aF Dr Tryz.prog 18 adz:=dh mix (.c adq .nil) (by kernel_rfl) fun x=>⟨ay,_,aQ _ _⟩
end pK
def VS.T(a0 a1 a2 a3 a4 b0 b1 b2 b3 b4:Int):Option (Bool×Unit):=cond (a0 != b0) (some (false,())) (cond (a1 != b1) (some (false,())) (cond (a2 != b2) (some (false,())) (cond (a3 != b3) (some (false,())) (cond (a4 != b4) (some (false,())) (some (true,()))))))
def Ep:=fun x:Int×Int×Int×Int×Int×U5=>VS.T x.1 x.2.1 x.2.2.1 x.2.2.2.1 x.2.2.2.2.1 x.2.2.2.2.2.1 x.2.2.2.2.2.2.1 x.2.2.2.2.2.2.2.1 x.2.2.2.2.2.2.2.2.1 x.2.2.2.2.2.2.2.2.2.1
abbrev NF:aG:=⟨[.v true dJ,.v true dJ],[(false,[CT.bool])],Ep,[]⟩
theorem adr:aF Dr Tryz.prog 52 NF:=aW mix .nil (by kernel_rfl) fun x=>by kernel_rfl
abbrev MF:Is:=[.v false [CT.sl dJ],.v false [CT.sl dJ]]
abbrev Ls:Os:=[(false,[CT.bool])]
namespace nD
def ay:Nat→List Nat×List Nat:=fun k=>if k=4 then([0,1,5],[4])else([],[])
def zrc{R:Type}(k0:Nat)(p:List Nat):Env→List Ob→ai R→Option R:=bD Tryz.prog (aP [(52,[],NF)]) 27 0 ay k0 (bQ p (cZ Tryz.prog 21))
def R0{R:Type}(nx0:GL R)(ex0:fM R)(ex1:dF R)(a2 b2:List U5)(i:Int):Option R:=cond (decide (i<(a2.length:Int))) (if 0≤i∧i<(a2.length:Int)then if 0≤i∧i<(b2.length:Int)then(Ep ((rd (0,0,0,0,0,()) a2 i).1,(rd (0,0,0,0,0,()) a2 i).2.1,(rd (0,0,0,0,0,()) a2 i).2.2.1,(rd (0,0,0,0,0,()) a2 i).2.2.2.1,(rd (0,0,0,0,0,()) a2 i).2.2.2.2.1,(rd (0,0,0,0,0,()) b2 i).1,(rd (0,0,0,0,0,()) b2 i).2.1,(rd (0,0,0,0,0,()) b2 i).2.2.1,(rd (0,0,0,0,0,()) b2 i).2.2.2.1,(rd (0,0,0,0,0,()) b2 i).2.2.2.2.1,())).bind fun y1=>cond (!y1.1) (ex0 false) (nx0 a2 b2 (af (i+1)))else none else none) (ex1 ())
def A0(a b:List U5)(t4x:Bool):Option (Bool×Unit):=some (t4x,())
def A1(a b:List U5)(_u:Unit):Option (Bool×Unit):=some (true,())
def T(lo0:GL (Bool×Unit))(a b:List U5):Option (Bool×Unit):=cond ((a.length:Int) != (b.length:Int)) (some (false,())) (lo0 a b 0)
def K0{R:Type}(k0:Nat)(K:ai R):ai R:=aY 0 (bg (fun env ob=>zrc k0 [1,1,1] env ob (K)) (K))
def L0:GL R:=fun a2 b2 i=>iter 0 [0,1,5] [4] (zrc k0 [1,1,0,1,0,0]) k [(0,.sl dJ a2),(1,.sl dJ b2),(5,.int .i64 i)] [] K
def H0:fM R:=fun t4x=>K .ret [(4,.bool t4x)] []
def H1:dF R:=fun _=>K (.exit 0) [(4,.undef)] []
theorem zs0:L0 k0 (k+1) K=R0 (L0 k0 k K) (H0 K) (H1 K):=by kernel_rfl
def G0{R:Type}(k0:Nat)(hx0:fM R)(hx1:dF R):Nat→GL R
 |0=>fun _ _ _=>none
 |k+1=>R0 (G0 k0 hx0 hx1 k) hx0 hx1
theorem aK:∀ k,L0 k0 k K=G0 k0 (H0 K) (H1 K) k:=bG rfl fun k ih=>by rw[zs0,G0];(try simp only[ih]);try rfl
variable (a b:List U5)
def aA:ai (Bool×Unit):=bW Tryz.prog [.tmp 4] MF Ls (a,b,())
theorem aS:H0 (K0 k0 (aA a b))=A0 a b:=by kernel_rfl
theorem bU:H1 (K0 k0 (aA a b))=A1 a b:=by kernel_rfl
def FF:Option (Bool×Unit):=T (G0 k0 (A0 a b) (A1 a b) k0) a b
theorem aQ:bZ Tryz.prog (aP [(52,[],NF)]) ay k0 21 MF Ls [] (a,b,())=FF k0 a b:=Eq.trans (b:=T (L0 k0 k0 (K0 k0 (aA a b))) a b) (by kernel_rfl) (by rw[FF];(try simp only[aK,aS,bU]);try rfl)
def _root_.Go.Rv.Ns:=fun x:(List U5)×(List U5)×Unit=>FF (300+x.1.length+x.2.1.length) x.1 x.2.1
abbrev _root_.Go.Rv.adB:aG:=⟨MF,Ls,Ns,[]⟩
theorem _root_.Go.Rv.ac5:aF Dr Tryz.prog 21 adB:=dh mix (.c adr .nil) (by kernel_rfl) fun x=>⟨ay,_,aQ _ _ _⟩
end nD
abbrev KZ:Is:=[.w false [CT.sl dJ],.v false [CT.int .i64]]
abbrev J6:Os:=[(false,[CT.int .i64])]
namespace ni
def ay:Nat→List Nat×List Nat:=fun k=>if k=2 then([0,1,5],[1])else([],[])
def zrc{R:Type}(k0:Nat)(p:List Nat):Env→List Ob→ai R→Option R:=bD Tryz.prog (aP []) 48 1 ay k0 (bQ p (cZ Tryz.prog 22))
def R0{R:Type}(nx0:GK R)(ex0:QO R)(kx i:Int)(a2:List U5):Option R:=cond (decide (i<(a2.length:Int))) (if 0≤i∧i<(a2.length:Int)then if 0≤i∧i<((a2.set i.toNat (fE (a2.getD i.toNat (0,0,0,0,0,())) kx)).length:Int)then if 0≤i∧i<(((a2.set i.toNat (fE (a2.getD i.toNat (0,0,0,0,0,())) kx)).set i.toNat (kS ((a2.set i.toNat (fE (a2.getD i.toNat (0,0,0,0,0,())) kx)).getD i.toNat (0,0,0,0,0,())) (af (kx+1)))).length:Int)then if 0≤i∧i<((((a2.set i.toNat (fE (a2.getD i.toNat (0,0,0,0,0,())) kx)).set i.toNat (kS ((a2.set i.toNat (fE (a2.getD i.toNat (0,0,0,0,0,())) kx)).getD i.toNat (0,0,0,0,0,())) (af (kx+1)))).set i.toNat (vT (((a2.set i.toNat (fE (a2.getD i.toNat (0,0,0,0,0,())) kx)).set i.toNat (kS ((a2.set i.toNat (fE (a2.getD i.toNat (0,0,0,0,0,())) kx)).getD i.toNat (0,0,0,0,0,())) (af (kx+1)))).getD i.toNat (0,0,0,0,0,())) (af ((af (kx+1))+1)))).length:Int)then if 0≤i∧i<(((((a2.set i.toNat (fE (a2.getD i.toNat (0,0,0,0,0,())) kx)).set i.toNat (kS ((a2.set i.toNat (fE (a2.getD i.toNat (0,0,0,0,0,())) kx)).getD i.toNat (0,0,0,0,0,())) (af (kx+1)))).set i.toNat (vT (((a2.set i.toNat (fE (a2.getD i.toNat (0,0,0,0,0,())) kx)).set i.toNat (kS ((a2.set i.toNat (fE (a2.getD i.toNat (0,0,0,0,0,())) kx)).getD i.toNat (0,0,0,0,0,())) (af (kx+1)))).getD i.toNat (0,0,0,0,0,())) (af ((af (kx+1))+1)))).set i.toNat (Qd ((((a2.set i.toNat (fE (a2.getD i.toNat (0,0,0,0,0,())) kx)).set i.toNat (kS ((a2.set i.toNat (fE (a2.getD i.toNat (0,0,0,0,0,())) kx)).getD i.toNat (0,0,0,0,0,())) (af (kx+1)))).set i.toNat (vT (((a2.set i.toNat (fE (a2.getD i.toNat (0,0,0,0,0,())) kx)).set i.toNat (kS ((a2.set i.toNat (fE (a2.getD i.toNat (0,0,0,0,0,())) kx)).getD i.toNat (0,0,0,0,0,())) (af (kx+1)))).getD i.toNat (0,0,0,0,0,())) (af ((af (kx+1))+1)))).getD i.toNat (0,0,0,0,0,())) (af ((af ((af (kx+1))+1))+1)))).length:Int)then nx0 (af ((af ((af ((af ((af (kx+1))+1))+1))+1))+1)) (af (i+1)) (((((a2.set i.toNat (fE (a2.getD i.toNat (0,0,0,0,0,())) kx)).set i.toNat (kS ((a2.set i.toNat (fE (a2.getD i.toNat (0,0,0,0,0,())) kx)).getD i.toNat (0,0,0,0,0,())) (af (kx+1)))).set i.toNat (vT (((a2.set i.toNat (fE (a2.getD i.toNat (0,0,0,0,0,())) kx)).set i.toNat (kS ((a2.set i.toNat (fE (a2.getD i.toNat (0,0,0,0,0,())) kx)).getD i.toNat (0,0,0,0,0,())) (af (kx+1)))).getD i.toNat (0,0,0,0,0,())) (af ((af (kx+1))+1)))).set i.toNat (Qd ((((a2.set i.toNat (fE (a2.getD i.toNat (0,0,0,0,0,())) kx)).set i.toNat (kS ((a2.set i.toNat (fE (a2.getD i.toNat (0,0,0,0,0,())) kx)).getD i.toNat (0,0,0,0,0,())) (af (kx+1)))).set i.toNat (vT (((a2.set i.toNat (fE (a2.getD i.toNat (0,0,0,0,0,())) kx)).set i.toNat (kS ((a2.set i.toNat (fE (a2.getD i.toNat (0,0,0,0,0,())) kx)).getD i.toNat (0,0,0,0,0,())) (af (kx+1)))).getD i.toNat (0,0,0,0,0,())) (af ((af (kx+1))+1)))).getD i.toNat (0,0,0,0,0,())) (af ((af ((af (kx+1))+1))+1)))).set i.toNat (ahs (((((a2.set i.toNat (fE (a2.getD i.toNat (0,0,0,0,0,())) kx)).set i.toNat (kS ((a2.set i.toNat (fE (a2.getD i.toNat (0,0,0,0,0,())) kx)).getD i.toNat (0,0,0,0,0,())) (af (kx+1)))).set i.toNat (vT (((a2.set i.toNat (fE (a2.getD i.toNat (0,0,0,0,0,())) kx)).set i.toNat (kS ((a2.set i.toNat (fE (a2.getD i.toNat (0,0,0,0,0,())) kx)).getD i.toNat (0,0,0,0,0,())) (af (kx+1)))).getD i.toNat (0,0,0,0,0,())) (af ((af (kx+1))+1)))).set i.toNat (Qd ((((a2.set i.toNat (fE (a2.getD i.toNat (0,0,0,0,0,())) kx)).set i.toNat (kS ((a2.set i.toNat (fE (a2.getD i.toNat (0,0,0,0,0,())) kx)).getD i.toNat (0,0,0,0,0,())) (af (kx+1)))).set i.toNat (vT (((a2.set i.toNat (fE (a2.getD i.toNat (0,0,0,0,0,())) kx)).set i.toNat (kS ((a2.set i.toNat (fE (a2.getD i.toNat (0,0,0,0,0,())) kx)).getD i.toNat (0,0,0,0,0,())) (af (kx+1)))).getD i.toNat (0,0,0,0,0,())) (af ((af (kx+1))+1)))).getD i.toNat (0,0,0,0,0,())) (af ((af ((af (kx+1))+1))+1)))).getD i.toNat (0,0,0,0,0,())) (af ((af ((af ((af (kx+1))+1))+1))+1))))else none else none else none else none else none) (ex0 kx a2)
def A0(a:List U5)(ak:Int)(kx:Int)(o0:List U5):Option (Int×(List U5)×Unit):=some (kx,o0,())
def T(lo0:GK (Int×(List U5)×Unit))(a:List U5)(ak:Int):Option (Int×(List U5)×Unit):=lo0 ak 0 a
def K0{R:Type}(k0:Nat)(K:ai R):ai R:=aY 0 (bg (fun env ob=>zrc k0 [1,1] env ob (K)) (K))
def L0:GK R:=fun kx i a2=>iter 1 [0,1,5] [1] (zrc k0 [1,0,1,0,0]) k [(0,.own 0),(1,.int .i64 kx),(5,.int .i64 i)] [.arr dJ a2] K
def H0:QO R:=fun kx o0=>K (.exit 0) [(1,.int .i64 kx)] [.arr dJ o0]
theorem zs0:L0 k0 (k+1) K=R0 (L0 k0 k K) (H0 K):=by kernel_rfl
def G0{R:Type}(k0:Nat)(hx0:QO R):Nat→GK R
 |0=>fun _ _ _=>none
 |k+1=>R0 (G0 k0 hx0 k) hx0
theorem aK:∀ k,L0 k0 k K=G0 k0 (H0 K) k:=bG rfl fun k ih=>by rw[zs0,G0];(try simp only[ih]);try rfl
variable (a:List U5) (ak:Int)
def aA:ai (Int×(List U5)×Unit):=bW Tryz.prog [.tmp 4] KZ J6 (a,ak,())
theorem aS:H0 (K0 k0 (aA a ak))=A0 a ak:=by kernel_rfl
def FF:Option (Int×(List U5)×Unit):=T (G0 k0 (A0 a ak) k0) a ak
theorem aQ:bZ Tryz.prog (aP []) ay k0 22 KZ J6 [] (a,ak,())=FF k0 a ak:=Eq.trans (b:=T (L0 k0 k0 (K0 k0 (aA a ak))) a ak) (by kernel_rfl) (by rw[FF];(try simp only[aK,aS]);try rfl)
def _root_.Go.Rv.MV:=fun x:(List U5)×Int×Unit=>FF (300+x.1.length) x.1 x.2.1
abbrev _root_.Go.Rv.acS:aG:=⟨KZ,J6,MV,[]⟩
theorem _root_.Go.Rv.ab6:aF Dr Tryz.prog 22 acS:=dh mix .nil (by kernel_rfl) fun x=>⟨ay,_,aQ _ _ _⟩
end ni
def Ti.T(n:Int):Option (Bool×Unit):=cond (decide (n≥1)) (some ((decide (n≤1000)),())) (some (false,()))
def Dl:=fun x:Int×Unit=>Ti.T x.1
abbrev Sl:aG:=⟨[.v false [CT.int .i64]],[(false,[CT.bool])],Dl,[]⟩
theorem aaS:aF Dr Tryz.prog 57 Sl:=aW mix .nil (by kernel_rfl) fun x=>by kernel_rfl
def Ve.T(n:Int):Option (Bool×Unit):=cond (decide (n≥1)) (some ((decide (n≤1000000)),())) (some (false,()))
def lq:=fun x:Int×Unit=>Ve.T x.1
abbrev UA:aG:=⟨[.v false [CT.int .i64]],[(false,[CT.bool])],lq,[]⟩
theorem Ad:aF Dr Tryz.prog 60 UA:=aW mix .nil (by kernel_rfl) fun x=>by kernel_rfl
def Uk.T(n:Int):Option (Bool×Unit):=cond (decide (n≥0)) (some ((decide (n≤1125899906842624)),())) (some (false,()))
def dY:=fun x:Int×Unit=>Uk.T x.1
abbrev TB:aG:=⟨[.v false [CT.int .i64]],[(false,[CT.bool])],dY,[]⟩
theorem wO:aF Dr Tryz.prog 61 TB:=aW mix .nil (by kernel_rfl) fun x=>by kernel_rfl
def Tj.T(n:Int):Option (Bool×Unit):=cond (decide (n≥1)) (some ((decide (n≤1073741824)),())) (some (false,()))
def fZ:=fun x:Int×Unit=>Tj.T x.1
abbrev Sm:aG:=⟨[.v false [CT.int .i64]],[(false,[CT.bool])],fZ,[]⟩
theorem C9:aF Dr Tryz.prog 62 Sm:=aW mix .nil (by kernel_rfl) fun x=>by kernel_rfl
abbrev Ko:Is:=[.v true eH,.v false [CT.int .i64]]
abbrev Jw:Os:=[(false,[CT.int .i64])]
namespace wX
def ay:Nat→List Nat×List Nat:=fun k=>if k=2 then([1,2,5],[4])else([],[])
def zrc{R:Type}(k0:Nat)(p:List Nat):Env→List Ob→ai R→Option R:=bD Tryz.prog (aP []) 22 0 ay k0 (bQ p (cZ Tryz.prog 64))
def R0{R:Type}(nx0:uo R)(ex0:Y2 R)(ex1:dF R)(id2 i f:Int)(f3 f4:List U7):Option R:=cond (decide (i<(f3.length:Int))) (if 0≤i∧i<(f3.length:Int)then cond ((rd (0,0,0,0,()) f3 i).1==id2) (ex0 i) (nx0 id2 (af (i+1)) f f3 f4)else none) (ex1 ())
def A0(f0:Int)(f1 f2:List U7)(id:Int)(t4x:Int):Option (Int×Unit):=some (t4x,())
def A1(f0:Int)(f1 f2:List U7)(id:Int)(_u:Unit):Option (Int×Unit):=some ((-1),())
def T(lo0:uo (Int×Unit))(f0:Int)(f1 f2:List U7)(id:Int):Option (Int×Unit):=lo0 id 0 f0 f1 f2
def K0{R:Type}(k0:Nat)(K:ai R):ai R:=aY 0 (bg (fun env ob=>zrc k0 [1,1] env ob (K)) (K))
def L0:uo R:=fun id2 i f f3 f4=>iter 0 [1,2,5] [4] (zrc k0 [1,0,1,0,0]) k [(1,.int .i64 id2),(2,.ptr 0 0 0 0),(5,.int .i64 i)] [.box [.int .i64 f,.sl aC f3,.sl aC f4]] K
def H0:Y2 R:=fun t4x=>K .ret [(4,.int .i64 t4x)] []
def H1:dF R:=fun _=>K (.exit 0) [(4,.undef)] []
theorem zs0:L0 k0 (k+1) K=R0 (L0 k0 k K) (H0 K) (H1 K):=by kernel_rfl
def G0{R:Type}(k0:Nat)(hx0:Y2 R)(hx1:dF R):Nat→uo R
 |0=>fun _ _ _ _ _=>none
 |k+1=>R0 (G0 k0 hx0 hx1 k) hx0 hx1
theorem aK:∀ k,L0 k0 k K=G0 k0 (H0 K) (H1 K) k:=bG rfl fun k ih=>by rw[zs0,G0];(try simp only[ih]);try rfl
variable (f0:Int) (f1 f2:List U7) (id:Int)
def aA:ai (Int×Unit):=bW Tryz.prog [.tmp 4] Ko Jw (f0,f1,f2,id,())
theorem aS:H0 (K0 k0 (aA f0 f1 f2 id))=A0 f0 f1 f2 id:=by kernel_rfl
theorem bU:H1 (K0 k0 (aA f0 f1 f2 id))=A1 f0 f1 f2 id:=by kernel_rfl
def FF:Option (Int×Unit):=T (G0 k0 (A0 f0 f1 f2 id) (A1 f0 f1 f2 id) k0) f0 f1 f2 id
theorem aQ:bZ Tryz.prog (aP []) ay k0 64 Ko Jw [] (f0,f1,f2,id,())=FF k0 f0 f1 f2 id:=Eq.trans (b:=T (L0 k0 k0 (K0 k0 (aA f0 f1 f2 id))) f0 f1 f2 id) (by kernel_rfl) (by rw[FF];(try simp only[aK,aS,bU]);try rfl)
def _root_.Go.Rv.jG:=fun x:Int×(List U7)×(List U7)×Int×Unit=>FF (300+x.2.1.length+x.2.2.1.length) x.1 x.2.1 x.2.2.1 x.2.2.2.1
abbrev _root_.Go.Rv.wP:aG:=⟨Ko,Jw,jG,[]⟩
theorem _root_.Go.Rv.wM:aF Dr Tryz.prog 64 wP:=dh mix .nil (by kernel_rfl) fun x=>⟨ay,_,aQ _ _ _ _ _⟩
end wX
abbrev JF:Is:=[.v true eH]
abbrev Jf:Os:=[(false,[CT.bool])]
namespace iH
def dD:Tb:=[(60,[],UA),(61,[],TB),(62,[],Sm),(64,[],wP)]
def ay:Nat→List Nat×List Nat:=fun k=>if k=4 then([1,3],[1,2])else if k=10 then([1,5],[2])else([],[])
def zrc{R:Type}(k0:Nat)(p:List Nat):Env→List Ob→ai R→Option R:=bD Tryz.prog (aP dD) 142 0 ay k0 (bQ p (cZ Tryz.prog 58))
def R0{R:Type}(nx0:um R)(ex0:zi R)(ex1:zh R)(i f:Int)(f3 f4:List U7):Option R:=cond (decide (i<(f3.length:Int))) (if 0≤i∧i<(f3.length:Int)then(lq ((rd (0,0,0,0,()) f3 i).1,())).bind fun y1=>cond (!y1.1) (ex0 false f f3 f4) (cond (decide (i>0)) (if 0≤(af (i - 1))∧(af (i - 1))<(f3.length:Int)then cond (decide ((rd (0,0,0,0,()) f3 i).1≤(rd (0,0,0,0,()) f3 (af (i - 1))).1)) (ex0 false f f3 f4) (cond ((rd (0,0,0,0,()) f3 i).2.1 != 0) ((jG (f,f3,f4,(rd (0,0,0,0,()) f3 i).2.1,())).bind fun y2=>cond (decide (y2.1<0)) (ex0 false f f3 f4) (cond (decide ((rd (0,0,0,0,()) f3 i).2.1≥(rd (0,0,0,0,()) f3 i).1)) (ex0 false f f3 f4) ((dY ((rd (0,0,0,0,()) f3 i).2.2.1,())).bind fun y3=>cond (!y3.1) (ex0 false f f3 f4) ((fZ ((rd (0,0,0,0,()) f3 i).2.2.2.1,())).bind fun y4=>cond (!y4.1) (ex0 false f f3 f4) (nx0 (af (i+1)) f f3 f4))))) ((dY ((rd (0,0,0,0,()) f3 i).2.2.1,())).bind fun y5=>cond (!y5.1) (ex0 false f f3 f4) ((fZ ((rd (0,0,0,0,()) f3 i).2.2.2.1,())).bind fun y6=>cond (!y6.1) (ex0 false f f3 f4) (nx0 (af (i+1)) f f3 f4))))else none) (cond ((rd (0,0,0,0,()) f3 i).2.1 != 0) ((jG (f,f3,f4,(rd (0,0,0,0,()) f3 i).2.1,())).bind fun y7=>cond (decide (y7.1<0)) (ex0 false f f3 f4) (cond (decide ((rd (0,0,0,0,()) f3 i).2.1≥(rd (0,0,0,0,()) f3 i).1)) (ex0 false f f3 f4) ((dY ((rd (0,0,0,0,()) f3 i).2.2.1,())).bind fun y8=>cond (!y8.1) (ex0 false f f3 f4) ((fZ ((rd (0,0,0,0,()) f3 i).2.2.2.1,())).bind fun y9=>cond (!y9.1) (ex0 false f f3 f4) (nx0 (af (i+1)) f f3 f4))))) ((dY ((rd (0,0,0,0,()) f3 i).2.2.1,())).bind fun y10=>cond (!y10.1) (ex0 false f f3 f4) ((fZ ((rd (0,0,0,0,()) f3 i).2.2.2.1,())).bind fun y11=>cond (!y11.1) (ex0 false f f3 f4) (nx0 (af (i+1)) f f3 f4)))))else none) (ex1 f f3 f4)
def R1{R:Type}(nx1:um R)(ex2:fM R)(ex3:dF R)(i f:Int)(f3 f4:List U7):Option R:=cond (decide (i<(f4.length:Int))) (if 0≤i∧i<(f4.length:Int)then(lq ((rd (0,0,0,0,()) f4 i).1,())).bind fun y1=>cond (!y1.1) (ex2 false) (cond (decide (i>0)) (if 0≤(af (i - 1))∧(af (i - 1))<(f4.length:Int)then cond (decide ((rd (0,0,0,0,()) f4 i).1≤(rd (0,0,0,0,()) f4 (af (i - 1))).1)) (ex2 false) (cond ((rd (0,0,0,0,()) f4 i).2.1 != 0) ((jG (f,f3,f4,(rd (0,0,0,0,()) f4 i).2.1,())).bind fun y2=>cond (decide (y2.1<0)) (ex2 false) ((dY ((rd (0,0,0,0,()) f4 i).2.2.1,())).bind fun y3=>cond (!y3.1) (ex2 false) ((fZ ((rd (0,0,0,0,()) f4 i).2.2.2.1,())).bind fun y4=>cond (!y4.1) (ex2 false) (nx1 (af (i+1)) f f3 f4)))) ((dY ((rd (0,0,0,0,()) f4 i).2.2.1,())).bind fun y5=>cond (!y5.1) (ex2 false) ((fZ ((rd (0,0,0,0,()) f4 i).2.2.2.1,())).bind fun y6=>cond (!y6.1) (ex2 false) (nx1 (af (i+1)) f f3 f4))))else none) (cond ((rd (0,0,0,0,()) f4 i).2.1 != 0) ((jG (f,f3,f4,(rd (0,0,0,0,()) f4 i).2.1,())).bind fun y7=>cond (decide (y7.1<0)) (ex2 false) ((dY ((rd (0,0,0,0,()) f4 i).2.2.1,())).bind fun y8=>cond (!y8.1) (ex2 false) ((fZ ((rd (0,0,0,0,()) f4 i).2.2.2.1,())).bind fun y9=>cond (!y9.1) (ex2 false) (nx1 (af (i+1)) f f3 f4)))) ((dY ((rd (0,0,0,0,()) f4 i).2.2.1,())).bind fun y10=>cond (!y10.1) (ex2 false) ((fZ ((rd (0,0,0,0,()) f4 i).2.2.2.1,())).bind fun y11=>cond (!y11.1) (ex2 false) (nx1 (af (i+1)) f f3 f4)))))else none) (ex3 ())
def A0(f0:Int)(f1 f2:List U7)(t2x:Bool)(f:Int)(f3 f4:List U7):Option (Bool×Unit):=some (t2x,())
def A1(lo1:um (Bool×Unit))(f0:Int)(f1 f2:List U7)(f:Int)(f3 f4:List U7):Option (Bool×Unit):=lo1 0 f f3 f4
def A2(f0:Int)(f1 f2:List U7)(t2x:Bool):Option (Bool×Unit):=some (t2x,())
def A3(f0:Int)(f1 f2:List U7)(_u:Unit):Option (Bool×Unit):=some (true,())
def T(lo0:um (Bool×Unit))(f0:Int)(f1 f2:List U7):Option (Bool×Unit):=(dY (f0,())).bind fun y1=>cond (!y1.1) (some (false,())) (cond (decide ((f1.length:Int)>30)) (some (false,())) (cond (decide ((f2.length:Int)>60)) (some (false,())) (lo0 0 f0 f1 f2)))
def K0{R:Type}(k0:Nat)(K:ai R):ai R:=aY 0 (bg (fun env ob=>zrc k0 [1,1,1] env ob (K)) (K))
def K1{R:Type}(k0:Nat)(K:ai R):ai R:=aY 2 (bg (fun env ob=>zrc k0 [1,1,1,1] env ob (K)) (K))
def L0:um R:=fun i f f3 f4=>iter 0 [1,3] [1,2] (zrc k0 [1,1,0,1,0,0]) k [(1,.ptr 0 0 0 0),(3,.int .i64 i)] [.box [.int .i64 f,.sl aC f3,.sl aC f4]] K
def L1:um R:=fun i f f3 f4=>iter 0 [1,5] [2] (zrc k0 [1,1,1,0,1,0,0]) k [(1,.ptr 0 0 0 0),(5,.int .i64 i)] [.box [.int .i64 f,.sl aC f3,.sl aC f4]] K
def H0:zi R:=fun t2x f f3 f4=>K .ret [(1,.ptr 0 0 0 0),(2,.bool t2x)] [.box [.int .i64 f,.sl aC f3,.sl aC f4]]
def H1:zh R:=fun f f3 f4=>K (.exit 0) [(1,.ptr 0 0 0 0),(2,.undef)] [.box [.int .i64 f,.sl aC f3,.sl aC f4]]
def H2:fM R:=fun t2x=>K .ret [(2,.bool t2x)] []
def H3:dF R:=fun _=>K (.exit 2) [(2,.undef)] []
theorem zs0:L0 k0 (k+1) K=R0 (L0 k0 k K) (H0 K) (H1 K):=by kernel_rfl
theorem zs1:L1 k0 (k+1) K=R1 (L1 k0 k K) (H2 K) (H3 K):=by kernel_rfl
def G0{R:Type}(k0:Nat)(hx0:zi R)(hx1:zh R):Nat→um R
 |0=>fun _ _ _ _=>none
 |k+1=>R0 (G0 k0 hx0 hx1 k) hx0 hx1
theorem aK:∀ k,L0 k0 k K=G0 k0 (H0 K) (H1 K) k:=bG rfl fun k ih=>by rw[zs0,G0];(try simp only[ih]);try rfl
def G1{R:Type}(k0:Nat)(hx2:fM R)(hx3:dF R):Nat→um R
 |0=>fun _ _ _ _=>none
 |k+1=>R1 (G1 k0 hx2 hx3 k) hx2 hx3
theorem dO:∀ k,L1 k0 k K=G1 k0 (H2 K) (H3 K) k:=bG rfl fun k ih=>by rw[zs1,G1];(try simp only[ih,aK]);try rfl
variable (f0:Int) (f1 f2:List U7)
def aA:ai (Bool×Unit):=bW Tryz.prog [.tmp 2] JF Jf (f0,f1,f2,())
theorem aS:H0 (K0 k0 (aA f0 f1 f2))=A0 f0 f1 f2:=by kernel_rfl
theorem bU:H1 (K0 k0 (aA f0 f1 f2))=A1 (L1 k0 k0 (K1 k0 (aA f0 f1 f2))) f0 f1 f2:=by kernel_rfl
theorem mr:H2 (K1 k0 (aA f0 f1 f2))=A2 f0 f1 f2:=by kernel_rfl
theorem rq:H3 (K1 k0 (aA f0 f1 f2))=A3 f0 f1 f2:=by kernel_rfl
def FF:Option (Bool×Unit):=T (G0 k0 (A0 f0 f1 f2) (A1 (G1 k0 (A2 f0 f1 f2) (A3 f0 f1 f2) k0) f0 f1 f2) k0) f0 f1 f2
theorem aQ:bZ Tryz.prog (aP dD) ay k0 58 JF Jf [] (f0,f1,f2,())=FF k0 f0 f1 f2:=Eq.trans (b:=T (L0 k0 k0 (K0 k0 (aA f0 f1 f2))) f0 f1 f2) (by kernel_rfl) (by rw[FF];(try simp only[aK,dO,aS,bU,mr,rq]);try rfl)
def _root_.Go.Rv.zI:=fun x:U3=>FF (300+x.2.1.length+x.2.2.1.length) x.1 x.2.1 x.2.2.1
abbrev _root_.Go.Rv.Dk:aG:=⟨JF,Jf,zI,[]⟩
theorem _root_.Go.Rv.J7:aF Dr Tryz.prog 58 Dk:=dh mix (.c Ad (.c wO (.c C9 (.c wM .nil)))) (by kernel_rfl) fun x=>⟨ay,_,aQ _ _ _ _⟩
end iH
def Ui.T(n:Int):Option (Bool×Unit):=cond (decide (n≥0)) (some ((decide (n≤1000000)),())) (some (false,()))
def DR:=fun x:Int×Unit=>Ui.T x.1
abbrev acO:aG:=⟨[.v false [CT.int .i64]],[(false,[CT.bool])],DR,[]⟩
theorem abU:aF Dr Tryz.prog 129 acO:=aW mix .nil (by kernel_rfl) fun x=>by kernel_rfl
def TL.T(l0 l1 l2:Int):Option (Bool×Unit):=(lq (l0,())).bind fun y1=>cond y1.1 ((dY (l1,())).bind fun y2=>cond y2.1 ((DR (l2,())).bind fun y3=>some (y3.1,())) (some (false,()))) (some (false,()))
def zT:=fun x:U8=>TL.T x.1 x.2.1 x.2.2.1
abbrev zS:aG:=⟨[.v true ct0],[(false,[CT.bool])],zT,[]⟩
theorem RX:aF Dr Tryz.prog 101 zS:=aW mix (.c Ad (.c wO (.c abU .nil))) (by kernel_rfl) fun x=>by kernel_rfl
abbrev IW:Is:=[.v false [CT.sl ct0]]
abbrev Io:Os:=[(false,[CT.bool])]
namespace kD
def ay:Nat→List Nat×List Nat:=fun k=>if k=4 then([0,3],[2])else([],[])
def zrc{R:Type}(k0:Nat)(p:List Nat):Env→List Ob→ai R→Option R:=bD Tryz.prog (aP [(101,[],zS)]) 37 0 ay k0 (bQ p (cZ Tryz.prog 59))
def R0{R:Type}(nx0:GI R)(ex0:fM R)(ex1:dF R)(list2:List U8)(i:Int):Option R:=cond (decide (i<(list2.length:Int))) (if 0≤i∧i<(list2.length:Int)then(zT ((rd (0,0,0,()) list2 i).1,(rd (0,0,0,()) list2 i).2.1,(rd (0,0,0,()) list2 i).2.2.1,())).bind fun y1=>cond (!y1.1) (ex0 false) (cond (decide (i>0)) (if 0≤i∧i<(list2.length:Int)then if 0≤(af (i - 1))∧(af (i - 1))<(list2.length:Int)then cond (decide ((rd (0,0,0,()) list2 i).1≤(rd (0,0,0,()) list2 (af (i - 1))).1)) (ex0 false) (nx0 list2 (af (i+1)))else none else none) (nx0 list2 (af (i+1))))else none) (ex1 ())
def A0(list:List U8)(t2x:Bool):Option (Bool×Unit):=some (t2x,())
def A1(list:List U8)(_u:Unit):Option (Bool×Unit):=some (true,())
def T(lo0:GI (Bool×Unit))(list:List U8):Option (Bool×Unit):=cond (decide ((list.length:Int)>60)) (some (false,())) (lo0 list 0)
def K0{R:Type}(k0:Nat)(K:ai R):ai R:=aY 0 (bg (fun env ob=>zrc k0 [1,1,1] env ob (K)) (K))
def L0:GI R:=fun list2 i=>iter 0 [0,3] [2] (zrc k0 [1,1,0,1,0,0]) k [(0,.sl ct0 list2),(3,.int .i64 i)] [] K
def H0:fM R:=fun t2x=>K .ret [(2,.bool t2x)] []
def H1:dF R:=fun _=>K (.exit 0) [(2,.undef)] []
theorem zs0:L0 k0 (k+1) K=R0 (L0 k0 k K) (H0 K) (H1 K):=by kernel_rfl
def G0{R:Type}(k0:Nat)(hx0:fM R)(hx1:dF R):Nat→GI R
 |0=>fun _ _=>none
 |k+1=>R0 (G0 k0 hx0 hx1 k) hx0 hx1
theorem aK:∀ k,L0 k0 k K=G0 k0 (H0 K) (H1 K) k:=bG rfl fun k ih=>by rw[zs0,G0];(try simp only[ih]);try rfl
variable (list:List U8)
def aA:ai (Bool×Unit):=bW Tryz.prog [.tmp 2] IW Io (list,())
theorem aS:H0 (K0 k0 (aA list))=A0 list:=by kernel_rfl
theorem bU:H1 (K0 k0 (aA list))=A1 list:=by kernel_rfl
def FF:Option (Bool×Unit):=T (G0 k0 (A0 list) (A1 list) k0) list
theorem aQ:bZ Tryz.prog (aP [(101,[],zS)]) ay k0 59 IW Io [] (list,())=FF k0 list:=Eq.trans (b:=T (L0 k0 k0 (K0 k0 (aA list))) list) (by kernel_rfl) (by rw[FF];(try simp only[aK,aS,bU]);try rfl)
def _root_.Go.Rv.wI:=fun x:(List U8)×Unit=>FF (300+x.1.length) x.1
abbrev _root_.Go.Rv.wH:aG:=⟨IW,Io,wI,[]⟩
theorem _root_.Go.Rv.CQ:aF Dr Tryz.prog 59 wH:=dh mix (.c RX .nil) (by kernel_rfl) fun x=>⟨ay,_,aQ _ _⟩
end kD
abbrev IV:Is:=[.v true gV]
abbrev Il:Os:=[(false,[CT.bool])]
namespace kC
def dD:Tb:=[(57,[],Sl),(58,[],Dk),(59,[],wH)]
def ay:Nat→List Nat×List Nat:=fun k=>if k=4 then([1,3],[2])else([],[])
def zrc{R:Type}(k0:Nat)(p:List Nat):Env→List Ob→ai R→Option R:=bD Tryz.prog (aP dD) 93 0 ay k0 (bQ p (cZ Tryz.prog 30))
def R0{R:Type}(nx0:GH R)(ex0:fM R)(ex1:dF R)(i s s7 s8 s9:Int)(s10 s11:List U7)(s12:List U8):Option R:=cond (decide (i<(s12.length:Int))) (if 0≤i∧i<(s12.length:Int)then if 0≤i∧i<(s11.length:Int)then cond ((rd (0,0,0,()) s12 i).1 != (rd (0,0,0,0,()) s11 i).1) (ex0 false) (if 0≤i∧i<(s12.length:Int)then cond (decide ((rd (0,0,0,()) s12 i).2.2.1≤s8)) (ex0 false) (if 0≤i∧i<(s12.length:Int)then cond (decide ((rd (0,0,0,()) s12 i).2.2.1>(af (s8+s)))) (ex0 false) (nx0 (af (i+1)) s s7 s8 s9 s10 s11 s12)else none)else none)else none else none) (ex1 ())
def A0(s0 s1 s2 s3:Int)(s4 s5:List U7)(s6:List U8)(t2x:Bool):Option (Bool×Unit):=some (t2x,())
def A1(s0 s1 s2 s3:Int)(s4 s5:List U7)(s6:List U8)(_u:Unit):Option (Bool×Unit):=some (true,())
def T(lo0:GH (Bool×Unit))(s0 s1 s2 s3:Int)(s4 s5:List U7)(s6:List U8):Option (Bool×Unit):=(Dl (s0,())).bind fun y1=>cond (!y1.1) (some (false,())) (cond (decide (s1<0)) (some (false,())) (cond (decide (s1>s2)) (some (false,())) (cond (decide (s2>999000)) (some (false,())) ((zI (s3,s4,s5,())).bind fun y2=>cond (!y2.1) (some (false,())) ((wI (s6,())).bind fun y3=>cond (!y3.1) (some (false,())) (cond ((s6.length:Int) != (s5.length:Int)) (some (false,())) (lo0 0 s0 s1 s2 s3 s4 s5 s6)))))))
def K0{R:Type}(k0:Nat)(K:ai R):ai R:=aY 0 (bg (fun env ob=>zrc k0 [1,1,1] env ob (K)) (K))
def L0:GH R:=fun i s s7 s8 s9 s10 s11 s12=>iter 0 [1,3] [2] (zrc k0 [1,1,0,1,0,0]) k [(1,.ptr 0 0 0 0),(3,.int .i64 i)] [.box [.int .i64 s,.int .i64 s7,.int .i64 s8,.int .i64 s9,.sl aC s10,.sl aC s11,.sl ct0 s12]] K
def H0:fM R:=fun t2x=>K .ret [(2,.bool t2x)] []
def H1:dF R:=fun _=>K (.exit 0) [(2,.undef)] []
theorem zs0:L0 k0 (k+1) K=R0 (L0 k0 k K) (H0 K) (H1 K):=by kernel_rfl
def G0{R:Type}(k0:Nat)(hx0:fM R)(hx1:dF R):Nat→GH R
 |0=>fun _ _ _ _ _ _ _ _=>none
 |k+1=>R0 (G0 k0 hx0 hx1 k) hx0 hx1
theorem aK:∀ k,L0 k0 k K=G0 k0 (H0 K) (H1 K) k:=bG rfl fun k ih=>by rw[zs0,G0];(try simp only[ih]);try rfl
variable (s0 s1 s2 s3:Int) (s4 s5:List U7) (s6:List U8)
def aA:ai (Bool×Unit):=bW Tryz.prog [.tmp 2] IV Il (s0,s1,s2,s3,s4,s5,s6,())
theorem aS:H0 (K0 k0 (aA s0 s1 s2 s3 s4 s5 s6))=A0 s0 s1 s2 s3 s4 s5 s6:=by kernel_rfl
theorem bU:H1 (K0 k0 (aA s0 s1 s2 s3 s4 s5 s6))=A1 s0 s1 s2 s3 s4 s5 s6:=by kernel_rfl
def FF:Option (Bool×Unit):=T (G0 k0 (A0 s0 s1 s2 s3 s4 s5 s6) (A1 s0 s1 s2 s3 s4 s5 s6) k0) s0 s1 s2 s3 s4 s5 s6
theorem aQ:bZ Tryz.prog (aP dD) ay k0 30 IV Il [] (s0,s1,s2,s3,s4,s5,s6,())=FF k0 s0 s1 s2 s3 s4 s5 s6:=Eq.trans (b:=T (L0 k0 k0 (K0 k0 (aA s0 s1 s2 s3 s4 s5 s6))) s0 s1 s2 s3 s4 s5 s6) (by kernel_rfl) (by rw[FF];(try simp only[aK,aS,bU]);try rfl)
def _root_.Go.Rv.CW:=fun x:U1=>FF (300+x.2.2.2.2.1.length+x.2.2.2.2.2.1.length+x.2.2.2.2.2.2.1.length) x.1 x.2.1 x.2.2.1 x.2.2.2.1 x.2.2.2.2.1 x.2.2.2.2.2.1 x.2.2.2.2.2.2.1
abbrev _root_.Go.Rv.RD:aG:=⟨IV,Il,CW,[]⟩
theorem _root_.Go.Rv.Ro:aF Dr Tryz.prog 30 RD:=dh mix (.c aaS (.c J7 (.c CQ .nil))) (by kernel_rfl) fun x=>⟨ay,_,aQ _ _ _ _ _ _ _ _⟩
end kC
def Uj.T(f0:Int)(f1 f2:List U7):Option (U3):=if([]:List U7).length+f1.length≤maxRow then if([]:List U7).length+f2.length≤maxRow then some (f0,(([]:List U7)++f1),(([]:List U7)++f2),())else none else none
def pq:=fun x:U3=>Uj.T x.1 x.2.1 x.2.2.1
abbrev DN:aG:=⟨[.v true eH],[(true,eH)],pq,[]⟩
theorem zQ:aF Dr Tryz.prog 71 DN:=aW mix .nil (by kernel_rfl) fun x=>by kernel_rfl
def Uh.T(s0 s1 s2 s3:Int)(s4 s5:List U7)(s6:List U8):Option (U1):=(pq (s3,s4,s5,())).bind fun y1=>if([]:List U8).length+s6.length≤maxRow then some (s0,s1,s2,y1.1,y1.2.1,y1.2.2.1,(([]:List U8)++s6),())else none
def oh:=fun x:U1=>Uh.T x.1 x.2.1 x.2.2.1 x.2.2.2.1 x.2.2.2.2.1 x.2.2.2.2.2.1 x.2.2.2.2.2.2.1
abbrev uN:aG:=⟨[.v true gV],[(true,gV)],oh,[]⟩
theorem zO:aF Dr Tryz.prog 38 uN:=aW mix (.c zQ .nil) (by kernel_rfl) fun x=>by kernel_rfl
def adl.T(o0 o1 o2 o3 o4:Int):Option (U5):=cond (o0==3) (some (8,o1,o2,o3,o4,())) (cond (o0==6) (some (6,o1,o2,o3,o4,())) (cond (o0==7) (some (7,o1,o2,o3,o4,())) (some (0,o1,o2,o3,o4,()))))
def o9:=fun x:U5=>adl.T x.1 x.2.1 x.2.2.1 x.2.2.2.1 x.2.2.2.2.1
abbrev TA:aG:=⟨[.v true dJ],[(true,dJ)],o9,[]⟩
theorem SC:aF Dr Tryz.prog 37 TA:=aW mix .nil (by kernel_rfl) fun x=>by kernel_rfl
def zW.T(e0 e1 e2 e3 e4:Int):Option (Bool×Unit):=(lq (e1,())).bind fun y1=>cond (!y1.1) (cond (e0==8) (cond (!(e1==0)) (some (false,())) (cond (e2 != 0) ((lq (e2,())).bind fun y2=>cond (!y2.1) (some (false,())) (cond (e0==1) ((dY (e3,())).bind fun y3=>cond y3.1 ((fZ (e4,())).bind fun y4=>some (y4.1,())) (some (false,()))) (cond (e0==6) ((dY (e3,())).bind fun y5=>cond y5.1 ((fZ (e4,())).bind fun y6=>some (y6.1,())) (some (false,()))) (cond (e0==2) (cond (e2==0) (cond (e3==0) (some ((e4==0),())) (some (false,()))) (some (false,()))) (cond (e0==7) (cond (e2==0) (cond (e3==0) (some ((e4==0),())) (some (false,()))) (some (false,()))) (cond (e0==3) (cond (e2==0) ((dY (e3,())).bind fun y7=>cond y7.1 (some ((e4==0),())) (some (false,()))) (some (false,()))) (cond (e0==8) (cond (e2==0) ((dY (e3,())).bind fun y8=>cond y8.1 (some ((e4==0),())) (some (false,()))) (some (false,()))) (cond (e0==4) (cond (e2==0) ((fZ (e3,())).bind fun y9=>cond y9.1 (some ((e4==0),())) (some (false,()))) (some (false,()))) (cond (e0==5) (cond (e3==0) (some ((e4==0),())) (some (false,()))) (some (false,()))))))))))) (cond (e0==1) ((dY (e3,())).bind fun y10=>cond y10.1 ((fZ (e4,())).bind fun y11=>some (y11.1,())) (some (false,()))) (cond (e0==6) ((dY (e3,())).bind fun y12=>cond y12.1 ((fZ (e4,())).bind fun y13=>some (y13.1,())) (some (false,()))) (cond (e0==2) (cond (e2==0) (cond (e3==0) (some ((e4==0),())) (some (false,()))) (some (false,()))) (cond (e0==7) (cond (e2==0) (cond (e3==0) (some ((e4==0),())) (some (false,()))) (some (false,()))) (cond (e0==3) (cond (e2==0) ((dY (e3,())).bind fun y14=>cond y14.1 (some ((e4==0),())) (some (false,()))) (some (false,()))) (cond (e0==8) (cond (e2==0) ((dY (e3,())).bind fun y15=>cond y15.1 (some ((e4==0),())) (some (false,()))) (some (false,()))) (cond (e0==4) (cond (e2==0) ((fZ (e3,())).bind fun y16=>cond y16.1 (some ((e4==0),())) (some (false,()))) (some (false,()))) (cond (e0==5) (cond (e3==0) (some ((e4==0),())) (some (false,()))) (some (false,())))))))))))) (some (false,()))) (cond (e2 != 0) ((lq (e2,())).bind fun y17=>cond (!y17.1) (some (false,())) (cond (e0==1) ((dY (e3,())).bind fun y18=>cond y18.1 ((fZ (e4,())).bind fun y19=>some (y19.1,())) (some (false,()))) (cond (e0==6) ((dY (e3,())).bind fun y20=>cond y20.1 ((fZ (e4,())).bind fun y21=>some (y21.1,())) (some (false,()))) (cond (e0==2) (cond (e2==0) (cond (e3==0) (some ((e4==0),())) (some (false,()))) (some (false,()))) (cond (e0==7) (cond (e2==0) (cond (e3==0) (some ((e4==0),())) (some (false,()))) (some (false,()))) (cond (e0==3) (cond (e2==0) ((dY (e3,())).bind fun y22=>cond y22.1 (some ((e4==0),())) (some (false,()))) (some (false,()))) (cond (e0==8) (cond (e2==0) ((dY (e3,())).bind fun y23=>cond y23.1 (some ((e4==0),())) (some (false,()))) (some (false,()))) (cond (e0==4) (cond (e2==0) ((fZ (e3,())).bind fun y24=>cond y24.1 (some ((e4==0),())) (some (false,()))) (some (false,()))) (cond (e0==5) (cond (e3==0) (some ((e4==0),())) (some (false,()))) (some (false,()))))))))))) (cond (e0==1) ((dY (e3,())).bind fun y25=>cond y25.1 ((fZ (e4,())).bind fun y26=>some (y26.1,())) (some (false,()))) (cond (e0==6) ((dY (e3,())).bind fun y27=>cond y27.1 ((fZ (e4,())).bind fun y28=>some (y28.1,())) (some (false,()))) (cond (e0==2) (cond (e2==0) (cond (e3==0) (some ((e4==0),())) (some (false,()))) (some (false,()))) (cond (e0==7) (cond (e2==0) (cond (e3==0) (some ((e4==0),())) (some (false,()))) (some (false,()))) (cond (e0==3) (cond (e2==0) ((dY (e3,())).bind fun y29=>cond y29.1 (some ((e4==0),())) (some (false,()))) (some (false,()))) (cond (e0==8) (cond (e2==0) ((dY (e3,())).bind fun y30=>cond y30.1 (some ((e4==0),())) (some (false,()))) (some (false,()))) (cond (e0==4) (cond (e2==0) ((fZ (e3,())).bind fun y31=>cond y31.1 (some ((e4==0),())) (some (false,()))) (some (false,()))) (cond (e0==5) (cond (e3==0) (some ((e4==0),())) (some (false,()))) (some (false,())))))))))))
def jF:=fun x:U5=>zW.T x.1 x.2.1 x.2.2.1 x.2.2.2.1 x.2.2.2.2.1
abbrev abO:aG:=⟨[.v true dJ],[(false,[CT.bool])],jF,[]⟩
theorem RI:aF Dr Tryz.prog 63 abO:=aW mix (.c Ad (.c wO (.c C9 .nil))) (by kernel_rfl) fun x=>by kernel_rfl
def Vd.T(o0 o1 o2 o3 o4:Int):Option (Bool×Unit):=cond (o0==1) ((lq (o1,())).bind fun y1=>cond y1.1 (cond (o2==0) ((dY (o3,())).bind fun y2=>cond y2.1 ((fZ (o4,())).bind fun y3=>some (y3.1,())) (some (false,()))) ((lq (o2,())).bind fun y4=>cond y4.1 ((dY (o3,())).bind fun y5=>cond y5.1 ((fZ (o4,())).bind fun y6=>some (y6.1,())) (some (false,()))) (some (false,())))) (some (false,()))) (cond (o0==2) ((lq (o1,())).bind fun y7=>cond y7.1 (cond (o2==0) (cond (o3==0) (some ((o4==0),())) (some (false,()))) (some (false,()))) (some (false,()))) (cond (o0==4) (cond (o1==0) (cond (o2==0) (cond (o3==0) (some ((o4==0),())) (some (false,()))) (some (false,()))) (some (false,()))) (cond (o0==5) (cond (o1==0) (cond (o2==0) (cond (o3==0) (some ((o4==0),())) (some (false,()))) (some (false,()))) (some (false,()))) (cond (o0==6) ((o9 (o0,o1,o2,o3,o4,())).bind fun y8=>(jF (y8.1,y8.2.1,y8.2.2.1,y8.2.2.2.1,y8.2.2.2.2.1,())).bind fun y9=>cond y9.1 (some ((decide (o2<o1)),())) (some (false,()))) (cond (o0==3) ((o9 (o0,o1,o2,o3,o4,())).bind fun y10=>(jF (y10.1,y10.2.1,y10.2.2.1,y10.2.2.2.1,y10.2.2.2.2.1,())).bind fun y11=>some (y11.1,())) (cond (o0==7) ((o9 (o0,o1,o2,o3,o4,())).bind fun y12=>(jF (y12.1,y12.2.1,y12.2.2.1,y12.2.2.2.1,y12.2.2.2.2.1,())).bind fun y13=>some (y13.1,())) (some (false,()))))))))
def Ej:=fun x:U5=>Vd.T x.1 x.2.1 x.2.2.1 x.2.2.2.1 x.2.2.2.2.1
abbrev Uz:aG:=⟨[.v true dJ],[(false,[CT.bool])],Ej,[]⟩
theorem ac2:aF Dr Tryz.prog 31 Uz:=aW mix (.c SC (.c Ad (.c wO (.c C9 (.c RI .nil))))) (by kernel_rfl) fun x=>by kernel_rfl
def acY.T(code:Int):Option (U0):=some (0,0,0,0,[],[],[],0,0,code,())
def lU:=fun x:Int×Unit=>acY.T x.1
abbrev LU:aG:=⟨[.v false [CT.int .i64]],[(true,Qz)],lU,[]⟩
theorem RV:aF Dr Tryz.prog 32 LU:=aW mix .nil (by kernel_rfl) fun x=>by kernel_rfl
abbrev JE:Is:=[.v true eH,.v false [CT.int .i64]]
abbrev Je:Os:=[(false,[CT.int .i64])]
namespace wR
def ay:Nat→List Nat×List Nat:=fun k=>if k=2 then([1,2,5],[4])else([],[])
def zrc{R:Type}(k0:Nat)(p:List Nat):Env→List Ob→ai R→Option R:=bD Tryz.prog (aP []) 22 0 ay k0 (bQ p (cZ Tryz.prog 34))
def R0{R:Type}(nx0:uo R)(ex0:Y2 R)(ex1:dF R)(id2 i f:Int)(f3 f4:List U7):Option R:=cond (decide (i<(f4.length:Int))) (if 0≤i∧i<(f4.length:Int)then cond ((rd (0,0,0,0,()) f4 i).1==id2) (ex0 i) (nx0 id2 (af (i+1)) f f3 f4)else none) (ex1 ())
def A0(f0:Int)(f1 f2:List U7)(id:Int)(t4x:Int):Option (Int×Unit):=some (t4x,())
def A1(f0:Int)(f1 f2:List U7)(id:Int)(_u:Unit):Option (Int×Unit):=some ((-1),())
def T(lo0:uo (Int×Unit))(f0:Int)(f1 f2:List U7)(id:Int):Option (Int×Unit):=lo0 id 0 f0 f1 f2
def K0{R:Type}(k0:Nat)(K:ai R):ai R:=aY 0 (bg (fun env ob=>zrc k0 [1,1] env ob (K)) (K))
def L0:uo R:=fun id2 i f f3 f4=>iter 0 [1,2,5] [4] (zrc k0 [1,0,1,0,0]) k [(1,.int .i64 id2),(2,.ptr 0 0 0 0),(5,.int .i64 i)] [.box [.int .i64 f,.sl aC f3,.sl aC f4]] K
def H0:Y2 R:=fun t4x=>K .ret [(4,.int .i64 t4x)] []
def H1:dF R:=fun _=>K (.exit 0) [(4,.undef)] []
theorem zs0:L0 k0 (k+1) K=R0 (L0 k0 k K) (H0 K) (H1 K):=by kernel_rfl
def G0{R:Type}(k0:Nat)(hx0:Y2 R)(hx1:dF R):Nat→uo R
 |0=>fun _ _ _ _ _=>none
 |k+1=>R0 (G0 k0 hx0 hx1 k) hx0 hx1
theorem aK:∀ k,L0 k0 k K=G0 k0 (H0 K) (H1 K) k:=bG rfl fun k ih=>by rw[zs0,G0];(try simp only[ih]);try rfl
variable (f0:Int) (f1 f2:List U7) (id:Int)
def aA:ai (Int×Unit):=bW Tryz.prog [.tmp 4] JE Je (f0,f1,f2,id,())
theorem aS:H0 (K0 k0 (aA f0 f1 f2 id))=A0 f0 f1 f2 id:=by kernel_rfl
theorem bU:H1 (K0 k0 (aA f0 f1 f2 id))=A1 f0 f1 f2 id:=by kernel_rfl
def FF:Option (Int×Unit):=T (G0 k0 (A0 f0 f1 f2 id) (A1 f0 f1 f2 id) k0) f0 f1 f2 id
theorem aQ:bZ Tryz.prog (aP []) ay k0 34 JE Je [] (f0,f1,f2,id,())=FF k0 f0 f1 f2 id:=Eq.trans (b:=T (L0 k0 k0 (K0 k0 (aA f0 f1 f2 id))) f0 f1 f2 id) (by kernel_rfl) (by rw[FF];(try simp only[aK,aS,bU]);try rfl)
def _root_.Go.Rv.qy:=fun x:Int×(List U7)×(List U7)×Int×Unit=>FF (300+x.2.1.length+x.2.2.1.length) x.1 x.2.1 x.2.2.1 x.2.2.2.1
abbrev _root_.Go.Rv.Dj:aG:=⟨JE,Je,qy,[]⟩
theorem _root_.Go.Rv.CZ:aF Dr Tryz.prog 34 Dj:=dh mix .nil (by kernel_rfl) fun x=>⟨ay,_,aQ _ _ _ _ _⟩
end wR
def acZ.T(code:Int):Option (U2):=some (0,[],[],0,code,())
def ji:=fun x:Int×Unit=>acZ.T x.1
abbrev Dv:aG:=⟨[.v false [CT.int .i64]],[(true,BN)],ji,[]⟩
theorem Di:aF Dr Tryz.prog 70 Dv:=aW mix .nil (by kernel_rfl) fun x=>by kernel_rfl
abbrev KP:Is:=[.v true eH,.v true dJ]
abbrev JV:Os:=[(true,BN)]
namespace kF
def dD:Tb:=[(34,[],Dj),(64,[],wP),(70,[],Dv),(71,[],DN)]
def ay:Nat→List Nat×List Nat:=fun k=>if k=11 then([2,3,4,5,6,7],[3,4,5,6])else([],[])
def zrc{R:Type}(k0:Nat)(p:List Nat):Env→List Ob→ai R→Option R:=bD Tryz.prog (aP dD) 96 0 ay k0 (bQ p (cZ Tryz.prog 72))
def R0{R:Type}(nx0:uj R)(ex0:zf R)(done:Bool)(i f:Int)(f3 f4:List U7)(e e5 e6 e7 e8 t4x t4x2 t4x3 out:Int)(o4 o5:List U7):Option R:=cond (decide (i<(f4.length:Int))) (cond (!done) (if 0≤i∧i<(f4.length:Int)then cond (decide ((rd (0,0,0,0,()) f4 i).1>e5)) (if o5.length+[(e5,e6,e7,e8,())].length≤maxRow then if 0≤i∧i<(f4.length:Int)then if(o5++[(e5,e6,e7,e8,())]).length+[((rd (0,0,0,0,()) f4 i).1,(rd (0,0,0,0,()) f4 i).2.1,(rd (0,0,0,0,()) f4 i).2.2.1,(rd (0,0,0,0,()) f4 i).2.2.2.1,())].length≤maxRow then nx0 true (af (i+1)) f f3 f4 e e5 e6 e7 e8 t4x t4x2 t4x3 out o4 ((o5++[(e5,e6,e7,e8,())])++[((rd (0,0,0,0,()) f4 i).1,(rd (0,0,0,0,()) f4 i).2.1,(rd (0,0,0,0,()) f4 i).2.2.1,(rd (0,0,0,0,()) f4 i).2.2.2.1,())])else none else none else none) (if 0≤i∧i<(f4.length:Int)then if o5.length+[((rd (0,0,0,0,()) f4 i).1,(rd (0,0,0,0,()) f4 i).2.1,(rd (0,0,0,0,()) f4 i).2.2.1,(rd (0,0,0,0,()) f4 i).2.2.2.1,())].length≤maxRow then nx0 done (af (i+1)) f f3 f4 e e5 e6 e7 e8 t4x t4x2 t4x3 out o4 (o5++[((rd (0,0,0,0,()) f4 i).1,(rd (0,0,0,0,()) f4 i).2.1,(rd (0,0,0,0,()) f4 i).2.2.1,(rd (0,0,0,0,()) f4 i).2.2.2.1,())])else none else none)else none) (if 0≤i∧i<(f4.length:Int)then if o5.length+[((rd (0,0,0,0,()) f4 i).1,(rd (0,0,0,0,()) f4 i).2.1,(rd (0,0,0,0,()) f4 i).2.2.1,(rd (0,0,0,0,()) f4 i).2.2.2.1,())].length≤maxRow then nx0 done (af (i+1)) f f3 f4 e e5 e6 e7 e8 t4x t4x2 t4x3 out o4 (o5++[((rd (0,0,0,0,()) f4 i).1,(rd (0,0,0,0,()) f4 i).2.1,(rd (0,0,0,0,()) f4 i).2.2.1,(rd (0,0,0,0,()) f4 i).2.2.2.1,())])else none else none)) (ex0 done e e5 e6 e7 e8 t4x t4x2 t4x3 out o4 o5)
def A0(f0:Int)(f1 f2:List U7)(e0 e1 e2 e3 e4:Int)(done:Bool)(e e5 e6 e7 e8 t4x t4x2 t4x3 out:Int)(o3 o4:List U7):Option (U2):=cond (!done) (if o4.length+[(e5,e6,e7,e8,())].length≤maxRow then some (out,o3,(o4++[(e5,e6,e7,e8,())]),0,0,())else none) (some (out,o3,o4,0,0,()))
def T(lo0:uj (U2))(f0:Int)(f1 f2:List U7)(e0 e1 e2 e3 e4:Int):Option (U2):=(qy (f0,f1,f2,e1,())).bind fun y1=>cond (decide (y1.1≥0)) ((ji (5,())).bind fun y2=>some (y2.1,y2.2.1,y2.2.2.1,y2.2.2.2.1,y2.2.2.2.2.1,())) (cond (e2 != 0) ((jG (f0,f1,f2,e2,())).bind fun y3=>cond (decide (y3.1<0)) ((ji (4,())).bind fun y4=>some (y4.1,y4.2.1,y4.2.2.1,y4.2.2.2.1,y4.2.2.2.2.1,())) (cond (decide ((f2.length:Int)≥60)) ((ji (6,())).bind fun y5=>some (y5.1,y5.2.1,y5.2.2.1,y5.2.2.2.1,y5.2.2.2.2.1,())) ((pq (f0,f1,f2,())).bind fun y6=>lo0 false 0 f0 f1 f2 e0 e1 e2 e3 e4 0 0 0 y6.1 y6.2.1 ([]:List U7)))) (cond (decide ((f2.length:Int)≥60)) ((ji (6,())).bind fun y7=>some (y7.1,y7.2.1,y7.2.2.1,y7.2.2.2.1,y7.2.2.2.2.1,())) ((pq (f0,f1,f2,())).bind fun y8=>lo0 false 0 f0 f1 f2 e0 e1 e2 e3 e4 0 0 0 y8.1 y8.2.1 ([]:List U7))))
def K0{R:Type}(k0:Nat)(K:ai R):ai R:=aY 0 (bg (fun env ob=>zrc k0 [1,1,1,1,1,1,1,1] env ob (K)) (K))
def L0:uj R:=fun done i f f3 f4 e e5 e6 e7 e8 t4x t4x2 t4x3 out o4 o5=>iter 0 [2,3,4,5,6,7] [3,4,5,6] (zrc k0 [1,1,1,1,1,1,1,0,1,0,0]) k [(2,.ptr 0 0 0 0),(3,.ptr 1 0 0 0),(4,.ptr 2 0 0 0),(5,.ptr 3 0 0 0),(6,.bool done),(7,.int .i64 i)] [.box [.int .i64 f,.sl aC f3,.sl aC f4],.box [.int .i64 e,.int .i64 e5,.int .i64 e6,.int .i64 e7,.int .i64 e8],.box [.int .i64 t4x,.nils,.nils,.int .i64 t4x2,.int .i64 t4x3],.box [.int .i64 out,.own 4,.own 5],.arr aC o4,.arr aC o5] K
def H0:zf R:=fun done e e5 e6 e7 e8 t4x t4x2 t4x3 out o3 o4=>K (.exit 0) [(3,.ptr 0 0 0 0),(4,.ptr 1 0 0 0),(5,.ptr 2 0 0 0),(6,.bool done)] [.box [.int .i64 e,.int .i64 e5,.int .i64 e6,.int .i64 e7,.int .i64 e8],.box [.int .i64 t4x,.nils,.nils,.int .i64 t4x2,.int .i64 t4x3],.box [.int .i64 out,.own 3,.own 4],.arr aC o3,.arr aC o4]
theorem zs0:L0 k0 (k+1) K=R0 (L0 k0 k K) (H0 K):=by kernel_rfl
def G0{R:Type}(k0:Nat)(hx0:zf R):Nat→uj R
 |0=>fun _ _ _ _ _ _ _ _ _ _ _ _ _ _ _ _=>none
 |k+1=>R0 (G0 k0 hx0 k) hx0
theorem aK:∀ k,L0 k0 k K=G0 k0 (H0 K) k:=bG rfl fun k ih=>by rw[zs0,G0];(try simp only[ih]);try rfl
variable (f0:Int) (f1 f2:List U7) (e0 e1 e2 e3 e4:Int)
def aA:ai (U2):=bW Tryz.prog [.cell 4 73] KP JV (f0,f1,f2,e0,e1,e2,e3,e4,())
theorem aS:H0 (K0 k0 (aA f0 f1 f2 e0 e1 e2 e3 e4))=A0 f0 f1 f2 e0 e1 e2 e3 e4:=by kernel_rfl
def FF:Option (U2):=T (G0 k0 (A0 f0 f1 f2 e0 e1 e2 e3 e4) k0) f0 f1 f2 e0 e1 e2 e3 e4
theorem aQ:bZ Tryz.prog (aP dD) ay k0 72 KP JV [] (f0,f1,f2,e0,e1,e2,e3,e4,())=FF k0 f0 f1 f2 e0 e1 e2 e3 e4:=Eq.trans (b:=T (L0 k0 k0 (K0 k0 (aA f0 f1 f2 e0 e1 e2 e3 e4))) f0 f1 f2 e0 e1 e2 e3 e4) (by kernel_rfl) (by rw[FF];(try simp only[aK,aS]);try rfl)
def _root_.Go.Rv.DT:=fun x:Int×(List U7)×(List U7)×U5=>FF (300+x.2.1.length+x.2.2.1.length) x.1 x.2.1 x.2.2.1 x.2.2.2.1 x.2.2.2.2.1 x.2.2.2.2.2.1 x.2.2.2.2.2.2.1 x.2.2.2.2.2.2.2.1
abbrev _root_.Go.Rv.acP:aG:=⟨KP,JV,DT,[]⟩
theorem _root_.Go.Rv.abV:aF Dr Tryz.prog 72 acP:=dh mix (.c CZ (.c wM (.c Di (.c zQ .nil)))) (by kernel_rfl) fun x=>⟨ay,_,aQ _ _ _ _ _ _ _ _ _⟩
end kF
abbrev J8:Is:=[.v true eH,.v true dJ]
abbrev Ju:Os:=[(true,BN)]
namespace iQ
def dD:Tb:=[(64,[],wP),(70,[],Dv),(71,[],DN)]
def ay:Nat→List Nat×List Nat:=fun k=>if k=13 then([2,3,4,5,6,7],[3,4,5,6])else([],[])
def zrc{R:Type}(k0:Nat)(p:List Nat):Env→List Ob→ai R→Option R:=bD Tryz.prog (aP dD) 102 0 ay k0 (bQ p (cZ Tryz.prog 73))
def R0{R:Type}(nx0:uj R)(ex0:zf R)(done:Bool)(i f:Int)(f3 f4:List U7)(e e5 e6 e7 e8 t4x t4x2 t4x3 out:Int)(o4 o5:List U7):Option R:=cond (decide (i<(f3.length:Int))) (cond (!done) (if 0≤i∧i<(f3.length:Int)then cond (decide ((rd (0,0,0,0,()) f3 i).1>e5)) (if o4.length+[(e5,e6,e7,e8,())].length≤maxRow then if 0≤i∧i<(f3.length:Int)then if(o4++[(e5,e6,e7,e8,())]).length+[((rd (0,0,0,0,()) f3 i).1,(rd (0,0,0,0,()) f3 i).2.1,(rd (0,0,0,0,()) f3 i).2.2.1,(rd (0,0,0,0,()) f3 i).2.2.2.1,())].length≤maxRow then nx0 true (af (i+1)) f f3 f4 e e5 e6 e7 e8 t4x t4x2 t4x3 out ((o4++[(e5,e6,e7,e8,())])++[((rd (0,0,0,0,()) f3 i).1,(rd (0,0,0,0,()) f3 i).2.1,(rd (0,0,0,0,()) f3 i).2.2.1,(rd (0,0,0,0,()) f3 i).2.2.2.1,())]) o5 else none else none else none) (if 0≤i∧i<(f3.length:Int)then if o4.length+[((rd (0,0,0,0,()) f3 i).1,(rd (0,0,0,0,()) f3 i).2.1,(rd (0,0,0,0,()) f3 i).2.2.1,(rd (0,0,0,0,()) f3 i).2.2.2.1,())].length≤maxRow then nx0 done (af (i+1)) f f3 f4 e e5 e6 e7 e8 t4x t4x2 t4x3 out (o4++[((rd (0,0,0,0,()) f3 i).1,(rd (0,0,0,0,()) f3 i).2.1,(rd (0,0,0,0,()) f3 i).2.2.1,(rd (0,0,0,0,()) f3 i).2.2.2.1,())]) o5 else none else none)else none) (if 0≤i∧i<(f3.length:Int)then if o4.length+[((rd (0,0,0,0,()) f3 i).1,(rd (0,0,0,0,()) f3 i).2.1,(rd (0,0,0,0,()) f3 i).2.2.1,(rd (0,0,0,0,()) f3 i).2.2.2.1,())].length≤maxRow then nx0 done (af (i+1)) f f3 f4 e e5 e6 e7 e8 t4x t4x2 t4x3 out (o4++[((rd (0,0,0,0,()) f3 i).1,(rd (0,0,0,0,()) f3 i).2.1,(rd (0,0,0,0,()) f3 i).2.2.1,(rd (0,0,0,0,()) f3 i).2.2.2.1,())]) o5 else none else none)) (ex0 done e e5 e6 e7 e8 t4x t4x2 t4x3 out o4 o5)
def A0(f0:Int)(f1 f2:List U7)(e0 e1 e2 e3 e4:Int)(done:Bool)(e e5 e6 e7 e8 t4x t4x2 t4x3 out:Int)(o3 o4:List U7):Option (U2):=cond (!done) (if o3.length+[(e5,e6,e7,e8,())].length≤maxRow then some (out,(o3++[(e5,e6,e7,e8,())]),o4,0,0,())else none) (some (out,o3,o4,0,0,()))
def T(lo0:uj (U2))(f0:Int)(f1 f2:List U7)(e0 e1 e2 e3 e4:Int):Option (U2):=cond (decide (e2≥e1)) ((ji (1,())).bind fun y1=>some (y1.1,y1.2.1,y1.2.2.1,y1.2.2.2.1,y1.2.2.2.2.1,())) ((jG (f0,f1,f2,e1,())).bind fun y2=>cond (decide (y2.1≥0)) ((ji (5,())).bind fun y3=>some (y3.1,y3.2.1,y3.2.2.1,y3.2.2.2.1,y3.2.2.2.2.1,())) (cond (e2 != 0) ((jG (f0,f1,f2,e2,())).bind fun y4=>cond (decide (y4.1<0)) ((ji (4,())).bind fun y5=>some (y5.1,y5.2.1,y5.2.2.1,y5.2.2.2.1,y5.2.2.2.2.1,())) (cond (decide ((f1.length:Int)≥30)) ((ji (6,())).bind fun y6=>some (y6.1,y6.2.1,y6.2.2.1,y6.2.2.2.1,y6.2.2.2.2.1,())) ((pq (f0,f1,f2,())).bind fun y7=>lo0 false 0 f0 f1 f2 e0 e1 e2 e3 e4 0 0 0 y7.1 ([]:List U7) y7.2.2.1))) (cond (decide ((f1.length:Int)≥30)) ((ji (6,())).bind fun y8=>some (y8.1,y8.2.1,y8.2.2.1,y8.2.2.2.1,y8.2.2.2.2.1,())) ((pq (f0,f1,f2,())).bind fun y9=>lo0 false 0 f0 f1 f2 e0 e1 e2 e3 e4 0 0 0 y9.1 ([]:List U7) y9.2.2.1))))
def K0{R:Type}(k0:Nat)(K:ai R):ai R:=aY 0 (bg (fun env ob=>zrc k0 [1,1,1,1,1,1,1,1,1] env ob (K)) (K))
def L0:uj R:=fun done i f f3 f4 e e5 e6 e7 e8 t4x t4x2 t4x3 out o4 o5=>iter 0 [2,3,4,5,6,7] [3,4,5,6] (zrc k0 [1,1,1,1,1,1,1,1,0,1,0,0]) k [(2,.ptr 0 0 0 0),(3,.ptr 1 0 0 0),(4,.ptr 2 0 0 0),(5,.ptr 3 0 0 0),(6,.bool done),(7,.int .i64 i)] [.box [.int .i64 f,.sl aC f3,.sl aC f4],.box [.int .i64 e,.int .i64 e5,.int .i64 e6,.int .i64 e7,.int .i64 e8],.box [.int .i64 t4x,.nils,.nils,.int .i64 t4x2,.int .i64 t4x3],.box [.int .i64 out,.own 4,.own 5],.arr aC o4,.arr aC o5] K
def H0:zf R:=fun done e e5 e6 e7 e8 t4x t4x2 t4x3 out o3 o4=>K (.exit 0) [(3,.ptr 0 0 0 0),(4,.ptr 1 0 0 0),(5,.ptr 2 0 0 0),(6,.bool done)] [.box [.int .i64 e,.int .i64 e5,.int .i64 e6,.int .i64 e7,.int .i64 e8],.box [.int .i64 t4x,.nils,.nils,.int .i64 t4x2,.int .i64 t4x3],.box [.int .i64 out,.own 3,.own 4],.arr aC o3,.arr aC o4]
theorem zs0:L0 k0 (k+1) K=R0 (L0 k0 k K) (H0 K):=by kernel_rfl
def G0{R:Type}(k0:Nat)(hx0:zf R):Nat→uj R
 |0=>fun _ _ _ _ _ _ _ _ _ _ _ _ _ _ _ _=>none
 |k+1=>R0 (G0 k0 hx0 k) hx0
theorem aK:∀ k,L0 k0 k K=G0 k0 (H0 K) k:=bG rfl fun k ih=>by rw[zs0,G0];(try simp only[ih]);try rfl
variable (f0:Int) (f1 f2:List U7) (e0 e1 e2 e3 e4:Int)
def aA:ai (U2):=bW Tryz.prog [.cell 4 73] J8 Ju (f0,f1,f2,e0,e1,e2,e3,e4,())
theorem aS:H0 (K0 k0 (aA f0 f1 f2 e0 e1 e2 e3 e4))=A0 f0 f1 f2 e0 e1 e2 e3 e4:=by kernel_rfl
def FF:Option (U2):=T (G0 k0 (A0 f0 f1 f2 e0 e1 e2 e3 e4) k0) f0 f1 f2 e0 e1 e2 e3 e4
theorem aQ:bZ Tryz.prog (aP dD) ay k0 73 J8 Ju [] (f0,f1,f2,e0,e1,e2,e3,e4,())=FF k0 f0 f1 f2 e0 e1 e2 e3 e4:=Eq.trans (b:=T (L0 k0 k0 (K0 k0 (aA f0 f1 f2 e0 e1 e2 e3 e4))) f0 f1 f2 e0 e1 e2 e3 e4) (by kernel_rfl) (by rw[FF];(try simp only[aK,aS]);try rfl)
def _root_.Go.Rv.uJ:=fun x:Int×(List U7)×(List U7)×U5=>FF (300+x.2.1.length+x.2.2.1.length) x.1 x.2.1 x.2.2.1 x.2.2.2.1 x.2.2.2.2.1 x.2.2.2.2.2.1 x.2.2.2.2.2.2.1 x.2.2.2.2.2.2.2.1
abbrev _root_.Go.Rv.aci:aG:=⟨J8,Ju,uJ,[]⟩
theorem _root_.Go.Rv.abq:aF Dr Tryz.prog 73 aci:=dh mix (.c wM (.c Di (.c zQ .nil))) (by kernel_rfl) fun x=>⟨ay,_,aQ _ _ _ _ _ _ _ _ _⟩
end iQ
abbrev KQ:Is:=[.v true eH,.v true dJ]
abbrev JW:Os:=[(true,BN)]
namespace iT
def dD:Tb:=[(64,[],wP),(70,[],Dv),(71,[],DN)]
def ay:Nat→List Nat×List Nat:=fun k=>if k=5 then([2,3,4,5,6],[2,3,4,5])else if k=10 then([2,3,4,5,7],[2,4,5])else([],[])
def zrc{R:Type}(k0:Nat)(p:List Nat):Env→List Ob→ai R→Option R:=bD Tryz.prog (aP dD) 67 0 ay k0 (bQ p (cZ Tryz.prog 74))
def R0{R:Type}(nx0:ug R)(ex0:QN R)(ex1:QM R)(atx i f:Int)(f3 f4:List U7)(e e5 e6 e7 e8 t4x t4x2 t4x3:Int):Option R:=cond (decide (i<(f3.length:Int))) (if 0≤i∧i<(f3.length:Int)then cond ((rd (0,0,0,0,()) f3 i).2.1==e5) ((ji (9,())).bind fun y1=>ex0 atx f f3 f4 e e5 e6 e7 e8 y1.1 y1.2.2.2.1 y1.2.2.2.2.1 y1.2.1 y1.2.2.1) (nx0 atx (af (i+1)) f f3 f4 e e5 e6 e7 e8 t4x t4x2 t4x3)else none) (ex1 atx f f3 f4 e e5 e6 e7 e8 t4x t4x2 t4x3)
def R1{R:Type}(nx1:ug R)(ex2:QL R)(ex3:QK R)(atx i f:Int)(f3 f4:List U7)(e e5 e6 e7 e8 t4x t4x2 t4x3:Int):Option R:=cond (decide (i<(f4.length:Int))) (if 0≤i∧i<(f4.length:Int)then cond ((rd (0,0,0,0,()) f4 i).2.1==e5) ((ji (9,())).bind fun y1=>ex2 atx f f3 f4 y1.1 y1.2.2.2.1 y1.2.2.2.2.1 y1.2.1 y1.2.2.1) (nx1 atx (af (i+1)) f f3 f4 e e5 e6 e7 e8 t4x t4x2 t4x3)else none) (ex3 atx f f3 f4 t4x t4x2 t4x3)
def A0(f0:Int)(f1 f2:List U7)(e0 e1 e2 e3 e4:Int)(atx f:Int)(f3 f4:List U7)(e e5 e6 e7 e8 t4x t4x2 t4x3:Int)(o3 o4:List U7):Option (U2):=some (t4x,o3,o4,t4x2,t4x3,())
def A1(lo1:ug (U2))(f0:Int)(f1 f2:List U7)(e0 e1 e2 e3 e4:Int)(atx f:Int)(f3 f4:List U7)(e e5 e6 e7 e8 t4x t4x2 t4x3:Int):Option (U2):=lo1 atx 0 f f3 f4 e e5 e6 e7 e8 t4x t4x2 t4x3
def A2(f0:Int)(f1 f2:List U7)(e0 e1 e2 e3 e4:Int)(atx f:Int)(f3 f4:List U7)(t4x t4x2 t4x3:Int)(o2 o3:List U7):Option (U2):=some (t4x,o2,o3,t4x2,t4x3,())
def A3(f0:Int)(f1 f2:List U7)(e0 e1 e2 e3 e4:Int)(atx f:Int)(f3 f4:List U7)(t4x t4x2 t4x3:Int):Option (U2):=(pq (f,f3,f4,())).bind fun y1=>if 0≤atx∧atx≤(f3.length:Int)then if([]:List U7).length+(f3.take (atx.toNat)).length≤maxRow then if 0≤(af (atx+1))∧(af (atx+1))≤(f3.length:Int)then if(([]:List U7)++(f3.take (atx.toNat))).length+(f3.drop ((af (atx+1)).toNat)).length≤maxRow then some (y1.1,((([]:List U7)++(f3.take (atx.toNat)))++(f3.drop ((af (atx+1)).toNat))),y1.2.2.1,0,0,())else none else none else none else none
def T(lo0:ug (U2))(f0:Int)(f1 f2:List U7)(e0 e1 e2 e3 e4:Int):Option (U2):=(jG (f0,f1,f2,e1,())).bind fun y1=>cond (decide (y1.1<0)) ((ji (4,())).bind fun y2=>some (y2.1,y2.2.1,y2.2.2.1,y2.2.2.2.1,y2.2.2.2.2.1,())) (lo0 y1.1 0 f0 f1 f2 e0 e1 e2 e3 e4 0 0 0)
def K0{R:Type}(k0:Nat)(K:ai R):ai R:=aY 0 (bg (fun env ob=>zrc k0 [1,1,1,1] env ob (K)) (K))
def K1{R:Type}(k0:Nat)(K:ai R):ai R:=aY 2 (bg (fun env ob=>zrc k0 [1,1,1,1,1] env ob (K)) (K))
def L0:ug R:=fun atx i f f3 f4 e e5 e6 e7 e8 t4x t4x2 t4x3=>iter 0 [2,3,4,5,6] [2,3,4,5] (zrc k0 [1,1,1,0,1,0,0]) k [(2,.ptr 0 0 0 0),(3,.ptr 1 0 0 0),(4,.ptr 2 0 0 0),(5,.int .i64 atx),(6,.int .i64 i)] [.box [.int .i64 f,.sl aC f3,.sl aC f4],.box [.int .i64 e,.int .i64 e5,.int .i64 e6,.int .i64 e7,.int .i64 e8],.box [.int .i64 t4x,.nils,.nils,.int .i64 t4x2,.int .i64 t4x3]] K
def L1:ug R:=fun atx i f f3 f4 e e5 e6 e7 e8 t4x t4x2 t4x3=>iter 0 [2,3,4,5,7] [2,4,5] (zrc k0 [1,1,1,1,0,1,0,0]) k [(2,.ptr 0 0 0 0),(3,.ptr 1 0 0 0),(4,.ptr 2 0 0 0),(5,.int .i64 atx),(7,.int .i64 i)] [.box [.int .i64 f,.sl aC f3,.sl aC f4],.box [.int .i64 e,.int .i64 e5,.int .i64 e6,.int .i64 e7,.int .i64 e8],.box [.int .i64 t4x,.nils,.nils,.int .i64 t4x2,.int .i64 t4x3]] K
def H0:QN R:=fun atx f f3 f4 e e5 e6 e7 e8 t4x t4x2 t4x3 o3 o4=>K .ret [(2,.ptr 0 0 0 0),(3,.ptr 1 0 0 0),(4,.ptr 2 0 0 0),(5,.int .i64 atx)] [.box [.int .i64 f,.sl aC f3,.sl aC f4],.box [.int .i64 e,.int .i64 e5,.int .i64 e6,.int .i64 e7,.int .i64 e8],.box [.int .i64 t4x,.own 3,.own 4,.int .i64 t4x2,.int .i64 t4x3],.arr aC o3,.arr aC o4]
def H1:QM R:=fun atx f f3 f4 e e5 e6 e7 e8 t4x t4x2 t4x3=>K (.exit 0) [(2,.ptr 0 0 0 0),(3,.ptr 1 0 0 0),(4,.ptr 2 0 0 0),(5,.int .i64 atx)] [.box [.int .i64 f,.sl aC f3,.sl aC f4],.box [.int .i64 e,.int .i64 e5,.int .i64 e6,.int .i64 e7,.int .i64 e8],.box [.int .i64 t4x,.nils,.nils,.int .i64 t4x2,.int .i64 t4x3]]
def H2:QL R:=fun atx f f3 f4 t4x t4x2 t4x3 o2 o3=>K .ret [(2,.ptr 0 0 0 0),(4,.ptr 1 0 0 0),(5,.int .i64 atx)] [.box [.int .i64 f,.sl aC f3,.sl aC f4],.box [.int .i64 t4x,.own 2,.own 3,.int .i64 t4x2,.int .i64 t4x3],.arr aC o2,.arr aC o3]
def H3:QK R:=fun atx f f3 f4 t4x t4x2 t4x3=>K (.exit 2) [(2,.ptr 0 0 0 0),(4,.ptr 1 0 0 0),(5,.int .i64 atx)] [.box [.int .i64 f,.sl aC f3,.sl aC f4],.box [.int .i64 t4x,.nils,.nils,.int .i64 t4x2,.int .i64 t4x3]]
theorem zs0:L0 k0 (k+1) K=R0 (L0 k0 k K) (H0 K) (H1 K):=by kernel_rfl
theorem zs1:L1 k0 (k+1) K=R1 (L1 k0 k K) (H2 K) (H3 K):=by kernel_rfl
def G0{R:Type}(k0:Nat)(hx0:QN R)(hx1:QM R):Nat→ug R
 |0=>fun _ _ _ _ _ _ _ _ _ _ _ _ _=>none
 |k+1=>R0 (G0 k0 hx0 hx1 k) hx0 hx1
theorem aK:∀ k,L0 k0 k K=G0 k0 (H0 K) (H1 K) k:=bG rfl fun k ih=>by rw[zs0,G0];(try simp only[ih]);try rfl
def G1{R:Type}(k0:Nat)(hx2:QL R)(hx3:QK R):Nat→ug R
 |0=>fun _ _ _ _ _ _ _ _ _ _ _ _ _=>none
 |k+1=>R1 (G1 k0 hx2 hx3 k) hx2 hx3
theorem dO:∀ k,L1 k0 k K=G1 k0 (H2 K) (H3 K) k:=bG rfl fun k ih=>by rw[zs1,G1];(try simp only[ih,aK]);try rfl
variable (f0:Int) (f1 f2:List U7) (e0 e1 e2 e3 e4:Int)
def aA:ai (U2):=bW Tryz.prog [.cell 4 73] KQ JW (f0,f1,f2,e0,e1,e2,e3,e4,())
theorem aS:H0 (K0 k0 (aA f0 f1 f2 e0 e1 e2 e3 e4))=A0 f0 f1 f2 e0 e1 e2 e3 e4:=by kernel_rfl
theorem bU:H1 (K0 k0 (aA f0 f1 f2 e0 e1 e2 e3 e4))=A1 (L1 k0 k0 (K1 k0 (aA f0 f1 f2 e0 e1 e2 e3 e4))) f0 f1 f2 e0 e1 e2 e3 e4:=by kernel_rfl
theorem mr:H2 (K1 k0 (aA f0 f1 f2 e0 e1 e2 e3 e4))=A2 f0 f1 f2 e0 e1 e2 e3 e4:=by kernel_rfl
theorem rq:H3 (K1 k0 (aA f0 f1 f2 e0 e1 e2 e3 e4))=A3 f0 f1 f2 e0 e1 e2 e3 e4:=by kernel_rfl
def FF:Option (U2):=T (G0 k0 (A0 f0 f1 f2 e0 e1 e2 e3 e4) (A1 (G1 k0 (A2 f0 f1 f2 e0 e1 e2 e3 e4) (A3 f0 f1 f2 e0 e1 e2 e3 e4) k0) f0 f1 f2 e0 e1 e2 e3 e4) k0) f0 f1 f2 e0 e1 e2 e3 e4
theorem aQ:bZ Tryz.prog (aP dD) ay k0 74 KQ JW [] (f0,f1,f2,e0,e1,e2,e3,e4,())=FF k0 f0 f1 f2 e0 e1 e2 e3 e4:=Eq.trans (b:=T (L0 k0 k0 (K0 k0 (aA f0 f1 f2 e0 e1 e2 e3 e4))) f0 f1 f2 e0 e1 e2 e3 e4) (by kernel_rfl) (by rw[FF];(try simp only[aK,dO,aS,bU,mr,rq]);try rfl)
def _root_.Go.Rv.wU:=fun x:Int×(List U7)×(List U7)×U5=>FF (300+x.2.1.length+x.2.2.1.length) x.1 x.2.1 x.2.2.1 x.2.2.2.1 x.2.2.2.2.1 x.2.2.2.2.2.1 x.2.2.2.2.2.2.1 x.2.2.2.2.2.2.2.1
abbrev _root_.Go.Rv.acQ:aG:=⟨KQ,JW,wU,[]⟩
theorem _root_.Go.Rv.abW:aF Dr Tryz.prog 74 acQ:=dh mix (.c wM (.c Di (.c zQ .nil))) (by kernel_rfl) fun x=>⟨ay,_,aQ _ _ _ _ _ _ _ _ _⟩
end iT
def wY.T(f0:Int)(f1 f2:List U7)(e0 e1 e2 e3 e4:Int):Option (U2):=(zI (f0,f1,f2,())).bind fun y1=>cond (!y1.1) ((ji (1,())).bind fun y2=>some (y2.1,y2.2.1,y2.2.2.1,y2.2.2.2.1,y2.2.2.2.2.1,())) ((jF (e0,e1,e2,e3,e4,())).bind fun y3=>cond (!y3.1) ((ji (1,())).bind fun y4=>some (y4.1,y4.2.1,y4.2.2.1,y4.2.2.2.1,y4.2.2.2.2.1,())) ((pq (f0,f1,f2,())).bind fun y5=>cond (e0==1) ((DT (f0,f1,f2,e0,e1,e2,e3,e4,())).bind fun y6=>some (y6.1,y6.2.1,y6.2.2.1,y6.2.2.2.1,y6.2.2.2.2.1,())) (cond (e0==6) ((uJ (f0,f1,f2,e0,e1,e2,e3,e4,())).bind fun y7=>some (y7.1,y7.2.1,y7.2.2.1,y7.2.2.2.1,y7.2.2.2.2.1,())) (cond (e0==7) ((wU (f0,f1,f2,e0,e1,e2,e3,e4,())).bind fun y8=>some (y8.1,y8.2.1,y8.2.2.1,y8.2.2.2.1,y8.2.2.2.2.1,())) (cond (e0==8) (cond (e1==0) (some (e3,y5.2.1,y5.2.2.1,0,0,())) ((jG (f0,f1,f2,e1,())).bind fun y9=>cond (decide (y9.1<0)) ((ji (4,())).bind fun y10=>some (y10.1,y10.2.1,y10.2.2.1,y10.2.2.2.1,y10.2.2.2.2.1,())) (if 0≤y9.1∧y9.1<(y5.2.1.length:Int)then some (y5.1,(y5.2.1.set ((y9.1).toNat) ((y5.2.1.getD ((y9.1).toNat) (0,0,0,0,())).1,(y5.2.1.getD ((y9.1).toNat) (0,0,0,0,())).2.1,e3,(y5.2.1.getD ((y9.1).toNat) (0,0,0,0,())).2.2.2.1,())),y5.2.2.1,0,0,())else none))) ((qy (f0,f1,f2,e1,())).bind fun y11=>cond (decide (y11.1<0)) ((ji (4,())).bind fun y12=>some (y12.1,y12.2.1,y12.2.2.1,y12.2.2.2.1,y12.2.2.2.2.1,())) (cond (e2 != 0) ((jG (f0,f1,f2,e2,())).bind fun y13=>cond (decide (y13.1<0)) ((ji (4,())).bind fun y14=>some (y14.1,y14.2.1,y14.2.2.1,y14.2.2.2.1,y14.2.2.2.2.1,())) (cond (e0==2) (if 0≤y11.1∧y11.1≤(f2.length:Int)then if([]:List U7).length+(f2.take (y11.1.toNat)).length≤maxRow then if 0≤(af (y11.1+1))∧(af (y11.1+1))≤(f2.length:Int)then if(([]:List U7)++(f2.take (y11.1.toNat))).length+(f2.drop ((af (y11.1+1)).toNat)).length≤maxRow then some (y5.1,y5.2.1,((([]:List U7)++(f2.take (y11.1.toNat)))++(f2.drop ((af (y11.1+1)).toNat))),0,0,())else none else none else none else none) (cond (e0==3) (if 0≤y11.1∧y11.1<(y5.2.2.1.length:Int)then some (y5.1,y5.2.1,(y5.2.2.1.set ((y11.1).toNat) ((y5.2.2.1.getD ((y11.1).toNat) (0,0,0,0,())).1,(y5.2.2.1.getD ((y11.1).toNat) (0,0,0,0,())).2.1,e3,(y5.2.2.1.getD ((y11.1).toNat) (0,0,0,0,())).2.2.2.1,())),0,0,())else none) (cond (e0==4) (if 0≤y11.1∧y11.1<(y5.2.2.1.length:Int)then some (y5.1,y5.2.1,(y5.2.2.1.set ((y11.1).toNat) ((y5.2.2.1.getD ((y11.1).toNat) (0,0,0,0,())).1,(y5.2.2.1.getD ((y11.1).toNat) (0,0,0,0,())).2.1,(y5.2.2.1.getD ((y11.1).toNat) (0,0,0,0,())).2.2.1,e3,())),0,0,())else none) (if 0≤y11.1∧y11.1<(y5.2.2.1.length:Int)then some (y5.1,y5.2.1,(y5.2.2.1.set ((y11.1).toNat) ((y5.2.2.1.getD ((y11.1).toNat) (0,0,0,0,())).1,e2,(y5.2.2.1.getD ((y11.1).toNat) (0,0,0,0,())).2.2.1,(y5.2.2.1.getD ((y11.1).toNat) (0,0,0,0,())).2.2.2.1,())),0,0,())else none))))) (cond (e0==2) (if 0≤y11.1∧y11.1≤(f2.length:Int)then if([]:List U7).length+(f2.take (y11.1.toNat)).length≤maxRow then if 0≤(af (y11.1+1))∧(af (y11.1+1))≤(f2.length:Int)then if(([]:List U7)++(f2.take (y11.1.toNat))).length+(f2.drop ((af (y11.1+1)).toNat)).length≤maxRow then some (y5.1,y5.2.1,((([]:List U7)++(f2.take (y11.1.toNat)))++(f2.drop ((af (y11.1+1)).toNat))),0,0,())else none else none else none else none) (cond (e0==3) (if 0≤y11.1∧y11.1<(y5.2.2.1.length:Int)then some (y5.1,y5.2.1,(y5.2.2.1.set ((y11.1).toNat) ((y5.2.2.1.getD ((y11.1).toNat) (0,0,0,0,())).1,(y5.2.2.1.getD ((y11.1).toNat) (0,0,0,0,())).2.1,e3,(y5.2.2.1.getD ((y11.1).toNat) (0,0,0,0,())).2.2.2.1,())),0,0,())else none) (cond (e0==4) (if 0≤y11.1∧y11.1<(y5.2.2.1.length:Int)then some (y5.1,y5.2.1,(y5.2.2.1.set ((y11.1).toNat) ((y5.2.2.1.getD ((y11.1).toNat) (0,0,0,0,())).1,(y5.2.2.1.getD ((y11.1).toNat) (0,0,0,0,())).2.1,(y5.2.2.1.getD ((y11.1).toNat) (0,0,0,0,())).2.2.1,e3,())),0,0,())else none) (if 0≤y11.1∧y11.1<(y5.2.2.1.length:Int)then some (y5.1,y5.2.1,(y5.2.2.1.set ((y11.1).toNat) ((y5.2.2.1.getD ((y11.1).toNat) (0,0,0,0,())).1,e2,(y5.2.2.1.getD ((y11.1).toNat) (0,0,0,0,())).2.2.1,(y5.2.2.1.getD ((y11.1).toNat) (0,0,0,0,())).2.2.2.1,())),0,0,())else none)))))))))))
def jT:=fun x:Int×(List U7)×(List U7)×U5=>wY.T x.1 x.2.1 x.2.2.1 x.2.2.2.1 x.2.2.2.2.1 x.2.2.2.2.2.1 x.2.2.2.2.2.2.1 x.2.2.2.2.2.2.2.1
abbrev LX:aG:=⟨[.v true eH,.v true dJ],[(true,BN)],jT,[]⟩
theorem RZ:aF Dr Tryz.prog 36 LX:=aW mix (.c CZ (.c J7 (.c RI (.c wM (.c Di (.c zQ (.c abV (.c abq (.c abW .nil))))))))) (by kernel_rfl) fun x=>by kernel_rfl
def Nu.T(a b:Int):Option (Int×Unit):=cond (decide (a<b)) (some (a,())) (some (b,()))
def uS:=fun x:U9=>Nu.T x.1 x.2.1
abbrev D8:aG:=⟨[.v false [CT.int .i64],.v false [CT.int .i64]],[(false,[CT.int .i64])],uS,[]⟩
theorem Tq:aF Dr Tryz.prog 66 D8:=aW mix .nil (by kernel_rfl) fun x=>by kernel_rfl
abbrev J9:Is:=[.v true eH]
abbrev Jv:Os:=[(false,[CT.sl [CT.int .i64]])]
namespace gG
def ay:Nat→List Nat×List Nat:=fun k=>if k=3 then([1,3,4],[3])else if k=7 then([1,3,4,5,6],[1,3,4,5])else if k=12 then([1,3,4,5,7],[1,3,4,5])else([],[])
def zrc{R:Type}(k0:Nat)(p:List Nat):Env→List Ob→ai R→Option R:=bD Tryz.prog (aP [(66,[],D8)]) 88 0 ay k0 (bQ p (cZ Tryz.prog 148))
def R0{R:Type}(ex0:yZ R)(lo1:uf R)(i f:Int)(f3 f4:List U7)(out:List (Int×Unit)):Option R:=cond (decide (i≥0)) (lo1 i 0 (af (i+1)) f f3 f4 out) (ex0 out)
def R1{R:Type}(nx1:uf R)(ex1:yY R)(i sum kx f:Int)(f3 f4:List U7)(out:List (Int×Unit)):Option R:=cond (decide (kx<(f3.length:Int))) (if 0≤kx∧kx<(f3.length:Int)then if 0≤i∧i<(f3.length:Int)then cond ((rd (0,0,0,0,()) f3 kx).2.1==(rd (0,0,0,0,()) f3 i).1) (if 0≤kx∧kx<(out.length:Int)then nx1 i (af (sum+(out.getD kx.toNat (0,())).1)) (af (kx+1)) f f3 f4 out else none) (nx1 i sum (af (kx+1)) f f3 f4 out)else none else none) (ex1 i sum f f3 f4 out)
def R2{R:Type}(nx2:uf R)(ex2:yY R)(i sum kx f:Int)(f3 f4:List U7)(out:List (Int×Unit)):Option R:=cond (decide (kx<(f4.length:Int))) (if 0≤kx∧kx<(f4.length:Int)then if 0≤i∧i<(f3.length:Int)then cond ((rd (0,0,0,0,()) f4 kx).2.1==(rd (0,0,0,0,()) f3 i).1) (if 0≤kx∧kx<(f4.length:Int)then nx2 i (af (sum+(rd (0,0,0,0,()) f4 kx).2.2.1)) (af (kx+1)) f f3 f4 out else none) (nx2 i sum (af (kx+1)) f f3 f4 out)else none else none) (ex2 i sum f f3 f4 out)
def A0(f0:Int)(f1 f2:List U7)(out:List (Int×Unit)):Option ((List (Int×Unit))×Unit):=some (out,())
def A1{R:Type}(lo2:uf R)(i sum f:Int)(f3 f4:List U7)(out:List (Int×Unit)):Option R:=lo2 i sum 0 f f3 f4 out
def A2{R:Type}(nx0:Gz R)(i sum f:Int)(f3 f4:List U7)(out:List (Int×Unit)):Option R:=if 0≤i∧i<(f3.length:Int)then(uS (sum,(rd (0,0,0,0,()) f3 i).2.2.1,())).bind fun y1=>if 0≤i∧i<(out.length:Int)then nx0 (af (i - 1)) f f3 f4 (out.set i.toNat (y1.1,()))else none else none
def T(lo0:Gz ((List (Int×Unit))×Unit))(f0:Int)(f1 f2:List U7):Option ((List (Int×Unit))×Unit):=if 0≤(f1.length:Int)∧(8:Int)*(f1.length:Int)≤281474976710656∧(f1.length:Int)≤9223372036854775807 then lo0 (af ((f1.length:Int) - 1)) f0 f1 f2 (List.replicate (((f1.length:Int):Int)).toNat (0,()))else none
def K0{R:Type}(k0:Nat)(K:ai R):ai R:=aY 0 (bg (fun env ob=>zrc k0 [1,1,1] env ob (K)) (K))
def K1{R:Type}(k0:Nat)(K:ai R):ai R:=aY 2 (bg (fun env ob=>zrc k0 [1,1,0,1,0,0,1,0,0,1,1] env ob (aY 1 (bg (fun env ob=>zrc k0 [1,1,0,1,0,0,1,1] env ob (K)) (K)))) (aY 1 (bg (fun env ob=>zrc k0 [1,1,0,1,0,0,1,1] env ob (K)) (K))))
def K2{R:Type}(k0:Nat)(K:ai R):ai R:=aY 4 (bg (fun env ob=>zrc k0 [1,1,0,1,0,0,1,0,0,1,1,1] env ob (aY 1 (bg (fun env ob=>zrc k0 [1,1,0,1,0,0,1,1] env ob (K)) (K)))) (aY 1 (bg (fun env ob=>zrc k0 [1,1,0,1,0,0,1,1] env ob (K)) (K))))
def P0:ai R:=vP 0 [1,3,4] [3] (fun env ob=>iter 0 [1,3,4] [3] (zrc k0 [1,1,0,1,0,0]) k env ob K) K
def L0:Gz R:=fun i f f3 f4 out=>iter 0 [1,3,4] [3] (zrc k0 [1,1,0,1,0,0]) k [(1,.ptr 0 0 0 0),(3,.own 1),(4,.int .i64 i)] [.box [.int .i64 f,.sl aC f3,.sl aC f4],.arr [CT.int .i64] out] K
def L1:uf R:=fun i sum kx f f3 f4 out=>iter 0 [1,3,4,5,6] [1,3,4,5] (zrc k0 [1,1,0,1,0,0,1,0,0,1,0,1,0,0]) k [(1,.ptr 0 0 0 0),(3,.own 1),(4,.int .i64 i),(5,.int .i64 sum),(6,.int .i64 kx)] [.box [.int .i64 f,.sl aC f3,.sl aC f4],.arr [CT.int .i64] out] K
def L2:uf R:=fun i sum kx f f3 f4 out=>iter 0 [1,3,4,5,7] [1,3,4,5] (zrc k0 [1,1,0,1,0,0,1,0,0,1,1,0,1,0,0]) k [(1,.ptr 0 0 0 0),(3,.own 1),(4,.int .i64 i),(5,.int .i64 sum),(7,.int .i64 kx)] [.box [.int .i64 f,.sl aC f3,.sl aC f4],.arr [CT.int .i64] out] K
def H0:yZ R:=fun out=>K (.exit 0) [(3,.own 0)] [.arr [CT.int .i64] out]
def H1:yY R:=fun i sum f f3 f4 out=>K (.exit 2) [(1,.ptr 0 0 0 0),(3,.own 1),(4,.int .i64 i),(5,.int .i64 sum)] [.box [.int .i64 f,.sl aC f3,.sl aC f4],.arr [CT.int .i64] out]
def H2:yY R:=fun i sum f f3 f4 out=>K (.exit 4) [(1,.ptr 0 0 0 0),(3,.own 1),(4,.int .i64 i),(5,.int .i64 sum)] [.box [.int .i64 f,.sl aC f3,.sl aC f4],.arr [CT.int .i64] out]
theorem zs0:L0 k0 (k+1) K=R0 (H0 K) (L1 k0 k0 (K1 k0 (P0 k0 k K))):=by kernel_rfl
theorem zs1:L1 k0 (k+1) K=R1 (L1 k0 k K) (H1 K):=by kernel_rfl
theorem zs2:L2 k0 (k+1) K=R2 (L2 k0 k K) (H2 K):=by kernel_rfl
theorem bU:H1 (K1 k0 (P0 k0 k K))=A1 (L2 k0 k0 (K2 k0 (P0 k0 k K))):=by kernel_rfl
theorem mr:H2 (K2 k0 (P0 k0 k K))=A2 (L0 k0 k K):=by kernel_rfl
def G1{R:Type}(k0:Nat)(hx1:yY R):Nat→uf R
 |0=>fun _ _ _ _ _ _ _=>none
 |k+1=>R1 (G1 k0 hx1 k) hx1
theorem dO:∀ k,L1 k0 k K=G1 k0 (H1 K) k:=bG rfl fun k ih=>by rw[zs1,G1];(try simp only[ih]);try rfl
def G2{R:Type}(k0:Nat)(hx2:yY R):Nat→uf R
 |0=>fun _ _ _ _ _ _ _=>none
 |k+1=>R2 (G2 k0 hx2 k) hx2
theorem kV:∀ k,L2 k0 k K=G2 k0 (H2 K) k:=bG rfl fun k ih=>by rw[zs2,G2];(try simp only[ih,dO]);try rfl
def G0{R:Type}(k0:Nat)(hx0:yZ R):Nat→Gz R
 |0=>fun _ _ _ _ _=>none
 |k+1=>R0 hx0 (G1 k0 (A1 (G2 k0 (A2 (G0 k0 hx0 k)) k0)) k0)
theorem aK:∀ k,L0 k0 k K=G0 k0 (H0 K) k:=bG rfl fun k ih=>by rw[zs0,G0];(try simp only[ih,dO,kV,bU,mr]);try rfl
variable (f0:Int) (f1 f2:List U7)
def aA:ai ((List (Int×Unit))×Unit):=bW Tryz.prog [.tmp 2] J9 Jv (f0,f1,f2,())
theorem aS:H0 (K0 k0 (aA f0 f1 f2))=A0 f0 f1 f2:=by kernel_rfl
def FF:Option ((List (Int×Unit))×Unit):=T (G0 k0 (A0 f0 f1 f2) k0) f0 f1 f2
theorem aQ:bZ Tryz.prog (aP [(66,[],D8)]) ay k0 148 J9 Jv [] (f0,f1,f2,())=FF k0 f0 f1 f2:=Eq.trans (b:=T (L0 k0 k0 (K0 k0 (aA f0 f1 f2))) f0 f1 f2) (by kernel_rfl) (by rw[FF];(try simp only[dO,kV,aK,aS]);try rfl)
def _root_.Go.Rv.Dw:=fun x:U3=>FF (300+x.2.1.length+x.2.2.1.length) x.1 x.2.1 x.2.2.1
abbrev _root_.Go.Rv.LV:aG:=⟨J9,Jv,Dw,[]⟩
theorem _root_.Go.Rv.abr:aF Dr Tryz.prog 148 LV:=dh mix (.c Tq .nil) (by kernel_rfl) fun x=>⟨ay,_,aQ _ _ _ _⟩
end gG
abbrev KR:Is:=[.v true eH,.v false [CT.int .i64]]
abbrev JX:Os:=[(false,[CT.sl eG]),(false,[CT.sl ct0])]
namespace iU
def ay:Nat→List Nat×List Nat:=fun k=>if k=5 then([1,2,6,7,8,9],[1,2,7,8])else if k=11 then([1,2,7,8,10],[7,8])else([],[])
def zrc{R:Type}(k0:Nat)(p:List Nat):Env→List Ob→ai R→Option R:=bD Tryz.prog (aP [(148,[],LV)]) 91 0 ay k0 (bQ p (cZ Tryz.prog 130))
def R0{R:Type}(nx0:Gy R)(ex0:QJ R)(group2 i f:Int)(f3 f4:List U7)(wants:List (Int×Unit))(kids:List U9)(items:List U8):Option R:=cond (decide (i<(f3.length:Int))) (if 0≤i∧i<(f3.length:Int)then cond ((rd (0,0,0,0,()) f3 i).2.1==group2) (if kids.length+[(i,(-1),())].length≤maxRow then if 0≤i∧i<(wants.length:Int)then if 0≤i∧i<(f3.length:Int)then if items.length+([(((kids++[(i,(-1),())]).length:Int),(wants.getD i.toNat (0,())).1,(rd (0,0,0,0,()) f3 i).2.2.2.1,())]).length≤maxRow then nx0 group2 (af (i+1)) f f3 f4 wants (kids++[(i,(-1),())]) (items++[(((kids++[(i,(-1),())]).length:Int),(wants.getD i.toNat (0,())).1,(rd (0,0,0,0,()) f3 i).2.2.2.1,())])else none else none else none else none) (nx0 group2 (af (i+1)) f f3 f4 wants kids items)else none) (ex0 group2 f f3 f4 kids items)
def R1{R:Type}(nx1:Gx R)(ex1:QI R)(group2 i f:Int)(f3 f4:List U7)(kids:List U9)(items:List U8):Option R:=cond (decide (i<(f4.length:Int))) (if 0≤i∧i<(f4.length:Int)then cond ((rd (0,0,0,0,()) f4 i).2.1==group2) (if kids.length+[((-1),i,())].length≤maxRow then if 0≤i∧i<(f4.length:Int)then if 0≤i∧i<(f4.length:Int)then if items.length+([(((kids++[((-1),i,())]).length:Int),(rd (0,0,0,0,()) f4 i).2.2.1,(rd (0,0,0,0,()) f4 i).2.2.2.1,())]).length≤maxRow then nx1 group2 (af (i+1)) f f3 f4 (kids++[((-1),i,())]) (items++[(((kids++[((-1),i,())]).length:Int),(rd (0,0,0,0,()) f4 i).2.2.1,(rd (0,0,0,0,()) f4 i).2.2.2.1,())])else none else none else none else none) (nx1 group2 (af (i+1)) f f3 f4 kids items)else none) (ex1 kids items)
def A0(lo1:Gx ((List U9)×(List U8)×Unit))(f0:Int)(f1 f2:List U7)(group:Int)(group2 f:Int)(f3 f4:List U7)(kids:List U9)(items:List U8):Option ((List U9)×(List U8)×Unit):=lo1 group2 0 f f3 f4 kids items
def A1(f0:Int)(f1 f2:List U7)(group:Int)(kids:List U9)(items:List U8):Option ((List U9)×(List U8)×Unit):=some (kids,items,())
def T(lo0:Gy ((List U9)×(List U8)×Unit))(f0:Int)(f1 f2:List U7)(group:Int):Option ((List U9)×(List U8)×Unit):=(Dw (f0,f1,f2,())).bind fun y1=>lo0 group 0 f0 f1 f2 y1.1 ([]:List U9) ([]:List U8)
def K0{R:Type}(k0:Nat)(K:ai R):ai R:=aY 0 (bg (fun env ob=>zrc k0 [1,1,1,1,1] env ob (K)) (K))
def K1{R:Type}(k0:Nat)(K:ai R):ai R:=aY 2 (bg (fun env ob=>zrc k0 [1,1,1,1,1,1] env ob (K)) (K))
def L0:Gy R:=fun group2 i f f3 f4 wants kids items=>iter 0 [1,2,6,7,8,9] [1,2,7,8] (zrc k0 [1,1,1,1,0,1,0,0]) k [(1,.int .i64 group2),(2,.ptr 0 0 0 0),(6,.own 1),(7,.own 2),(8,.own 3),(9,.int .i64 i)] [.box [.int .i64 f,.sl aC f3,.sl aC f4],.arr [CT.int .i64] wants,.arr eG kids,.arr ct0 items] K
def L1:Gx R:=fun group2 i f f3 f4 kids items=>iter 0 [1,2,7,8,10] [7,8] (zrc k0 [1,1,1,1,1,0,1,0,0]) k [(1,.int .i64 group2),(2,.ptr 0 0 0 0),(7,.own 1),(8,.own 2),(10,.int .i64 i)] [.box [.int .i64 f,.sl aC f3,.sl aC f4],.arr eG kids,.arr ct0 items] K
def H0:QJ R:=fun group2 f f3 f4 kids items=>K (.exit 0) [(1,.int .i64 group2),(2,.ptr 0 0 0 0),(7,.own 1),(8,.own 2)] [.box [.int .i64 f,.sl aC f3,.sl aC f4],.arr eG kids,.arr ct0 items]
def H1:QI R:=fun kids items=>K (.exit 2) [(7,.own 0),(8,.own 1)] [.arr eG kids,.arr ct0 items]
theorem zs0:L0 k0 (k+1) K=R0 (L0 k0 k K) (H0 K):=by kernel_rfl
theorem zs1:L1 k0 (k+1) K=R1 (L1 k0 k K) (H1 K):=by kernel_rfl
def G0{R:Type}(k0:Nat)(hx0:QJ R):Nat→Gy R
 |0=>fun _ _ _ _ _ _ _ _=>none
 |k+1=>R0 (G0 k0 hx0 k) hx0
theorem aK:∀ k,L0 k0 k K=G0 k0 (H0 K) k:=bG rfl fun k ih=>by rw[zs0,G0];(try simp only[ih]);try rfl
def G1{R:Type}(k0:Nat)(hx1:QI R):Nat→Gx R
 |0=>fun _ _ _ _ _ _ _=>none
 |k+1=>R1 (G1 k0 hx1 k) hx1
theorem dO:∀ k,L1 k0 k K=G1 k0 (H1 K) k:=bG rfl fun k ih=>by rw[zs1,G1];(try simp only[ih,aK]);try rfl
variable (f0:Int) (f1 f2:List U7) (group:Int)
def aA:ai ((List U9)×(List U8)×Unit):=bW Tryz.prog [.tmp 4,.tmp 5] KR JX (f0,f1,f2,group,())
theorem aS:H0 (K0 k0 (aA f0 f1 f2 group))=A0 (L1 k0 k0 (K1 k0 (aA f0 f1 f2 group))) f0 f1 f2 group:=by kernel_rfl
theorem bU:H1 (K1 k0 (aA f0 f1 f2 group))=A1 f0 f1 f2 group:=by kernel_rfl
def FF:Option ((List U9)×(List U8)×Unit):=T (G0 k0 (A0 (G1 k0 (A1 f0 f1 f2 group) k0) f0 f1 f2 group) k0) f0 f1 f2 group
theorem aQ:bZ Tryz.prog (aP [(148,[],LV)]) ay k0 130 KR JX [] (f0,f1,f2,group,())=FF k0 f0 f1 f2 group:=Eq.trans (b:=T (L0 k0 k0 (K0 k0 (aA f0 f1 f2 group))) f0 f1 f2 group) (by kernel_rfl) (by rw[FF];(try simp only[aK,dO,aS,bU]);try rfl)
def _root_.Go.Rv.zZ:=fun x:Int×(List U7)×(List U7)×Int×Unit=>FF (300+x.2.1.length+x.2.2.1.length) x.1 x.2.1 x.2.2.1 x.2.2.2.1
abbrev _root_.Go.Rv.MJ:aG:=⟨KR,JX,zZ,[]⟩
theorem _root_.Go.Rv.abX:aF Dr Tryz.prog 130 MJ:=dh mix (.c abr .nil) (by kernel_rfl) fun x=>⟨ay,_,aQ _ _ _ _ _⟩
end iU
def Un.T(a0 a1 b0 b1:Int):Option (U6):=cond (decide ((IntKind.u64.wrap (a1+b1))<a1)) (cond (decide ((IntKind.u64.wrap (a0+b0))<a0)) (some ((IntKind.u64.wrap ((IntKind.u64.wrap (a0+b0))+1)),(IntKind.u64.wrap (a1+b1)),true,0,())) (some ((IntKind.u64.wrap ((IntKind.u64.wrap (a0+b0))+1)),(IntKind.u64.wrap (a1+b1)),(decide ((IntKind.u64.wrap ((IntKind.u64.wrap (a0+b0))+1))<(IntKind.u64.wrap (a0+b0)))),0,()))) (cond (decide ((IntKind.u64.wrap (a0+b0))<a0)) (some ((IntKind.u64.wrap ((IntKind.u64.wrap (a0+b0))+0)),(IntKind.u64.wrap (a1+b1)),true,0,())) (some ((IntKind.u64.wrap ((IntKind.u64.wrap (a0+b0))+0)),(IntKind.u64.wrap (a1+b1)),(decide ((IntKind.u64.wrap ((IntKind.u64.wrap (a0+b0))+0))<(IntKind.u64.wrap (a0+b0)))),0,())))
def uQ:=fun x:U7=>Un.T x.1 x.2.1 x.2.2.1 x.2.2.2.1
abbrev wS:aG:=⟨[.v true ct1,.v true ct1],[(true,Zf)],uQ,[]⟩
theorem LD:aF Dr Tryz.prog 165 wS:=aW mix .nil (by kernel_rfl) fun x=>by kernel_rfl
abbrev KW:Is:=[.v true ct1,.v false [CT.int .i64]]
abbrev J3:Os:=[(true,ct1)]
namespace rG
def ay:Nat→List Nat×List Nat:=fun k=>if k=3 then([1,2,4],[2,4])else([],[])
def zrc{R:Type}(k0:Nat)(p:List Nat):Env→List Ob→ai R→Option R:=bD Tryz.prog (aP [(165,[],wS)]) 21 0 ay k0 (bQ p (cZ Tryz.prog 168))
def R0{R:Type}(nx0:tZ R)(ex0:rC R)(n2 a a2 t4x t4x2:Int):Option R:=cond (decide (n2>0)) ((uQ (a,a2,a,a2,())).bind fun y1=>nx0 (af (n2 - 1)) y1.1 y1.2.1 t4x t4x2) (ex0 a a2 t4x t4x2)
def A0(a0 a1 n:Int)(a a2 t4x t4x2:Int):Option (U9):=some (a,a2,())
def T(lo0:tZ (U9))(a0 a1 n:Int):Option (U9):=cond (decide (n<0)) (some (0,0,())) (cond (decide (n>127)) (some (0,0,())) (lo0 n a0 a1 0 0))
def K0{R:Type}(k0:Nat)(K:ai R):ai R:=aY 0 (bg (fun env ob=>zrc k0 [1,1,1] env ob (K)) (K))
def L0:tZ R:=fun n2 a a2 t4x t4x2=>iter 0 [1,2,4] [2,4] (zrc k0 [1,1,0,0,0]) k [(1,.int .i64 n2),(2,.ptr 0 0 0 0),(4,.ptr 1 0 0 0)] [.box [.int .u64 a,.int .u64 a2],.box [.int .u64 t4x,.int .u64 t4x2]] K
def H0:rC R:=fun a a2 t4x t4x2=>K (.exit 0) [(2,.ptr 0 0 0 0),(4,.ptr 1 0 0 0)] [.box [.int .u64 a,.int .u64 a2],.box [.int .u64 t4x,.int .u64 t4x2]]
theorem zs0:L0 k0 (k+1) K=R0 (L0 k0 k K) (H0 K):=by kernel_rfl
def G0{R:Type}(k0:Nat)(hx0:rC R):Nat→tZ R
 |0=>fun _ _ _ _ _=>none
 |k+1=>R0 (G0 k0 hx0 k) hx0
theorem aK:∀ k,L0 k0 k K=G0 k0 (H0 K) k:=bG rfl fun k ih=>by rw[zs0,G0];(try simp only[ih]);try rfl
variable (a0 a1 n:Int)
def aA:ai (U9):=bW Tryz.prog [.cell 4 185] KW J3 (a0,a1,n,())
theorem aS:H0 (K0 k0 (aA a0 a1 n))=A0 a0 a1 n:=by kernel_rfl
def FF:Option (U9):=T (G0 k0 (A0 a0 a1 n) k0) a0 a1 n
theorem aQ:bZ Tryz.prog (aP [(165,[],wS)]) ay k0 168 KW J3 [] (a0,a1,n,())=FF k0 a0 a1 n:=Eq.trans (b:=T (L0 k0 k0 (K0 k0 (aA a0 a1 n))) a0 a1 n) (by kernel_rfl) (by rw[FF];(try simp only[aK,aS]);try rfl)
def _root_.Go.Rv.DW:=fun x:U8=>FF (300) x.1 x.2.1 x.2.2.1
abbrev _root_.Go.Rv.ML:aG:=⟨KW,J3,DW,[]⟩
theorem _root_.Go.Rv.ab2:aF Dr Tryz.prog 168 ML:=dh mix (.c LD .nil) (by kernel_rfl) fun x=>⟨ay,_,aQ _ _ _ _⟩
end rG
abbrev KX:Is:=[.v false [CT.int .u64],.v false [CT.int .u64]]
abbrev J4:Os:=[(true,ct1)]
namespace qB
def ay:Nat→List Nat×List Nat:=fun k=>if k=3 then([0,1,4,5,6],[4,5])else([],[])
def zrc{R:Type}(k0:Nat)(p:List Nat):Env→List Ob→ai R→Option R:=bD Tryz.prog (aP [(165,[],wS),(168,[],ML)]) 26 0 ay k0 (bQ p (cZ Tryz.prog 152))
def R0{R:Type}(nx0:Gw R)(ex0:rC R)(a2 b2 kx t4x t4x2 sum sum2:Int):Option R:=cond (decide (kx<64)) (if(IntKind.u64.wrap (kx))<0 then none else cond ((IntKind.u64.wrap (((BitVec.ofInt 64 (Int.fdiv b2 (2 ^ (min (((IntKind.u64.wrap (kx)):Int)).toNat 64)))) &&& (BitVec.ofInt 64 1)).toNat))==1) ((DW (0,a2,kx,())).bind fun y1=>(uQ (sum,sum2,y1.1,y1.2.1,())).bind fun y2=>nx0 a2 b2 (af (kx+1)) t4x t4x2 y2.1 y2.2.1) (nx0 a2 b2 (af (kx+1)) t4x t4x2 sum sum2)) (ex0 t4x t4x2 sum sum2)
def A0(a b:Int)(t4x t4x2 sum sum2:Int):Option (U9):=some (sum,sum2,())
def T(lo0:Gw (U9))(a b:Int):Option (U9):=lo0 a b 0 0 0 0 0
def K0{R:Type}(k0:Nat)(K:ai R):ai R:=aY 0 (bg (fun env ob=>zrc k0 [1,1,1] env ob (K)) (K))
def L0:Gw R:=fun a2 b2 kx t4x t4x2 sum sum2=>iter 0 [0,1,4,5,6] [4,5] (zrc k0 [1,1,0,1,0,0]) k [(0,.int .u64 a2),(1,.int .u64 b2),(4,.ptr 0 0 0 0),(5,.ptr 1 0 0 0),(6,.int .i64 kx)] [.box [.int .u64 t4x,.int .u64 t4x2],.box [.int .u64 sum,.int .u64 sum2]] K
def H0:rC R:=fun t4x t4x2 sum sum2=>K (.exit 0) [(4,.ptr 0 0 0 0),(5,.ptr 1 0 0 0)] [.box [.int .u64 t4x,.int .u64 t4x2],.box [.int .u64 sum,.int .u64 sum2]]
theorem zs0:L0 k0 (k+1) K=R0 (L0 k0 k K) (H0 K):=by kernel_rfl
def G0{R:Type}(k0:Nat)(hx0:rC R):Nat→Gw R
 |0=>fun _ _ _ _ _ _ _=>none
 |k+1=>R0 (G0 k0 hx0 k) hx0
theorem aK:∀ k,L0 k0 k K=G0 k0 (H0 K) k:=bG rfl fun k ih=>by rw[zs0,G0];(try simp only[ih]);try rfl
variable (a b:Int)
def aA:ai (U9):=bW Tryz.prog [.cell 4 185] KX J4 (a,b,())
theorem aS:H0 (K0 k0 (aA a b))=A0 a b:=by kernel_rfl
def FF:Option (U9):=T (G0 k0 (A0 a b) k0) a b
theorem aQ:bZ Tryz.prog (aP [(165,[],wS),(168,[],ML)]) ay k0 152 KX J4 [] (a,b,())=FF k0 a b:=Eq.trans (b:=T (L0 k0 k0 (K0 k0 (aA a b))) a b) (by kernel_rfl) (by rw[FF];(try simp only[aK,aS]);try rfl)
def _root_.Go.Rv.uO:=fun x:U9=>FF (300) x.1 x.2.1
abbrev _root_.Go.Rv.TF:aG:=⟨KX,J4,uO,[]⟩
theorem _root_.Go.Rv.SE:aF Dr Tryz.prog 152 TF:=dh mix (.c LD (.c ab2 .nil)) (by kernel_rfl) fun x=>⟨ay,_,aQ _ _ _⟩
end qB
def Um.T(a0 a1 b0 b1:Int):Option (Int×Unit):=cond (a0 != b0) (cond (decide (a0<b0)) (some ((-1),())) (some (1,()))) (cond (decide (a1<b1)) (some ((-1),())) (cond (decide (a1>b1)) (some (1,())) (some (0,()))))
def uP:=fun x:U7=>Um.T x.1 x.2.1 x.2.2.1 x.2.2.2.1
abbrev TI:aG:=⟨[.v true ct1,.v true ct1],[(false,[CT.int .i64])],uP,[]⟩
theorem LC:aF Dr Tryz.prog 164 TI:=aW mix .nil (by kernel_rfl) fun x=>by kernel_rfl
def TM.T(a b c d:Int):Option (Int×Unit):=(uO ((IntKind.u64.wrap (a)),(IntKind.u64.wrap (b)),())).bind fun y1=>(uO ((IntKind.u64.wrap (c)),(IntKind.u64.wrap (d)),())).bind fun y2=>(uP (y1.1,y1.2.1,y2.1,y2.2.1,())).bind fun y3=>some (y3.1,())
def wQ:=fun x:U7=>TM.T x.1 x.2.1 x.2.2.1 x.2.2.2.1
abbrev SX:aG:=⟨[.v false [CT.int .i64],.v false [CT.int .i64],.v false [CT.int .i64],.v false [CT.int .i64]],[(false,[CT.int .i64])],wQ,[]⟩
theorem RY:aF Dr Tryz.prog 150 SX:=aW mix (.c SE (.c LC .nil)) (by kernel_rfl) fun x=>by kernel_rfl
def Tn.T(a0 a1 a2:Int):Option (Bool×Unit):=(lq (a0,())).bind fun y1=>cond y1.1 ((dY (a1,())).bind fun y2=>cond y2.1 ((fZ (a2,())).bind fun y3=>some (y3.1,())) (some (false,()))) (some (false,()))
def zH:=fun x:U8=>Tn.T x.1 x.2.1 x.2.2.1
abbrev abN:aG:=⟨[.v true ct0],[(false,[CT.bool])],zH,[]⟩
theorem aaV:aF Dr Tryz.prog 163 abN:=aW mix (.c Ad (.c wO (.c C9 .nil))) (by kernel_rfl) fun x=>by kernel_rfl
def TN.T(a0 a1 a2 b0 b1 b2:Int):Option (Int×Unit):=(zH (a0,a1,a2,())).bind fun y1=>cond (!y1.1) (some (0,())) ((zH (b0,b1,b2,())).bind fun y2=>cond (!y2.1) (some (0,())) ((wQ (a1,b2,b1,a2,())).bind fun y3=>cond (y3.1 != 0) (some (y3.1,())) (cond (decide (a0<b0)) (some ((-1),())) (cond (decide (a0>b0)) (some (1,())) (some (0,()))))))
def Dx:=fun x:Int×U5=>TN.T x.1 x.2.1 x.2.2.1 x.2.2.2.1 x.2.2.2.2.1 x.2.2.2.2.2.1
abbrev SY:aG:=⟨[.v true ct0,.v true ct0],[(false,[CT.int .i64])],Dx,[]⟩
theorem abu:aF Dr Tryz.prog 149 SY:=aW mix (.c RY (.c aaV .nil)) (by kernel_rfl) fun x=>by kernel_rfl
abbrev KU:Is:=[.v true ct1,.v false [CT.int .i64]]
abbrev JZ:Os:=[(true,ct1)]
namespace rF
def ay:Nat→List Nat×List Nat:=fun k=>if k=3 then([1,2,4],[2,4])else([],[])
def zrc{R:Type}(k0:Nat)(p:List Nat):Env→List Ob→ai R→Option R:=bD Tryz.prog (aP []) 29 0 ay k0 (bQ p (cZ Tryz.prog 178))
def R0{R:Type}(nx0:tZ R)(ex0:rC R)(n2 a a2 t4x t4x2:Int):Option R:=cond (decide (n2>0)) (if 2=0 then none else if 2=0 then none else if 2=0 then none else nx0 (af (n2 - 1)) (IntKind.u64.wrap (Int.tdiv a 2)) (IntKind.u64.wrap ((IntKind.u64.wrap (Int.tdiv a2 2))+(IntKind.u64.wrap ((Int.tmod a 2)*9223372036854775808)))) t4x t4x2) (ex0 a a2 t4x t4x2)
def A0(a0 a1 n:Int)(a a2 t4x t4x2:Int):Option (U9):=some (a,a2,())
def T(lo0:tZ (U9))(a0 a1 n:Int):Option (U9):=cond (decide (n<0)) (some (0,0,())) (cond (decide (n>127)) (some (0,0,())) (lo0 n a0 a1 0 0))
def K0{R:Type}(k0:Nat)(K:ai R):ai R:=aY 0 (bg (fun env ob=>zrc k0 [1,1,1] env ob (K)) (K))
def L0:tZ R:=fun n2 a a2 t4x t4x2=>iter 0 [1,2,4] [2,4] (zrc k0 [1,1,0,0,0]) k [(1,.int .i64 n2),(2,.ptr 0 0 0 0),(4,.ptr 1 0 0 0)] [.box [.int .u64 a,.int .u64 a2],.box [.int .u64 t4x,.int .u64 t4x2]] K
def H0:rC R:=fun a a2 t4x t4x2=>K (.exit 0) [(2,.ptr 0 0 0 0),(4,.ptr 1 0 0 0)] [.box [.int .u64 a,.int .u64 a2],.box [.int .u64 t4x,.int .u64 t4x2]]
theorem zs0:L0 k0 (k+1) K=R0 (L0 k0 k K) (H0 K):=by kernel_rfl
def G0{R:Type}(k0:Nat)(hx0:rC R):Nat→tZ R
 |0=>fun _ _ _ _ _=>none
 |k+1=>R0 (G0 k0 hx0 k) hx0
theorem aK:∀ k,L0 k0 k K=G0 k0 (H0 K) k:=bG rfl fun k ih=>by rw[zs0,G0];(try simp only[ih]);try rfl
variable (a0 a1 n:Int)
def aA:ai (U9):=bW Tryz.prog [.cell 4 185] KU JZ (a0,a1,n,())
theorem aS:H0 (K0 k0 (aA a0 a1 n))=A0 a0 a1 n:=by kernel_rfl
def FF:Option (U9):=T (G0 k0 (A0 a0 a1 n) k0) a0 a1 n
theorem aQ:bZ Tryz.prog (aP []) ay k0 178 KU JZ [] (a0,a1,n,())=FF k0 a0 a1 n:=Eq.trans (b:=T (L0 k0 k0 (K0 k0 (aA a0 a1 n))) a0 a1 n) (by kernel_rfl) (by rw[FF];(try simp only[aK,aS]);try rfl)
def _root_.Go.Rv.DV:=fun x:U8=>FF (300) x.1 x.2.1 x.2.2.1
abbrev _root_.Go.Rv.acR:aG:=⟨KU,JZ,DV,[]⟩
theorem _root_.Go.Rv.ab1:aF Dr Tryz.prog 178 acR:=dh mix .nil (by kernel_rfl) fun x=>⟨ay,_,aQ _ _ _ _⟩
end rF
def UE.T(a0 a1 ak:Int):Option (Int×Unit):=(DV (a0,a1,ak,())).bind fun y1=>some ((IntKind.u64.wrap (((BitVec.ofInt 64 y1.2.1) &&& (BitVec.ofInt 64 1)).toNat)),())
def Ec:=fun x:U8=>UE.T x.1 x.2.1 x.2.2.1
abbrev Ud:aG:=⟨[.v true ct1,.v false [CT.int .i64]],[(false,[CT.int .u64])],Ec,[]⟩
theorem acG:aF Dr Tryz.prog 166 Ud:=aW mix (.c ab1 .nil) (by kernel_rfl) fun x=>by kernel_rfl
def Ul.T(a0 a1 b0 b1:Int):Option (U6):=cond (decide (a1<b1)) ((uP (a0,a1,b0,b1,())).bind fun y1=>some ((IntKind.u64.wrap ((IntKind.u64.wrap (a0 - b0)) - 1)),(IntKind.u64.wrap (a1 - b1)),(decide (y1.1<0)),0,())) ((uP (a0,a1,b0,b1,())).bind fun y2=>some ((IntKind.u64.wrap (a0 - b0)),(IntKind.u64.wrap (a1 - b1)),(decide (y2.1<0)),0,()))
def DU:=fun x:U7=>Ul.T x.1 x.2.1 x.2.2.1 x.2.2.2.1
abbrev TD:aG:=⟨[.v true ct1,.v true ct1],[(true,Zf)],DU,[]⟩
theorem abZ:aF Dr Tryz.prog 167 TD:=aW mix (.c LC .nil) (by kernel_rfl) fun x=>by kernel_rfl
abbrev KY:Is:=[.v true ct1,.v false [CT.int .u64]]
abbrev J5:Os:=[(true,Zk)]
namespace pI
def dD:Tb:=[(164,[],TI),(165,[],wS),(166,[],Ud),(167,[],TD)]
def ay:Nat→List Nat×List Nat:=fun k=>if k=6 then([1,2,4,5,6,7],[4,5,6])else([],[])
def zrc{R:Type}(k0:Nat)(p:List Nat):Env→List Ob→ai R→Option R:=bD Tryz.prog (aP dD) 55 0 ay k0 (bQ p (cZ Tryz.prog 151))
def R0{R:Type}(nx0:Gv R)(ex0:zu R)(d2 kx a a2 t4x t4x2 t4x3 out out2 out3 rem rem2:Int):Option R:=cond (decide (kx≥0)) ((uQ (rem,rem2,rem,rem2,())).bind fun y1=>(Ec (a,a2,kx,())).bind fun y2=>(uQ (out,out2,out,out2,())).bind fun y3=>(uP (y1.1,(IntKind.u64.wrap (y1.2.1+y2.1)),0,d2,())).bind fun y4=>cond (decide (y4.1≥0)) ((DU (y1.1,(IntKind.u64.wrap (y1.2.1+y2.1)),0,d2,())).bind fun y5=>nx0 d2 (af (kx - 1)) a a2 t4x t4x2 t4x3 y3.1 (IntKind.u64.wrap (y3.2.1+1)) out3 y5.1 y5.2.1) (nx0 d2 (af (kx - 1)) a a2 t4x t4x2 t4x3 y3.1 y3.2.1 out3 y1.1 (IntKind.u64.wrap (y1.2.1+y2.1)))) (ex0 t4x t4x2 t4x3 out out2 out3 rem rem2)
def A0(a0 a1 d:Int)(t4x t4x2 t4x3 out out2 out3 rem rem2:Int):Option (U8):=some (out,out2,rem2,())
def T(lo0:Gv (U8))(a0 a1 d:Int):Option (U8):=cond (d==0) (some (0,0,0,())) (lo0 d 127 a0 a1 0 0 0 0 0 0 0 0)
def K0{R:Type}(k0:Nat)(K:ai R):ai R:=aY 0 (bg (fun env ob=>zrc k0 [1,1,1,1,1] env ob (K)) (K))
def L0:Gv R:=fun d2 kx a a2 t4x t4x2 t4x3 out out2 out3 rem rem2=>iter 0 [1,2,4,5,6,7] [4,5,6] (zrc k0 [1,1,1,1,0,1,0,0]) k [(1,.int .u64 d2),(2,.ptr 0 0 0 0),(4,.ptr 1 0 0 0),(5,.ptr 2 0 0 0),(6,.ptr 3 0 0 0),(7,.int .i64 kx)] [.box [.int .u64 a,.int .u64 a2],.box [.int .u64 t4x,.int .u64 t4x2,.int .u64 t4x3],.box [.int .u64 out,.int .u64 out2,.int .u64 out3],.box [.int .u64 rem,.int .u64 rem2]] K
def H0:zu R:=fun t4x t4x2 t4x3 out out2 out3 rem rem2=>K (.exit 0) [(4,.ptr 0 0 0 0),(5,.ptr 1 0 0 0),(6,.ptr 2 0 0 0)] [.box [.int .u64 t4x,.int .u64 t4x2,.int .u64 t4x3],.box [.int .u64 out,.int .u64 out2,.int .u64 out3],.box [.int .u64 rem,.int .u64 rem2]]
theorem zs0:L0 k0 (k+1) K=R0 (L0 k0 k K) (H0 K):=by kernel_rfl
def G0{R:Type}(k0:Nat)(hx0:zu R):Nat→Gv R
 |0=>fun _ _ _ _ _ _ _ _ _ _ _ _=>none
 |k+1=>R0 (G0 k0 hx0 k) hx0
theorem aK:∀ k,L0 k0 k K=G0 k0 (H0 K) k:=bG rfl fun k ih=>by rw[zs0,G0];(try simp only[ih]);try rfl
variable (a0 a1 d:Int)
def aA:ai (U8):=bW Tryz.prog [.cell 4 187] KY J5 (a0,a1,d,())
theorem aS:H0 (K0 k0 (aA a0 a1 d))=A0 a0 a1 d:=by kernel_rfl
def FF:Option (U8):=T (G0 k0 (A0 a0 a1 d) k0) a0 a1 d
theorem aQ:bZ Tryz.prog (aP dD) ay k0 151 KY J5 [] (a0,a1,d,())=FF k0 a0 a1 d:=Eq.trans (b:=T (L0 k0 k0 (K0 k0 (aA a0 a1 d))) a0 a1 d) (by kernel_rfl) (by rw[FF];(try simp only[aK,aS]);try rfl)
def _root_.Go.Rv.Aa:=fun x:U8=>FF (300) x.1 x.2.1 x.2.2.1
abbrev _root_.Go.Rv.TG:aG:=⟨KY,J5,Aa,[]⟩
theorem _root_.Go.Rv.ab3:aF Dr Tryz.prog 151 TG:=dh mix (.c LC (.c LD (.c acG (.c abZ .nil)))) (by kernel_rfl) fun x=>⟨ay,_,aQ _ _ _ _⟩
end pI
end Go.Rv
end
