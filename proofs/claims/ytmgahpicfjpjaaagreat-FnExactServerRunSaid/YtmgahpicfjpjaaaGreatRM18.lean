/- What functions come to on pure values (printed by a program of ours). -/
import Derived.Test.YtmgahpicfjpjaaaGreatRM17
set_option linter.unusedVariables false
set_option linter.unusedSimpArgs false
set_option linter.unusedSectionVars false
set_option maxRecDepth 100000
noncomputable section
namespace Go.Rv
open Go.Proofs
variable {Dr:Kn} {R:Type} (k0 k:Nat) (K:ai R)
def TS.T(a:List U7)(left:Int):Option (Int×Unit):=cond (decide ((af (left - (a.length:Int)))<0)) (some ((-1),())) (some ((af (left - (a.length:Int))),()))
def DI:=fun x:(List U7)×Int×Unit=>TS.T x.1 x.2.1
abbrev aci:aG:=⟨[.v false [CT.sl aC],.v false [CT.int .i64]],[(false,[CT.int .i64])],DI,[]⟩
theorem abv:aF Dr Tryz.prog 55 aci:=aW mix .nil (by kernel_rfl) fun x=>by kernel_rfl
def Tq.T(a:List U7)(left:Int):Option (Int×Unit):=cond (decide ((af (left - (a.length:Int)))<0)) (some ((-1),())) (some ((af (left - (a.length:Int))),()))
def Dt:=fun x:(List U7)×Int×Unit=>Tq.T x.1 x.2.1
abbrev abJ:aG:=⟨[.v false [CT.sl aC],.v false [CT.int .i64]],[(false,[CT.int .i64])],Dt,[]⟩
theorem aaS:aF Dr Tryz.prog 56 abJ:=aW mix .nil (by kernel_rfl) fun x=>by kernel_rfl
def UK.T(a0:Int)(a1 a2:List U7)(left:Int):Option (Int×Unit):=(DI (a1,left,())).bind fun y1=>cond (decide (y1.1<0)) (some ((-1),())) ((Dt (a2,y1.1,())).bind fun y2=>cond (decide (y2.1<0)) (some ((-1),())) (some (y2.1,())))
def Eg:=fun x:Int×(List U7)×(List U7)×Int×Unit=>UK.T x.1 x.2.1 x.2.2.1 x.2.2.2.1
abbrev ac5:aG:=⟨[.v true eU,.v false [CT.int .i64]],[(false,[CT.int .i64])],Eg,[]⟩
theorem acB:aF Dr Tryz.prog 28 ac5:=aW mix (.c abv (.c aaS .nil)) (by kernel_rfl) fun x=>by kernel_rfl
def TR.T(a:List U8)(left:Int):Option (Int×Unit):=cond (decide ((af (left - (a.length:Int)))<0)) (some ((-1),())) (some ((af (left - (a.length:Int))),()))
def DF:=fun x:(List U8)×Int×Unit=>TR.T x.1 x.2.1
abbrev ach:aG:=⟨[.v false [CT.sl ct0],.v false [CT.int .i64]],[(false,[CT.int .i64])],DF,[]⟩
theorem abu:aF Dr Tryz.prog 29 ach:=aW mix .nil (by kernel_rfl) fun x=>by kernel_rfl
def TQ.T(a0 a1 a2 a3:Int)(a4 a5:List U7)(a6:List U8)(left:Int):Option (Int×Unit):=(Eg (a3,a4,a5,left,())).bind fun y1=>cond (decide (y1.1<0)) (some ((-1),())) ((DF (a6,y1.1,())).bind fun y2=>cond (decide (y2.1<0)) (some ((-1),())) (some (y2.1,())))
def DC:=fun x:Int×Int×Int×Int×(List U7)×(List U7)×(List U8)×Int×Unit=>TQ.T x.1 x.2.1 x.2.2.1 x.2.2.2.1 x.2.2.2.2.1 x.2.2.2.2.2.1 x.2.2.2.2.2.2.1 x.2.2.2.2.2.2.2.1
abbrev acg:aG:=⟨[.v true iK,.v false [CT.int .i64]],[(false,[CT.int .i64])],DC,[]⟩
theorem abt:aF Dr Tryz.prog 6 acg:=aW mix (.c acB (.c abu .nil)) (by kernel_rfl) fun x=>by kernel_rfl
def ado.T(a0 a1 a2 a3:Int):Option (U7):=some (a0,a1,a2,a3,())
def MQ:=fun x:U7=>ado.T x.1 x.2.1 x.2.2.1 x.2.2.2.1
abbrev ML:aG:=⟨[.v true aC],[(true,aC)],MQ,[]⟩
theorem abY:aF Dr Tryz.prog 105 ML:=aW mix .nil (by kernel_rfl) fun x=>by kernel_rfl
abbrev Kt:Is:=[.v false [CT.sl aC]]
abbrev Jz:Os:=[(false,[CT.sl aC])]
namespace pz
def ay:Nat→List Nat×List Nat:=fun k=>if k=3 then([0,3,4],[3])else([],[])
def zrc{R:Type}(k0:Nat)(p:List Nat):Env→List Ob→ai R→Option R:=bD Tryz.prog (aP [(105,[],ML)]) 23 0 ay k0 (bQ p (cZ Tryz.prog 75))
def R0{R:Type}(nx0:uD R)(ex0:zl R)(a2:List U7)(i:Int)(out:List U7):Option R:=cond (decide (i<(a2.length:Int))) (if 0≤i∧i<(a2.length:Int)then(MQ ((rd (0,0,0,0,()) a2 i).1,(rd (0,0,0,0,()) a2 i).2.1,(rd (0,0,0,0,()) a2 i).2.2.1,(rd (0,0,0,0,()) a2 i).2.2.2.1,())).bind fun y1=>if 0≤i∧i<(out.length:Int)then nx0 a2 (af (i+1)) (out.set i.toNat (y1.1,y1.2.1,y1.2.2.1,y1.2.2.2.1,()))else none else none) (ex0 out)
def A0(a:List U7)(out:List U7):Option ((List U7)×Unit):=some (out,())
def T(lo0:uD ((List U7)×Unit))(a:List U7):Option ((List U7)×Unit):=if 0≤(a.length:Int)∧(32:Int)*(a.length:Int)≤281474976710656∧(a.length:Int)≤9223372036854775807 then lo0 a 0 (List.replicate (((a.length:Int):Int)).toNat (0,0,0,0,()))else none
def K0{R:Type}(k0:Nat)(K:ai R):ai R:=aY 0 (bg (fun env ob=>zrc k0 [1,1,1] env ob (K)) (K))
def L0:uD R:=fun a2 i out=>iter 0 [0,3,4] [3] (zrc k0 [1,1,0,1,0,0]) k [(0,.sl aC a2),(3,.own 0),(4,.int .i64 i)] [.arr aC out] K
def H0:zl R:=fun out=>K (.exit 0) [(3,.own 0)] [.arr aC out]
theorem zs0:L0 k0 (k+1) K=R0 (L0 k0 k K) (H0 K):=by kernel_rfl
def G0{R:Type}(k0:Nat)(hx0:zl R):Nat→uD R
 |0=>fun _ _ _=>none
 |k+1=>R0 (G0 k0 hx0 k) hx0
theorem aK:∀ k,L0 k0 k K=G0 k0 (H0 K) k:=bG rfl fun k ih=>by rw[zs0,G0];(try simp only[ih]);try rfl
variable (a:List U7)
def aA:ai ((List U7)×Unit):=bV Tryz.prog [.tmp 2] Kt Jz (a,())
theorem aS:H0 (K0 k0 (aA a))=A0 a:=by kernel_rfl
def FF:Option ((List U7)×Unit):=T (G0 k0 (A0 a) k0) a
theorem aQ:bZ Tryz.prog (aP [(105,[],ML)]) ay k0 75 Kt Jz [] (a,())=FF k0 a:=Eq.trans (b:=T (L0 k0 k0 (K0 k0 (aA a))) a) (by kernel_rfl) (by rw[FF];(try simp only[aK,aS]);try rfl)
def _root_.Go.Rv.L6:=fun x:(List U7)×Unit=>FF (300+x.1.length) x.1
abbrev _root_.Go.Rv.acf:aG:=⟨Kt,Jz,L6,[]⟩
theorem _root_.Go.Rv.abr:aF Dr Tryz.prog 75 acf:=dh mix (.c abY .nil) (by kernel_rfl) fun x=>⟨ay,_,aQ _ _⟩
end pz
def ac0.T(a0 a1 a2 a3:Int):Option (U7):=some (a0,a1,a2,a3,())
def LY:=fun x:U7=>ac0.T x.1 x.2.1 x.2.2.1 x.2.2.2.1
abbrev LV:aG:=⟨[.v true aC],[(true,aC)],LY,[]⟩
theorem abp:aF Dr Tryz.prog 106 LV:=aW mix .nil (by kernel_rfl) fun x=>by kernel_rfl
abbrev JE:Is:=[.v false [CT.sl aC]]
abbrev Jf:Os:=[(false,[CT.sl aC])]
namespace oW
def ay:Nat→List Nat×List Nat:=fun k=>if k=3 then([0,3,4],[3])else([],[])
def zrc{R:Type}(k0:Nat)(p:List Nat):Env→List Ob→ai R→Option R:=bD Tryz.prog (aP [(106,[],LV)]) 23 0 ay k0 (bQ p (cZ Tryz.prog 76))
def R0{R:Type}(nx0:uD R)(ex0:zl R)(a2:List U7)(i:Int)(out:List U7):Option R:=cond (decide (i<(a2.length:Int))) (if 0≤i∧i<(a2.length:Int)then(LY ((rd (0,0,0,0,()) a2 i).1,(rd (0,0,0,0,()) a2 i).2.1,(rd (0,0,0,0,()) a2 i).2.2.1,(rd (0,0,0,0,()) a2 i).2.2.2.1,())).bind fun y1=>if 0≤i∧i<(out.length:Int)then nx0 a2 (af (i+1)) (out.set i.toNat (y1.1,y1.2.1,y1.2.2.1,y1.2.2.2.1,()))else none else none) (ex0 out)
def A0(a:List U7)(out:List U7):Option ((List U7)×Unit):=some (out,())
def T(lo0:uD ((List U7)×Unit))(a:List U7):Option ((List U7)×Unit):=if 0≤(a.length:Int)∧(32:Int)*(a.length:Int)≤281474976710656∧(a.length:Int)≤9223372036854775807 then lo0 a 0 (List.replicate (((a.length:Int):Int)).toNat (0,0,0,0,()))else none
def K0{R:Type}(k0:Nat)(K:ai R):ai R:=aY 0 (bg (fun env ob=>zrc k0 [1,1,1] env ob (K)) (K))
def L0:uD R:=fun a2 i out=>iter 0 [0,3,4] [3] (zrc k0 [1,1,0,1,0,0]) k [(0,.sl aC a2),(3,.own 0),(4,.int .i64 i)] [.arr aC out] K
def H0:zl R:=fun out=>K (.exit 0) [(3,.own 0)] [.arr aC out]
theorem zs0:L0 k0 (k+1) K=R0 (L0 k0 k K) (H0 K):=by kernel_rfl
def G0{R:Type}(k0:Nat)(hx0:zl R):Nat→uD R
 |0=>fun _ _ _=>none
 |k+1=>R0 (G0 k0 hx0 k) hx0
theorem aK:∀ k,L0 k0 k K=G0 k0 (H0 K) k:=bG rfl fun k ih=>by rw[zs0,G0];(try simp only[ih]);try rfl
variable (a:List U7)
def aA:ai ((List U7)×Unit):=bV Tryz.prog [.tmp 2] JE Jf (a,())
theorem aS:H0 (K0 k0 (aA a))=A0 a:=by kernel_rfl
def FF:Option ((List U7)×Unit):=T (G0 k0 (A0 a) k0) a
theorem aQ:bZ Tryz.prog (aP [(106,[],LV)]) ay k0 76 JE Jf [] (a,())=FF k0 a:=Eq.trans (b:=T (L0 k0 k0 (K0 k0 (aA a))) a) (by kernel_rfl) (by rw[FF];(try simp only[aK,aS]);try rfl)
def _root_.Go.Rv.Ld:=fun x:(List U7)×Unit=>FF (300+x.1.length) x.1
abbrev _root_.Go.Rv.abI:aG:=⟨JE,Jf,Ld,[]⟩
theorem _root_.Go.Rv.aaR:aF Dr Tryz.prog 76 abI:=dh mix (.c abp .nil) (by kernel_rfl) fun x=>⟨ay,_,aQ _ _⟩
end oW
def UJ.T(a0:Int)(a1 a2:List U7):Option (U3):=(L6 (a1,())).bind fun y1=>(Ld (a2,())).bind fun y2=>some (a0,y1.1,y2.1,())
def Ef:=fun x:U3=>UJ.T x.1 x.2.1 x.2.2.1
abbrev ac4:aG:=⟨[.v true eU],[(true,eU)],Ef,[]⟩
theorem acA:aF Dr Tryz.prog 39 ac4:=aW mix (.c abr (.c aaR .nil)) (by kernel_rfl) fun x=>by kernel_rfl
def adn.T(a0 a1 a2:Int):Option (U8):=some (a0,a1,a2,())
def MP:=fun x:U8=>adn.T x.1 x.2.1 x.2.2.1
abbrev MK:aG:=⟨[.v true ct0],[(true,ct0)],MP,[]⟩
theorem abX:aF Dr Tryz.prog 77 MK:=aW mix .nil (by kernel_rfl) fun x=>by kernel_rfl
abbrev Kr:Is:=[.v false [CT.sl ct0]]
abbrev Jy:Os:=[(false,[CT.sl ct0])]
namespace pq
def ay:Nat→List Nat×List Nat:=fun k=>if k=3 then([0,3,4],[3])else([],[])
def zrc{R:Type}(k0:Nat)(p:List Nat):Env→List Ob→ai R→Option R:=bD Tryz.prog (aP [(77,[],MK)]) 23 0 ay k0 (bQ p (cZ Tryz.prog 40))
def R0{R:Type}(nx0:GU R)(ex0:zk R)(a2:List U8)(i:Int)(out:List U8):Option R:=cond (decide (i<(a2.length:Int))) (if 0≤i∧i<(a2.length:Int)then(MP ((rd (0,0,0,()) a2 i).1,(rd (0,0,0,()) a2 i).2.1,(rd (0,0,0,()) a2 i).2.2.1,())).bind fun y1=>if 0≤i∧i<(out.length:Int)then nx0 a2 (af (i+1)) (out.set i.toNat (y1.1,y1.2.1,y1.2.2.1,()))else none else none) (ex0 out)
def A0(a:List U8)(out:List U8):Option ((List U8)×Unit):=some (out,())
def T(lo0:GU ((List U8)×Unit))(a:List U8):Option ((List U8)×Unit):=if 0≤(a.length:Int)∧(24:Int)*(a.length:Int)≤281474976710656∧(a.length:Int)≤9223372036854775807 then lo0 a 0 (List.replicate (((a.length:Int):Int)).toNat (0,0,0,()))else none
def K0{R:Type}(k0:Nat)(K:ai R):ai R:=aY 0 (bg (fun env ob=>zrc k0 [1,1,1] env ob (K)) (K))
def L0:GU R:=fun a2 i out=>iter 0 [0,3,4] [3] (zrc k0 [1,1,0,1,0,0]) k [(0,.sl ct0 a2),(3,.own 0),(4,.int .i64 i)] [.arr ct0 out] K
def H0:zk R:=fun out=>K (.exit 0) [(3,.own 0)] [.arr ct0 out]
theorem zs0:L0 k0 (k+1) K=R0 (L0 k0 k K) (H0 K):=by kernel_rfl
def G0{R:Type}(k0:Nat)(hx0:zk R):Nat→GU R
 |0=>fun _ _ _=>none
 |k+1=>R0 (G0 k0 hx0 k) hx0
theorem aK:∀ k,L0 k0 k K=G0 k0 (H0 K) k:=bG rfl fun k ih=>by rw[zs0,G0];(try simp only[ih]);try rfl
variable (a:List U8)
def aA:ai ((List U8)×Unit):=bV Tryz.prog [.tmp 2] Kr Jy (a,())
theorem aS:H0 (K0 k0 (aA a))=A0 a:=by kernel_rfl
def FF:Option ((List U8)×Unit):=T (G0 k0 (A0 a) k0) a
theorem aQ:bZ Tryz.prog (aP [(77,[],MK)]) ay k0 40 Kr Jy [] (a,())=FF k0 a:=Eq.trans (b:=T (L0 k0 k0 (K0 k0 (aA a))) a) (by kernel_rfl) (by rw[FF];(try simp only[aK,aS]);try rfl)
def _root_.Go.Rv.LZ:=fun x:(List U8)×Unit=>FF (300+x.1.length) x.1
abbrev _root_.Go.Rv.ace:aG:=⟨Kr,Jy,LZ,[]⟩
theorem _root_.Go.Rv.abq:aF Dr Tryz.prog 40 ace:=dh mix (.c abX .nil) (by kernel_rfl) fun x=>⟨ay,_,aQ _ _⟩
end pq
def TN.T(a0 a1 a2 a3:Int)(a4 a5:List U7)(a6:List U8):Option (U1):=(Ef (a3,a4,a5,())).bind fun y1=>(LZ (a6,())).bind fun y2=>some (a0,a1,a2,y1.1,y1.2.1,y1.2.2.1,y2.1,())
def uM:=fun x:U1=>TN.T x.1 x.2.1 x.2.2.1 x.2.2.2.1 x.2.2.2.2.1 x.2.2.2.2.2.1 x.2.2.2.2.2.2.1
abbrev acd:aG:=⟨[.v true iK],[(true,iK)],uM,[]⟩
theorem abo:aF Dr Tryz.prog 8 acd:=aW mix (.c acA (.c abq .nil)) (by kernel_rfl) fun x=>by kernel_rfl
def Un.T(a0 a1 a2 a3 b0 b1 b2 b3:Int):Option (Bool×Unit):=cond (a0 != b0) (some (false,())) (cond (a1 != b1) (some (false,())) (cond (a2 != b2) (some (false,())) (cond (a3 != b3) (some (false,())) (some (true,())))))
def D6:=fun x:Int×Int×Int×U5=>Un.T x.1 x.2.1 x.2.2.1 x.2.2.2.1 x.2.2.2.2.1 x.2.2.2.2.2.1 x.2.2.2.2.2.2.1 x.2.2.2.2.2.2.2.1
abbrev MO:aG:=⟨[.v true aC,.v true aC],[(false,[CT.bool])],D6,[]⟩
theorem ab2:aF Dr Tryz.prog 127 MO:=aW mix .nil (by kernel_rfl) fun x=>by kernel_rfl
abbrev Kv:Is:=[.v false [CT.sl aC],.v false [CT.sl aC]]
abbrev JB:Os:=[(false,[CT.bool])]
namespace ng
def ay:Nat→List Nat×List Nat:=fun k=>if k=4 then([0,1,5],[4])else([],[])
def zrc{R:Type}(k0:Nat)(p:List Nat):Env→List Ob→ai R→Option R:=bD Tryz.prog (aP [(127,[],MO)]) 27 0 ay k0 (bQ p (cZ Tryz.prog 94))
def R0{R:Type}(nx0:uz R)(ex0:eX R)(ex1:dB R)(a2 b2:List U7)(i:Int):Option R:=cond (decide (i<(a2.length:Int))) (if 0≤i∧i<(a2.length:Int)then if 0≤i∧i<(b2.length:Int)then(D6 ((rd (0,0,0,0,()) a2 i).1,(rd (0,0,0,0,()) a2 i).2.1,(rd (0,0,0,0,()) a2 i).2.2.1,(rd (0,0,0,0,()) a2 i).2.2.2.1,(rd (0,0,0,0,()) b2 i).1,(rd (0,0,0,0,()) b2 i).2.1,(rd (0,0,0,0,()) b2 i).2.2.1,(rd (0,0,0,0,()) b2 i).2.2.2.1,())).bind fun y1=>cond (!y1.1) (ex0 false) (nx0 a2 b2 (af (i+1)))else none else none) (ex1 ())
def A0(a b:List U7)(t4x:Bool):Option (Bool×Unit):=some (t4x,())
def A1(a b:List U7)(_u:Unit):Option (Bool×Unit):=some (true,())
def T(lo0:uz (Bool×Unit))(a b:List U7):Option (Bool×Unit):=cond ((a.length:Int) != (b.length:Int)) (some (false,())) (lo0 a b 0)
def K0{R:Type}(k0:Nat)(K:ai R):ai R:=aY 0 (bg (fun env ob=>zrc k0 [1,1,1] env ob (K)) (K))
def L0:uz R:=fun a2 b2 i=>iter 0 [0,1,5] [4] (zrc k0 [1,1,0,1,0,0]) k [(0,.sl aC a2),(1,.sl aC b2),(5,.int .i64 i)] [] K
def H0:eX R:=fun t4x=>K .ret [(4,.bool t4x)] []
def H1:dB R:=fun _=>K (.exit 0) [(4,.undef)] []
theorem zs0:L0 k0 (k+1) K=R0 (L0 k0 k K) (H0 K) (H1 K):=by kernel_rfl
def G0{R:Type}(k0:Nat)(hx0:eX R)(hx1:dB R):Nat→uz R
 |0=>fun _ _ _=>none
 |k+1=>R0 (G0 k0 hx0 hx1 k) hx0 hx1
theorem aK:∀ k,L0 k0 k K=G0 k0 (H0 K) (H1 K) k:=bG rfl fun k ih=>by rw[zs0,G0];(try simp only[ih]);try rfl
variable (a b:List U7)
def aA:ai (Bool×Unit):=bV Tryz.prog [.tmp 4] Kv JB (a,b,())
theorem aS:H0 (K0 k0 (aA a b))=A0 a b:=by kernel_rfl
theorem bW:H1 (K0 k0 (aA a b))=A1 a b:=by kernel_rfl
def FF:Option (Bool×Unit):=T (G0 k0 (A0 a b) (A1 a b) k0) a b
theorem aQ:bZ Tryz.prog (aP [(127,[],MO)]) ay k0 94 Kv JB [] (a,b,())=FF k0 a b:=Eq.trans (b:=T (L0 k0 k0 (K0 k0 (aA a b))) a b) (by kernel_rfl) (by rw[FF];(try simp only[aK,aS,bW]);try rfl)
def _root_.Go.Rv.L9:=fun x:(List U7)×(List U7)×Unit=>FF (300+x.1.length+x.2.1.length) x.1 x.2.1
abbrev _root_.Go.Rv.aco:aG:=⟨Kv,JB,L9,[]⟩
theorem _root_.Go.Rv.abA:aF Dr Tryz.prog 94 aco:=dh mix (.c ab2 .nil) (by kernel_rfl) fun x=>⟨ay,_,aQ _ _ _⟩
end ng
def TV.T(a0 a1 a2 a3 b0 b1 b2 b3:Int):Option (Bool×Unit):=cond (a0 != b0) (some (false,())) (cond (a1 != b1) (some (false,())) (cond (a2 != b2) (some (false,())) (cond (a3 != b3) (some (false,())) (some (true,())))))
def DL:=fun x:Int×Int×Int×U5=>TV.T x.1 x.2.1 x.2.2.1 x.2.2.2.1 x.2.2.2.2.1 x.2.2.2.2.2.1 x.2.2.2.2.2.2.1 x.2.2.2.2.2.2.2.1
abbrev LW:aG:=⟨[.v true aC,.v true aC],[(false,[CT.bool])],DL,[]⟩
theorem aby:aF Dr Tryz.prog 128 LW:=aW mix .nil (by kernel_rfl) fun x=>by kernel_rfl
abbrev JF:Is:=[.v false [CT.sl aC],.v false [CT.sl aC]]
abbrev Jg:Os:=[(false,[CT.bool])]
namespace mV
def ay:Nat→List Nat×List Nat:=fun k=>if k=4 then([0,1,5],[4])else([],[])
def zrc{R:Type}(k0:Nat)(p:List Nat):Env→List Ob→ai R→Option R:=bD Tryz.prog (aP [(128,[],LW)]) 27 0 ay k0 (bQ p (cZ Tryz.prog 95))
def R0{R:Type}(nx0:uz R)(ex0:eX R)(ex1:dB R)(a2 b2:List U7)(i:Int):Option R:=cond (decide (i<(a2.length:Int))) (if 0≤i∧i<(a2.length:Int)then if 0≤i∧i<(b2.length:Int)then(DL ((rd (0,0,0,0,()) a2 i).1,(rd (0,0,0,0,()) a2 i).2.1,(rd (0,0,0,0,()) a2 i).2.2.1,(rd (0,0,0,0,()) a2 i).2.2.2.1,(rd (0,0,0,0,()) b2 i).1,(rd (0,0,0,0,()) b2 i).2.1,(rd (0,0,0,0,()) b2 i).2.2.1,(rd (0,0,0,0,()) b2 i).2.2.2.1,())).bind fun y1=>cond (!y1.1) (ex0 false) (nx0 a2 b2 (af (i+1)))else none else none) (ex1 ())
def A0(a b:List U7)(t4x:Bool):Option (Bool×Unit):=some (t4x,())
def A1(a b:List U7)(_u:Unit):Option (Bool×Unit):=some (true,())
def T(lo0:uz (Bool×Unit))(a b:List U7):Option (Bool×Unit):=cond ((a.length:Int) != (b.length:Int)) (some (false,())) (lo0 a b 0)
def K0{R:Type}(k0:Nat)(K:ai R):ai R:=aY 0 (bg (fun env ob=>zrc k0 [1,1,1] env ob (K)) (K))
def L0:uz R:=fun a2 b2 i=>iter 0 [0,1,5] [4] (zrc k0 [1,1,0,1,0,0]) k [(0,.sl aC a2),(1,.sl aC b2),(5,.int .i64 i)] [] K
def H0:eX R:=fun t4x=>K .ret [(4,.bool t4x)] []
def H1:dB R:=fun _=>K (.exit 0) [(4,.undef)] []
theorem zs0:L0 k0 (k+1) K=R0 (L0 k0 k K) (H0 K) (H1 K):=by kernel_rfl
def G0{R:Type}(k0:Nat)(hx0:eX R)(hx1:dB R):Nat→uz R
 |0=>fun _ _ _=>none
 |k+1=>R0 (G0 k0 hx0 hx1 k) hx0 hx1
theorem aK:∀ k,L0 k0 k K=G0 k0 (H0 K) (H1 K) k:=bG rfl fun k ih=>by rw[zs0,G0];(try simp only[ih]);try rfl
variable (a b:List U7)
def aA:ai (Bool×Unit):=bV Tryz.prog [.tmp 4] JF Jg (a,b,())
theorem aS:H0 (K0 k0 (aA a b))=A0 a b:=by kernel_rfl
theorem bW:H1 (K0 k0 (aA a b))=A1 a b:=by kernel_rfl
def FF:Option (Bool×Unit):=T (G0 k0 (A0 a b) (A1 a b) k0) a b
theorem aQ:bZ Tryz.prog (aP [(128,[],LW)]) ay k0 95 JF Jg [] (a,b,())=FF k0 a b:=Eq.trans (b:=T (L0 k0 k0 (K0 k0 (aA a b))) a b) (by kernel_rfl) (by rw[FF];(try simp only[aK,aS,bW]);try rfl)
def _root_.Go.Rv.Le:=fun x:(List U7)×(List U7)×Unit=>FF (300+x.1.length+x.2.1.length) x.1 x.2.1
abbrev _root_.Go.Rv.abK:aG:=⟨JF,Jg,Le,[]⟩
theorem _root_.Go.Rv.aaT:aF Dr Tryz.prog 95 abK:=dh mix (.c aby .nil) (by kernel_rfl) fun x=>⟨ay,_,aQ _ _ _⟩
end mV
def UL.T(a0:Int)(a1 a2:List U7)(b0:Int)(b1 b2:List U7):Option (Bool×Unit):=cond (a0 != b0) (some (false,())) ((L9 (a1,b1,())).bind fun y1=>cond (!y1.1) (some (false,())) ((Le (a2,b2,())).bind fun y2=>cond (!y2.1) (some (false,())) (some (true,()))))
def Eh:=fun x:Int×(List U7)×(List U7)×U3=>UL.T x.1 x.2.1 x.2.2.1 x.2.2.2.1 x.2.2.2.2.1 x.2.2.2.2.2.1
abbrev ac6:aG:=⟨[.v true eU,.v true eU],[(false,[CT.bool])],Eh,[]⟩
theorem acC:aF Dr Tryz.prog 45 ac6:=aW mix (.c abA (.c aaT .nil)) (by kernel_rfl) fun x=>by kernel_rfl
def Um.T(a0 a1 a2 b0 b1 b2:Int):Option (Bool×Unit):=cond (a0 != b0) (some (false,())) (cond (a1 != b1) (some (false,())) (cond (a2 != b2) (some (false,())) (some (true,()))))
def D5:=fun x:Int×U5=>Um.T x.1 x.2.1 x.2.2.1 x.2.2.2.1 x.2.2.2.2.1 x.2.2.2.2.2.1
abbrev MN:aG:=⟨[.v true ct0,.v true ct0],[(false,[CT.bool])],D5,[]⟩
theorem ab1:aF Dr Tryz.prog 96 MN:=aW mix .nil (by kernel_rfl) fun x=>by kernel_rfl
abbrev Ku:Is:=[.v false [CT.sl ct0],.v false [CT.sl ct0]]
abbrev JA:Os:=[(false,[CT.bool])]
namespace mZ
def ay:Nat→List Nat×List Nat:=fun k=>if k=4 then([0,1,5],[4])else([],[])
def zrc{R:Type}(k0:Nat)(p:List Nat):Env→List Ob→ai R→Option R:=bD Tryz.prog (aP [(96,[],MN)]) 27 0 ay k0 (bQ p (cZ Tryz.prog 46))
def R0{R:Type}(nx0:uw R)(ex0:eX R)(ex1:dB R)(a2 b2:List U8)(i:Int):Option R:=cond (decide (i<(a2.length:Int))) (if 0≤i∧i<(a2.length:Int)then if 0≤i∧i<(b2.length:Int)then(D5 ((rd (0,0,0,()) a2 i).1,(rd (0,0,0,()) a2 i).2.1,(rd (0,0,0,()) a2 i).2.2.1,(rd (0,0,0,()) b2 i).1,(rd (0,0,0,()) b2 i).2.1,(rd (0,0,0,()) b2 i).2.2.1,())).bind fun y1=>cond (!y1.1) (ex0 false) (nx0 a2 b2 (af (i+1)))else none else none) (ex1 ())
def A0(a b:List U8)(t4x:Bool):Option (Bool×Unit):=some (t4x,())
def A1(a b:List U8)(_u:Unit):Option (Bool×Unit):=some (true,())
def T(lo0:uw (Bool×Unit))(a b:List U8):Option (Bool×Unit):=cond ((a.length:Int) != (b.length:Int)) (some (false,())) (lo0 a b 0)
def K0{R:Type}(k0:Nat)(K:ai R):ai R:=aY 0 (bg (fun env ob=>zrc k0 [1,1,1] env ob (K)) (K))
def L0:uw R:=fun a2 b2 i=>iter 0 [0,1,5] [4] (zrc k0 [1,1,0,1,0,0]) k [(0,.sl ct0 a2),(1,.sl ct0 b2),(5,.int .i64 i)] [] K
def H0:eX R:=fun t4x=>K .ret [(4,.bool t4x)] []
def H1:dB R:=fun _=>K (.exit 0) [(4,.undef)] []
theorem zs0:L0 k0 (k+1) K=R0 (L0 k0 k K) (H0 K) (H1 K):=by kernel_rfl
def G0{R:Type}(k0:Nat)(hx0:eX R)(hx1:dB R):Nat→uw R
 |0=>fun _ _ _=>none
 |k+1=>R0 (G0 k0 hx0 hx1 k) hx0 hx1
theorem aK:∀ k,L0 k0 k K=G0 k0 (H0 K) (H1 K) k:=bG rfl fun k ih=>by rw[zs0,G0];(try simp only[ih]);try rfl
variable (a b:List U8)
def aA:ai (Bool×Unit):=bV Tryz.prog [.tmp 4] Ku JA (a,b,())
theorem aS:H0 (K0 k0 (aA a b))=A0 a b:=by kernel_rfl
theorem bW:H1 (K0 k0 (aA a b))=A1 a b:=by kernel_rfl
def FF:Option (Bool×Unit):=T (G0 k0 (A0 a b) (A1 a b) k0) a b
theorem aQ:bZ Tryz.prog (aP [(96,[],MN)]) ay k0 46 Ku JA [] (a,b,())=FF k0 a b:=Eq.trans (b:=T (L0 k0 k0 (K0 k0 (aA a b))) a b) (by kernel_rfl) (by rw[FF];(try simp only[aK,aS,bW]);try rfl)
def _root_.Go.Rv.L8:=fun x:(List U8)×(List U8)×Unit=>FF (300+x.1.length+x.2.1.length) x.1 x.2.1
abbrev _root_.Go.Rv.acn:aG:=⟨Ku,JA,L8,[]⟩
theorem _root_.Go.Rv.abz:aF Dr Tryz.prog 46 acn:=dh mix (.c ab1 .nil) (by kernel_rfl) fun x=>⟨ay,_,aQ _ _ _⟩
end mZ
def TU.T(a0 a1 a2 a3:Int)(a4 a5:List U7)(a6:List U8)(b0 b1 b2 b3:Int)(b4 b5:List U7)(b6:List U8):Option (Bool×Unit):=cond (a0 != b0) (some (false,())) (cond (a1 != b1) (some (false,())) (cond (a2 != b2) (some (false,())) ((Eh (a3,a4,a5,b3,b4,b5,())).bind fun y1=>cond (!y1.1) (some (false,())) ((L8 (a6,b6,())).bind fun y2=>cond (!y2.1) (some (false,())) (some (true,()))))))
def DK:=fun x:Int×Int×Int×Int×(List U7)×(List U7)×(List U8)×U1=>TU.T x.1 x.2.1 x.2.2.1 x.2.2.2.1 x.2.2.2.2.1 x.2.2.2.2.2.1 x.2.2.2.2.2.2.1 x.2.2.2.2.2.2.2.1 x.2.2.2.2.2.2.2.2.1 x.2.2.2.2.2.2.2.2.2.1 x.2.2.2.2.2.2.2.2.2.2.1 x.2.2.2.2.2.2.2.2.2.2.2.1 x.2.2.2.2.2.2.2.2.2.2.2.2.1 x.2.2.2.2.2.2.2.2.2.2.2.2.2.1
abbrev ack:aG:=⟨[.v true iK,.v true iK],[(false,[CT.bool])],DK,[]⟩
theorem abx:aF Dr Tryz.prog 12 ack:=aW mix (.c acC (.c abz .nil)) (by kernel_rfl) fun x=>by kernel_rfl
abbrev Jq:Is:=[.w false [CT.sl aC],.v false [CT.int .i64]]
abbrev IL:Os:=[(false,[CT.int .i64])]
namespace mQ
def ay:Nat→List Nat×List Nat:=fun k=>if k=2 then([0,1,5],[1])else([],[])
def zrc{R:Type}(k0:Nat)(p:List Nat):Env→List Ob→ai R→Option R:=bD Tryz.prog (aP []) 41 1 ay k0 (bQ p (cZ Tryz.prog 97))
def R0{R:Type}(nx0:uq R)(ex0:zi R)(kx i:Int)(a2:List U7):Option R:=cond (decide (i<(a2.length:Int))) (if 0≤i∧i<(a2.length:Int)then if 0≤i∧i<((a2.set i.toNat (fM (a2.getD i.toNat (0,0,0,0,())) kx)).length:Int)then if 0≤i∧i<(((a2.set i.toNat (fM (a2.getD i.toNat (0,0,0,0,())) kx)).set i.toNat (lH ((a2.set i.toNat (fM (a2.getD i.toNat (0,0,0,0,())) kx)).getD i.toNat (0,0,0,0,())) (af (kx+1)))).length:Int)then if 0≤i∧i<((((a2.set i.toNat (fM (a2.getD i.toNat (0,0,0,0,())) kx)).set i.toNat (lH ((a2.set i.toNat (fM (a2.getD i.toNat (0,0,0,0,())) kx)).getD i.toNat (0,0,0,0,())) (af (kx+1)))).set i.toNat (yF (((a2.set i.toNat (fM (a2.getD i.toNat (0,0,0,0,())) kx)).set i.toNat (lH ((a2.set i.toNat (fM (a2.getD i.toNat (0,0,0,0,())) kx)).getD i.toNat (0,0,0,0,())) (af (kx+1)))).getD i.toNat (0,0,0,0,())) (af ((af (kx+1))+1)))).length:Int)then nx0 (af ((af ((af ((af (kx+1))+1))+1))+1)) (af (i+1)) ((((a2.set i.toNat (fM (a2.getD i.toNat (0,0,0,0,())) kx)).set i.toNat (lH ((a2.set i.toNat (fM (a2.getD i.toNat (0,0,0,0,())) kx)).getD i.toNat (0,0,0,0,())) (af (kx+1)))).set i.toNat (yF (((a2.set i.toNat (fM (a2.getD i.toNat (0,0,0,0,())) kx)).set i.toNat (lH ((a2.set i.toNat (fM (a2.getD i.toNat (0,0,0,0,())) kx)).getD i.toNat (0,0,0,0,())) (af (kx+1)))).getD i.toNat (0,0,0,0,())) (af ((af (kx+1))+1)))).set i.toNat (YH ((((a2.set i.toNat (fM (a2.getD i.toNat (0,0,0,0,())) kx)).set i.toNat (lH ((a2.set i.toNat (fM (a2.getD i.toNat (0,0,0,0,())) kx)).getD i.toNat (0,0,0,0,())) (af (kx+1)))).set i.toNat (yF (((a2.set i.toNat (fM (a2.getD i.toNat (0,0,0,0,())) kx)).set i.toNat (lH ((a2.set i.toNat (fM (a2.getD i.toNat (0,0,0,0,())) kx)).getD i.toNat (0,0,0,0,())) (af (kx+1)))).getD i.toNat (0,0,0,0,())) (af ((af (kx+1))+1)))).getD i.toNat (0,0,0,0,())) (af ((af ((af (kx+1))+1))+1))))else none else none else none else none) (ex0 kx a2)
def A0(a:List U7)(ak:Int)(kx:Int)(o0:List U7):Option (Int×(List U7)×Unit):=some (kx,o0,())
def T(lo0:uq (Int×(List U7)×Unit))(a:List U7)(ak:Int):Option (Int×(List U7)×Unit):=lo0 ak 0 a
def K0{R:Type}(k0:Nat)(K:ai R):ai R:=aY 0 (bg (fun env ob=>zrc k0 [1,1] env ob (K)) (K))
def L0:uq R:=fun kx i a2=>iter 1 [0,1,5] [1] (zrc k0 [1,0,1,0,0]) k [(0,.own 0),(1,.int .i64 kx),(5,.int .i64 i)] [.arr aC a2] K
def H0:zi R:=fun kx o0=>K (.exit 0) [(1,.int .i64 kx)] [.arr aC o0]
theorem zs0:L0 k0 (k+1) K=R0 (L0 k0 k K) (H0 K):=by kernel_rfl
def G0{R:Type}(k0:Nat)(hx0:zi R):Nat→uq R
 |0=>fun _ _ _=>none
 |k+1=>R0 (G0 k0 hx0 k) hx0
theorem aK:∀ k,L0 k0 k K=G0 k0 (H0 K) k:=bG rfl fun k ih=>by rw[zs0,G0];(try simp only[ih]);try rfl
variable (a:List U7) (ak:Int)
def aA:ai (Int×(List U7)×Unit):=bV Tryz.prog [.tmp 4] Jq IL (a,ak,())
theorem aS:H0 (K0 k0 (aA a ak))=A0 a ak:=by kernel_rfl
def FF:Option (Int×(List U7)×Unit):=T (G0 k0 (A0 a ak) k0) a ak
theorem aQ:bZ Tryz.prog (aP []) ay k0 97 Jq IL [] (a,ak,())=FF k0 a ak:=Eq.trans (b:=T (L0 k0 k0 (K0 k0 (aA a ak))) a ak) (by kernel_rfl) (by rw[FF];(try simp only[aK,aS]);try rfl)
def _root_.Go.Rv.KA:=fun x:(List U7)×Int×Unit=>FF (300+x.1.length) x.1 x.2.1
abbrev _root_.Go.Rv.aa9:aG:=⟨Jq,IL,KA,[]⟩
theorem _root_.Go.Rv.aaz:aF Dr Tryz.prog 97 aa9:=dh mix .nil (by kernel_rfl) fun x=>⟨ay,_,aQ _ _ _⟩
end mQ
abbrev IW:Is:=[.w false [CT.sl aC],.v false [CT.int .i64]]
abbrev Ip:Os:=[(false,[CT.int .i64])]
namespace mF
def ay:Nat→List Nat×List Nat:=fun k=>if k=2 then([0,1,5],[1])else([],[])
def zrc{R:Type}(k0:Nat)(p:List Nat):Env→List Ob→ai R→Option R:=bD Tryz.prog (aP []) 41 1 ay k0 (bQ p (cZ Tryz.prog 98))
def R0{R:Type}(nx0:uq R)(ex0:zi R)(kx i:Int)(a2:List U7):Option R:=cond (decide (i<(a2.length:Int))) (if 0≤i∧i<(a2.length:Int)then if 0≤i∧i<((a2.set i.toNat (fM (a2.getD i.toNat (0,0,0,0,())) kx)).length:Int)then if 0≤i∧i<(((a2.set i.toNat (fM (a2.getD i.toNat (0,0,0,0,())) kx)).set i.toNat (lH ((a2.set i.toNat (fM (a2.getD i.toNat (0,0,0,0,())) kx)).getD i.toNat (0,0,0,0,())) (af (kx+1)))).length:Int)then if 0≤i∧i<((((a2.set i.toNat (fM (a2.getD i.toNat (0,0,0,0,())) kx)).set i.toNat (lH ((a2.set i.toNat (fM (a2.getD i.toNat (0,0,0,0,())) kx)).getD i.toNat (0,0,0,0,())) (af (kx+1)))).set i.toNat (yF (((a2.set i.toNat (fM (a2.getD i.toNat (0,0,0,0,())) kx)).set i.toNat (lH ((a2.set i.toNat (fM (a2.getD i.toNat (0,0,0,0,())) kx)).getD i.toNat (0,0,0,0,())) (af (kx+1)))).getD i.toNat (0,0,0,0,())) (af ((af (kx+1))+1)))).length:Int)then nx0 (af ((af ((af ((af (kx+1))+1))+1))+1)) (af (i+1)) ((((a2.set i.toNat (fM (a2.getD i.toNat (0,0,0,0,())) kx)).set i.toNat (lH ((a2.set i.toNat (fM (a2.getD i.toNat (0,0,0,0,())) kx)).getD i.toNat (0,0,0,0,())) (af (kx+1)))).set i.toNat (yF (((a2.set i.toNat (fM (a2.getD i.toNat (0,0,0,0,())) kx)).set i.toNat (lH ((a2.set i.toNat (fM (a2.getD i.toNat (0,0,0,0,())) kx)).getD i.toNat (0,0,0,0,())) (af (kx+1)))).getD i.toNat (0,0,0,0,())) (af ((af (kx+1))+1)))).set i.toNat (YH ((((a2.set i.toNat (fM (a2.getD i.toNat (0,0,0,0,())) kx)).set i.toNat (lH ((a2.set i.toNat (fM (a2.getD i.toNat (0,0,0,0,())) kx)).getD i.toNat (0,0,0,0,())) (af (kx+1)))).set i.toNat (yF (((a2.set i.toNat (fM (a2.getD i.toNat (0,0,0,0,())) kx)).set i.toNat (lH ((a2.set i.toNat (fM (a2.getD i.toNat (0,0,0,0,())) kx)).getD i.toNat (0,0,0,0,())) (af (kx+1)))).getD i.toNat (0,0,0,0,())) (af ((af (kx+1))+1)))).getD i.toNat (0,0,0,0,())) (af ((af ((af (kx+1))+1))+1))))else none else none else none else none) (ex0 kx a2)
def A0(a:List U7)(ak:Int)(kx:Int)(o0:List U7):Option (Int×(List U7)×Unit):=some (kx,o0,())
def T(lo0:uq (Int×(List U7)×Unit))(a:List U7)(ak:Int):Option (Int×(List U7)×Unit):=lo0 ak 0 a
def K0{R:Type}(k0:Nat)(K:ai R):ai R:=aY 0 (bg (fun env ob=>zrc k0 [1,1] env ob (K)) (K))
def L0:uq R:=fun kx i a2=>iter 1 [0,1,5] [1] (zrc k0 [1,0,1,0,0]) k [(0,.own 0),(1,.int .i64 kx),(5,.int .i64 i)] [.arr aC a2] K
def H0:zi R:=fun kx o0=>K (.exit 0) [(1,.int .i64 kx)] [.arr aC o0]
theorem zs0:L0 k0 (k+1) K=R0 (L0 k0 k K) (H0 K):=by kernel_rfl
def G0{R:Type}(k0:Nat)(hx0:zi R):Nat→uq R
 |0=>fun _ _ _=>none
 |k+1=>R0 (G0 k0 hx0 k) hx0
theorem aK:∀ k,L0 k0 k K=G0 k0 (H0 K) k:=bG rfl fun k ih=>by rw[zs0,G0];(try simp only[ih]);try rfl
variable (a:List U7) (ak:Int)
def aA:ai (Int×(List U7)×Unit):=bV Tryz.prog [.tmp 4] IW Ip (a,ak,())
theorem aS:H0 (K0 k0 (aA a ak))=A0 a ak:=by kernel_rfl
def FF:Option (Int×(List U7)×Unit):=T (G0 k0 (A0 a ak) k0) a ak
theorem aQ:bZ Tryz.prog (aP []) ay k0 98 IW Ip [] (a,ak,())=FF k0 a ak:=Eq.trans (b:=T (L0 k0 k0 (K0 k0 (aA a ak))) a ak) (by kernel_rfl) (by rw[FF];(try simp only[aK,aS]);try rfl)
def _root_.Go.Rv.JO:=fun x:(List U7)×Int×Unit=>FF (300+x.1.length) x.1 x.2.1
abbrev _root_.Go.Rv.aaF:aG:=⟨IW,Ip,JO,[]⟩
theorem _root_.Go.Rv.aaf:aF Dr Tryz.prog 98 aaF:=dh mix .nil (by kernel_rfl) fun x=>⟨ay,_,aQ _ _ _⟩
end mF
def TT.T(a0:Int)(a1 a2:List U7)(ak:Int):Option (Int×U3):=(KA (a1,ak,())).bind fun y1=>(JO (a2,y1.1,())).bind fun y2=>some (y2.1,a0,y1.2.1,y2.2.1,())
def DJ:=fun x:Int×(List U7)×(List U7)×Int×Unit=>TT.T x.1 x.2.1 x.2.2.1 x.2.2.2.1
abbrev acj:aG:=⟨[.w true eU,.v false [CT.int .i64]],[(false,[CT.int .i64])],DJ,[]⟩
theorem abw:aF Dr Tryz.prog 47 acj:=aW mix (.c aaz (.c aaf .nil)) (by kernel_rfl) fun x=>by kernel_rfl
abbrev Jp:Is:=[.w false [CT.sl ct0],.v false [CT.int .i64]]
abbrev IK:Os:=[(false,[CT.int .i64])]
namespace mP
def ay:Nat→List Nat×List Nat:=fun k=>if k=2 then([0,1,5],[1])else([],[])
def zrc{R:Type}(k0:Nat)(p:List Nat):Env→List Ob→ai R→Option R:=bD Tryz.prog (aP []) 34 1 ay k0 (bQ p (cZ Tryz.prog 48))
def R0{R:Type}(nx0:uo R)(ex0:zh R)(kx i:Int)(a2:List U8):Option R:=cond (decide (i<(a2.length:Int))) (if 0≤i∧i<(a2.length:Int)then if 0≤i∧i<((a2.set i.toNat (kx,(a2.getD i.toNat (0,0,0,())).2.1,(a2.getD i.toNat (0,0,0,())).2.2.1,())).length:Int)then if 0≤i∧i<(((a2.set i.toNat (kx,(a2.getD i.toNat (0,0,0,())).2.1,(a2.getD i.toNat (0,0,0,())).2.2.1,())).set i.toNat (((a2.set i.toNat (kx,(a2.getD i.toNat (0,0,0,())).2.1,(a2.getD i.toNat (0,0,0,())).2.2.1,())).getD i.toNat (0,0,0,())).1,(af (kx+1)),((a2.set i.toNat (kx,(a2.getD i.toNat (0,0,0,())).2.1,(a2.getD i.toNat (0,0,0,())).2.2.1,())).getD i.toNat (0,0,0,())).2.2.1,())).length:Int)then nx0 (af ((af ((af (kx+1))+1))+1)) (af (i+1)) (((a2.set i.toNat (kx,(a2.getD i.toNat (0,0,0,())).2.1,(a2.getD i.toNat (0,0,0,())).2.2.1,())).set i.toNat (((a2.set i.toNat (kx,(a2.getD i.toNat (0,0,0,())).2.1,(a2.getD i.toNat (0,0,0,())).2.2.1,())).getD i.toNat (0,0,0,())).1,(af (kx+1)),((a2.set i.toNat (kx,(a2.getD i.toNat (0,0,0,())).2.1,(a2.getD i.toNat (0,0,0,())).2.2.1,())).getD i.toNat (0,0,0,())).2.2.1,())).set i.toNat ((((a2.set i.toNat (kx,(a2.getD i.toNat (0,0,0,())).2.1,(a2.getD i.toNat (0,0,0,())).2.2.1,())).set i.toNat (((a2.set i.toNat (kx,(a2.getD i.toNat (0,0,0,())).2.1,(a2.getD i.toNat (0,0,0,())).2.2.1,())).getD i.toNat (0,0,0,())).1,(af (kx+1)),((a2.set i.toNat (kx,(a2.getD i.toNat (0,0,0,())).2.1,(a2.getD i.toNat (0,0,0,())).2.2.1,())).getD i.toNat (0,0,0,())).2.2.1,())).getD i.toNat (0,0,0,())).1,(((a2.set i.toNat (kx,(a2.getD i.toNat (0,0,0,())).2.1,(a2.getD i.toNat (0,0,0,())).2.2.1,())).set i.toNat (((a2.set i.toNat (kx,(a2.getD i.toNat (0,0,0,())).2.1,(a2.getD i.toNat (0,0,0,())).2.2.1,())).getD i.toNat (0,0,0,())).1,(af (kx+1)),((a2.set i.toNat (kx,(a2.getD i.toNat (0,0,0,())).2.1,(a2.getD i.toNat (0,0,0,())).2.2.1,())).getD i.toNat (0,0,0,())).2.2.1,())).getD i.toNat (0,0,0,())).2.1,(af ((af (kx+1))+1)),()))else none else none else none) (ex0 kx a2)
def A0(a:List U8)(ak:Int)(kx:Int)(o0:List U8):Option (Int×(List U8)×Unit):=some (kx,o0,())
def T(lo0:uo (Int×(List U8)×Unit))(a:List U8)(ak:Int):Option (Int×(List U8)×Unit):=lo0 ak 0 a
def K0{R:Type}(k0:Nat)(K:ai R):ai R:=aY 0 (bg (fun env ob=>zrc k0 [1,1] env ob (K)) (K))
def L0:uo R:=fun kx i a2=>iter 1 [0,1,5] [1] (zrc k0 [1,0,1,0,0]) k [(0,.own 0),(1,.int .i64 kx),(5,.int .i64 i)] [.arr ct0 a2] K
def H0:zh R:=fun kx o0=>K (.exit 0) [(1,.int .i64 kx)] [.arr ct0 o0]
theorem zs0:L0 k0 (k+1) K=R0 (L0 k0 k K) (H0 K):=by kernel_rfl
def G0{R:Type}(k0:Nat)(hx0:zh R):Nat→uo R
 |0=>fun _ _ _=>none
 |k+1=>R0 (G0 k0 hx0 k) hx0
theorem aK:∀ k,L0 k0 k K=G0 k0 (H0 K) k:=bG rfl fun k ih=>by rw[zs0,G0];(try simp only[ih]);try rfl
variable (a:List U8) (ak:Int)
def aA:ai (Int×(List U8)×Unit):=bV Tryz.prog [.tmp 4] Jp IK (a,ak,())
theorem aS:H0 (K0 k0 (aA a ak))=A0 a ak:=by kernel_rfl
def FF:Option (Int×(List U8)×Unit):=T (G0 k0 (A0 a ak) k0) a ak
theorem aQ:bZ Tryz.prog (aP []) ay k0 48 Jp IK [] (a,ak,())=FF k0 a ak:=Eq.trans (b:=T (L0 k0 k0 (K0 k0 (aA a ak))) a ak) (by kernel_rfl) (by rw[FF];(try simp only[aK,aS]);try rfl)
def _root_.Go.Rv.Kz:=fun x:(List U8)×Int×Unit=>FF (300+x.1.length) x.1 x.2.1
abbrev _root_.Go.Rv.aa8:aG:=⟨Jp,IK,Kz,[]⟩
theorem _root_.Go.Rv.aay:aF Dr Tryz.prog 48 aa8:=dh mix .nil (by kernel_rfl) fun x=>⟨ay,_,aQ _ _ _⟩
end mP
def SI.T(a0 a1 a2 a3:Int)(a4 a5:List U7)(a6:List U8)(ak:Int):Option (Int×U1):=(DJ (a3,a4,a5,ak,())).bind fun y1=>(Kz (a6,y1.1,())).bind fun y2=>some (y2.1,a0,a1,a2,a3,y1.2.2.1,y1.2.2.2.1,y2.2.1,())
def Di:=fun x:Int×Int×Int×Int×(List U7)×(List U7)×(List U8)×Int×Unit=>SI.T x.1 x.2.1 x.2.2.1 x.2.2.2.1 x.2.2.2.2.1 x.2.2.2.2.2.1 x.2.2.2.2.2.2.1 x.2.2.2.2.2.2.2.1
abbrev aa7:aG:=⟨[.w true iK,.v false [CT.int .i64]],[(false,[CT.int .i64])],Di,[]⟩
theorem aax:aF Dr Tryz.prog 13 aa7:=aW mix (.c abw (.c aay .nil)) (by kernel_rfl) fun x=>by kernel_rfl
def Vq.T(a:List U5)(left:Int):Option (Int×Unit):=cond (decide ((af (left - (a.length:Int)))<0)) (some ((-1),())) (some ((af (left - (a.length:Int))),()))
def Eo:=fun x:(List U5)×Int×Unit=>Vq.T x.1 x.2.1
abbrev adt:aG:=⟨[.v false [CT.sl dJ],.v false [CT.int .i64]],[(false,[CT.int .i64])],Eo,[]⟩
theorem acX:aF Dr Tryz.prog 16 adt:=aW mix .nil (by kernel_rfl) fun x=>by kernel_rfl
def Td.T(n:Int):Option (Bool×Unit):=cond (decide (n≥1)) (some ((decide (n≤1000)),())) (some (false,()))
def Dn:=fun x:Int×Unit=>Td.T x.1
abbrev Sj:aG:=⟨[.v false [CT.int .i64]],[(false,[CT.bool])],Dn,[]⟩
theorem aaN:aF Dr Tryz.prog 57 Sj:=aW mix .nil (by kernel_rfl) fun x=>by kernel_rfl
def Vb.T(n:Int):Option (Bool×Unit):=cond (decide (n≥1)) (some ((decide (n≤1000000)),())) (some (false,()))
def kZ:=fun x:Int×Unit=>Vb.T x.1
abbrev Uy:aG:=⟨[.v false [CT.int .i64]],[(false,[CT.bool])],kZ,[]⟩
theorem zZ:aF Dr Tryz.prog 60 Uy:=aW mix .nil (by kernel_rfl) fun x=>by kernel_rfl
def Ui.T(n:Int):Option (Bool×Unit):=cond (decide (n≥0)) (some ((decide (n≤1125899906842624)),())) (some (false,()))
def dY:=fun x:Int×Unit=>Ui.T x.1
abbrev Tz:aG:=⟨[.v false [CT.int .i64]],[(false,[CT.bool])],dY,[]⟩
theorem wO:aF Dr Tryz.prog 61 Tz:=aW mix .nil (by kernel_rfl) fun x=>by kernel_rfl
def Tf.T(n:Int):Option (Bool×Unit):=cond (decide (n≥1)) (some ((decide (n≤1073741824)),())) (some (false,()))
def fZ:=fun x:Int×Unit=>Tf.T x.1
abbrev Sl:aG:=⟨[.v false [CT.int .i64]],[(false,[CT.bool])],fZ,[]⟩
theorem C9:aF Dr Tryz.prog 62 Sl:=aW mix .nil (by kernel_rfl) fun x=>by kernel_rfl
abbrev J9:Is:=[.v true eU,.v false [CT.int .i64]]
abbrev Ju:Os:=[(false,[CT.int .i64])]
namespace wX
def ay:Nat→List Nat×List Nat:=fun k=>if k=2 then([1,2,5],[4])else([],[])
def zrc{R:Type}(k0:Nat)(p:List Nat):Env→List Ob→ai R→Option R:=bD Tryz.prog (aP []) 22 0 ay k0 (bQ p (cZ Tryz.prog 64))
def R0{R:Type}(nx0:um R)(ex0:Y2 R)(ex1:dB R)(id2 i f:Int)(f3 f4:List U7):Option R:=cond (decide (i<(f3.length:Int))) (if 0≤i∧i<(f3.length:Int)then cond ((rd (0,0,0,0,()) f3 i).1==id2) (ex0 i) (nx0 id2 (af (i+1)) f f3 f4)else none) (ex1 ())
def A0(f0:Int)(f1 f2:List U7)(id:Int)(t4x:Int):Option (Int×Unit):=some (t4x,())
def A1(f0:Int)(f1 f2:List U7)(id:Int)(_u:Unit):Option (Int×Unit):=some ((-1),())
def T(lo0:um (Int×Unit))(f0:Int)(f1 f2:List U7)(id:Int):Option (Int×Unit):=lo0 id 0 f0 f1 f2
def K0{R:Type}(k0:Nat)(K:ai R):ai R:=aY 0 (bg (fun env ob=>zrc k0 [1,1] env ob (K)) (K))
def L0:um R:=fun id2 i f f3 f4=>iter 0 [1,2,5] [4] (zrc k0 [1,0,1,0,0]) k [(1,.int .i64 id2),(2,.ptr 0 0 0 0),(5,.int .i64 i)] [.box [.int .i64 f,.sl aC f3,.sl aC f4]] K
def H0:Y2 R:=fun t4x=>K .ret [(4,.int .i64 t4x)] []
def H1:dB R:=fun _=>K (.exit 0) [(4,.undef)] []
theorem zs0:L0 k0 (k+1) K=R0 (L0 k0 k K) (H0 K) (H1 K):=by kernel_rfl
def G0{R:Type}(k0:Nat)(hx0:Y2 R)(hx1:dB R):Nat→um R
 |0=>fun _ _ _ _ _=>none
 |k+1=>R0 (G0 k0 hx0 hx1 k) hx0 hx1
theorem aK:∀ k,L0 k0 k K=G0 k0 (H0 K) (H1 K) k:=bG rfl fun k ih=>by rw[zs0,G0];(try simp only[ih]);try rfl
variable (f0:Int) (f1 f2:List U7) (id:Int)
def aA:ai (Int×Unit):=bV Tryz.prog [.tmp 4] J9 Ju (f0,f1,f2,id,())
theorem aS:H0 (K0 k0 (aA f0 f1 f2 id))=A0 f0 f1 f2 id:=by kernel_rfl
theorem bW:H1 (K0 k0 (aA f0 f1 f2 id))=A1 f0 f1 f2 id:=by kernel_rfl
def FF:Option (Int×Unit):=T (G0 k0 (A0 f0 f1 f2 id) (A1 f0 f1 f2 id) k0) f0 f1 f2 id
theorem aQ:bZ Tryz.prog (aP []) ay k0 64 J9 Ju [] (f0,f1,f2,id,())=FF k0 f0 f1 f2 id:=Eq.trans (b:=T (L0 k0 k0 (K0 k0 (aA f0 f1 f2 id))) f0 f1 f2 id) (by kernel_rfl) (by rw[FF];(try simp only[aK,aS,bW]);try rfl)
def _root_.Go.Rv.jG:=fun x:Int×(List U7)×(List U7)×Int×Unit=>FF (300+x.2.1.length+x.2.2.1.length) x.1 x.2.1 x.2.2.1 x.2.2.2.1
abbrev _root_.Go.Rv.wP:aG:=⟨J9,Ju,jG,[]⟩
theorem _root_.Go.Rv.wM:aF Dr Tryz.prog 64 wP:=dh mix .nil (by kernel_rfl) fun x=>⟨ay,_,aQ _ _ _ _ _⟩
end wX
abbrev JD:Is:=[.v true eU]
abbrev Je:Os:=[(false,[CT.bool])]
namespace iG
def dF:Tb:=[(60,[],Uy),(61,[],Tz),(62,[],Sl),(64,[],wP)]
def ay:Nat→List Nat×List Nat:=fun k=>if k=4 then([1,3],[1,2])else if k=10 then([1,5],[2])else([],[])
def zrc{R:Type}(k0:Nat)(p:List Nat):Env→List Ob→ai R→Option R:=bD Tryz.prog (aP dF) 142 0 ay k0 (bQ p (cZ Tryz.prog 58))
def R0{R:Type}(nx0:uj R)(ex0:zf R)(ex1:yZ R)(i f:Int)(f3 f4:List U7):Option R:=cond (decide (i<(f3.length:Int))) (if 0≤i∧i<(f3.length:Int)then(kZ ((rd (0,0,0,0,()) f3 i).1,())).bind fun y1=>cond (!y1.1) (ex0 false f f3 f4) (cond (decide (i>0)) (if 0≤(af (i - 1))∧(af (i - 1))<(f3.length:Int)then cond (decide ((rd (0,0,0,0,()) f3 i).1≤(rd (0,0,0,0,()) f3 (af (i - 1))).1)) (ex0 false f f3 f4) (cond ((rd (0,0,0,0,()) f3 i).2.1 != 0) ((jG (f,f3,f4,(rd (0,0,0,0,()) f3 i).2.1,())).bind fun y2=>cond (decide (y2.1<0)) (ex0 false f f3 f4) (cond (decide ((rd (0,0,0,0,()) f3 i).2.1≥(rd (0,0,0,0,()) f3 i).1)) (ex0 false f f3 f4) ((dY ((rd (0,0,0,0,()) f3 i).2.2.1,())).bind fun y3=>cond (!y3.1) (ex0 false f f3 f4) ((fZ ((rd (0,0,0,0,()) f3 i).2.2.2.1,())).bind fun y4=>cond (!y4.1) (ex0 false f f3 f4) (nx0 (af (i+1)) f f3 f4))))) ((dY ((rd (0,0,0,0,()) f3 i).2.2.1,())).bind fun y5=>cond (!y5.1) (ex0 false f f3 f4) ((fZ ((rd (0,0,0,0,()) f3 i).2.2.2.1,())).bind fun y6=>cond (!y6.1) (ex0 false f f3 f4) (nx0 (af (i+1)) f f3 f4))))else none) (cond ((rd (0,0,0,0,()) f3 i).2.1 != 0) ((jG (f,f3,f4,(rd (0,0,0,0,()) f3 i).2.1,())).bind fun y7=>cond (decide (y7.1<0)) (ex0 false f f3 f4) (cond (decide ((rd (0,0,0,0,()) f3 i).2.1≥(rd (0,0,0,0,()) f3 i).1)) (ex0 false f f3 f4) ((dY ((rd (0,0,0,0,()) f3 i).2.2.1,())).bind fun y8=>cond (!y8.1) (ex0 false f f3 f4) ((fZ ((rd (0,0,0,0,()) f3 i).2.2.2.1,())).bind fun y9=>cond (!y9.1) (ex0 false f f3 f4) (nx0 (af (i+1)) f f3 f4))))) ((dY ((rd (0,0,0,0,()) f3 i).2.2.1,())).bind fun y10=>cond (!y10.1) (ex0 false f f3 f4) ((fZ ((rd (0,0,0,0,()) f3 i).2.2.2.1,())).bind fun y11=>cond (!y11.1) (ex0 false f f3 f4) (nx0 (af (i+1)) f f3 f4)))))else none) (ex1 f f3 f4)
def R1{R:Type}(nx1:uj R)(ex2:eX R)(ex3:dB R)(i f:Int)(f3 f4:List U7):Option R:=cond (decide (i<(f4.length:Int))) (if 0≤i∧i<(f4.length:Int)then(kZ ((rd (0,0,0,0,()) f4 i).1,())).bind fun y1=>cond (!y1.1) (ex2 false) (cond (decide (i>0)) (if 0≤(af (i - 1))∧(af (i - 1))<(f4.length:Int)then cond (decide ((rd (0,0,0,0,()) f4 i).1≤(rd (0,0,0,0,()) f4 (af (i - 1))).1)) (ex2 false) (cond ((rd (0,0,0,0,()) f4 i).2.1 != 0) ((jG (f,f3,f4,(rd (0,0,0,0,()) f4 i).2.1,())).bind fun y2=>cond (decide (y2.1<0)) (ex2 false) ((dY ((rd (0,0,0,0,()) f4 i).2.2.1,())).bind fun y3=>cond (!y3.1) (ex2 false) ((fZ ((rd (0,0,0,0,()) f4 i).2.2.2.1,())).bind fun y4=>cond (!y4.1) (ex2 false) (nx1 (af (i+1)) f f3 f4)))) ((dY ((rd (0,0,0,0,()) f4 i).2.2.1,())).bind fun y5=>cond (!y5.1) (ex2 false) ((fZ ((rd (0,0,0,0,()) f4 i).2.2.2.1,())).bind fun y6=>cond (!y6.1) (ex2 false) (nx1 (af (i+1)) f f3 f4))))else none) (cond ((rd (0,0,0,0,()) f4 i).2.1 != 0) ((jG (f,f3,f4,(rd (0,0,0,0,()) f4 i).2.1,())).bind fun y7=>cond (decide (y7.1<0)) (ex2 false) ((dY ((rd (0,0,0,0,()) f4 i).2.2.1,())).bind fun y8=>cond (!y8.1) (ex2 false) ((fZ ((rd (0,0,0,0,()) f4 i).2.2.2.1,())).bind fun y9=>cond (!y9.1) (ex2 false) (nx1 (af (i+1)) f f3 f4)))) ((dY ((rd (0,0,0,0,()) f4 i).2.2.1,())).bind fun y10=>cond (!y10.1) (ex2 false) ((fZ ((rd (0,0,0,0,()) f4 i).2.2.2.1,())).bind fun y11=>cond (!y11.1) (ex2 false) (nx1 (af (i+1)) f f3 f4)))))else none) (ex3 ())
def A0(f0:Int)(f1 f2:List U7)(t2x:Bool)(f:Int)(f3 f4:List U7):Option (Bool×Unit):=some (t2x,())
def A1(lo1:uj (Bool×Unit))(f0:Int)(f1 f2:List U7)(f:Int)(f3 f4:List U7):Option (Bool×Unit):=lo1 0 f f3 f4
def A2(f0:Int)(f1 f2:List U7)(t2x:Bool):Option (Bool×Unit):=some (t2x,())
def A3(f0:Int)(f1 f2:List U7)(_u:Unit):Option (Bool×Unit):=some (true,())
def T(lo0:uj (Bool×Unit))(f0:Int)(f1 f2:List U7):Option (Bool×Unit):=(dY (f0,())).bind fun y1=>cond (!y1.1) (some (false,())) (cond (decide ((f1.length:Int)>30)) (some (false,())) (cond (decide ((f2.length:Int)>60)) (some (false,())) (lo0 0 f0 f1 f2)))
def K0{R:Type}(k0:Nat)(K:ai R):ai R:=aY 0 (bg (fun env ob=>zrc k0 [1,1,1] env ob (K)) (K))
def K1{R:Type}(k0:Nat)(K:ai R):ai R:=aY 2 (bg (fun env ob=>zrc k0 [1,1,1,1] env ob (K)) (K))
def L0:uj R:=fun i f f3 f4=>iter 0 [1,3] [1,2] (zrc k0 [1,1,0,1,0,0]) k [(1,.ptr 0 0 0 0),(3,.int .i64 i)] [.box [.int .i64 f,.sl aC f3,.sl aC f4]] K
def L1:uj R:=fun i f f3 f4=>iter 0 [1,5] [2] (zrc k0 [1,1,1,0,1,0,0]) k [(1,.ptr 0 0 0 0),(5,.int .i64 i)] [.box [.int .i64 f,.sl aC f3,.sl aC f4]] K
def H0:zf R:=fun t2x f f3 f4=>K .ret [(1,.ptr 0 0 0 0),(2,.bool t2x)] [.box [.int .i64 f,.sl aC f3,.sl aC f4]]
def H1:yZ R:=fun f f3 f4=>K (.exit 0) [(1,.ptr 0 0 0 0),(2,.undef)] [.box [.int .i64 f,.sl aC f3,.sl aC f4]]
def H2:eX R:=fun t2x=>K .ret [(2,.bool t2x)] []
def H3:dB R:=fun _=>K (.exit 2) [(2,.undef)] []
theorem zs0:L0 k0 (k+1) K=R0 (L0 k0 k K) (H0 K) (H1 K):=by kernel_rfl
theorem zs1:L1 k0 (k+1) K=R1 (L1 k0 k K) (H2 K) (H3 K):=by kernel_rfl
def G0{R:Type}(k0:Nat)(hx0:zf R)(hx1:yZ R):Nat→uj R
 |0=>fun _ _ _ _=>none
 |k+1=>R0 (G0 k0 hx0 hx1 k) hx0 hx1
theorem aK:∀ k,L0 k0 k K=G0 k0 (H0 K) (H1 K) k:=bG rfl fun k ih=>by rw[zs0,G0];(try simp only[ih]);try rfl
def G1{R:Type}(k0:Nat)(hx2:eX R)(hx3:dB R):Nat→uj R
 |0=>fun _ _ _ _=>none
 |k+1=>R1 (G1 k0 hx2 hx3 k) hx2 hx3
theorem dO:∀ k,L1 k0 k K=G1 k0 (H2 K) (H3 K) k:=bG rfl fun k ih=>by rw[zs1,G1];(try simp only[ih,aK]);try rfl
variable (f0:Int) (f1 f2:List U7)
def aA:ai (Bool×Unit):=bV Tryz.prog [.tmp 2] JD Je (f0,f1,f2,())
theorem aS:H0 (K0 k0 (aA f0 f1 f2))=A0 f0 f1 f2:=by kernel_rfl
theorem bW:H1 (K0 k0 (aA f0 f1 f2))=A1 (L1 k0 k0 (K1 k0 (aA f0 f1 f2))) f0 f1 f2:=by kernel_rfl
theorem l9:H2 (K1 k0 (aA f0 f1 f2))=A2 f0 f1 f2:=by kernel_rfl
theorem rq:H3 (K1 k0 (aA f0 f1 f2))=A3 f0 f1 f2:=by kernel_rfl
def FF:Option (Bool×Unit):=T (G0 k0 (A0 f0 f1 f2) (A1 (G1 k0 (A2 f0 f1 f2) (A3 f0 f1 f2) k0) f0 f1 f2) k0) f0 f1 f2
theorem aQ:bZ Tryz.prog (aP dF) ay k0 58 JD Je [] (f0,f1,f2,())=FF k0 f0 f1 f2:=Eq.trans (b:=T (L0 k0 k0 (K0 k0 (aA f0 f1 f2))) f0 f1 f2) (by kernel_rfl) (by rw[FF];(try simp only[aK,dO,aS,bW,l9,rq]);try rfl)
def _root_.Go.Rv.zF:=fun x:U3=>FF (300+x.2.1.length+x.2.2.1.length) x.1 x.2.1 x.2.2.1
abbrev _root_.Go.Rv.Dl:aG:=⟨JD,Je,zF,[]⟩
theorem _root_.Go.Rv.J6:aF Dr Tryz.prog 58 Dl:=dh mix (.c zZ (.c wO (.c C9 (.c wM .nil)))) (by kernel_rfl) fun x=>⟨ay,_,aQ _ _ _ _⟩
end iG
def Ug.T(n:Int):Option (Bool×Unit):=cond (decide (n≥0)) (some ((decide (n≤1000000)),())) (some (false,()))
def DV:=fun x:Int×Unit=>Ug.T x.1
abbrev acH:aG:=⟨[.v false [CT.int .i64]],[(false,[CT.bool])],DV,[]⟩
theorem abO:aF Dr Tryz.prog 129 acH:=aW mix .nil (by kernel_rfl) fun x=>by kernel_rfl
def TJ.T(l0 l1 l2:Int):Option (Bool×Unit):=(kZ (l0,())).bind fun y1=>cond y1.1 ((dY (l1,())).bind fun y2=>cond y2.1 ((DV (l2,())).bind fun y3=>some (y3.1,())) (some (false,()))) (some (false,()))
def zO:=fun x:U8=>TJ.T x.1 x.2.1 x.2.2.1
abbrev zN:aG:=⟨[.v true ct0],[(false,[CT.bool])],zO,[]⟩
theorem RV:aF Dr Tryz.prog 101 zN:=aW mix (.c zZ (.c wO (.c abO .nil))) (by kernel_rfl) fun x=>by kernel_rfl
abbrev IU:Is:=[.v false [CT.sl ct0]]
abbrev Il:Os:=[(false,[CT.bool])]
namespace kD
def ay:Nat→List Nat×List Nat:=fun k=>if k=4 then([0,3],[2])else([],[])
def zrc{R:Type}(k0:Nat)(p:List Nat):Env→List Ob→ai R→Option R:=bD Tryz.prog (aP [(101,[],zN)]) 37 0 ay k0 (bQ p (cZ Tryz.prog 59))
def R0{R:Type}(nx0:GR R)(ex0:eX R)(ex1:dB R)(list2:List U8)(i:Int):Option R:=cond (decide (i<(list2.length:Int))) (if 0≤i∧i<(list2.length:Int)then(zO ((rd (0,0,0,()) list2 i).1,(rd (0,0,0,()) list2 i).2.1,(rd (0,0,0,()) list2 i).2.2.1,())).bind fun y1=>cond (!y1.1) (ex0 false) (cond (decide (i>0)) (if 0≤i∧i<(list2.length:Int)then if 0≤(af (i - 1))∧(af (i - 1))<(list2.length:Int)then cond (decide ((rd (0,0,0,()) list2 i).1≤(rd (0,0,0,()) list2 (af (i - 1))).1)) (ex0 false) (nx0 list2 (af (i+1)))else none else none) (nx0 list2 (af (i+1))))else none) (ex1 ())
def A0(list:List U8)(t2x:Bool):Option (Bool×Unit):=some (t2x,())
def A1(list:List U8)(_u:Unit):Option (Bool×Unit):=some (true,())
def T(lo0:GR (Bool×Unit))(list:List U8):Option (Bool×Unit):=cond (decide ((list.length:Int)>60)) (some (false,())) (lo0 list 0)
def K0{R:Type}(k0:Nat)(K:ai R):ai R:=aY 0 (bg (fun env ob=>zrc k0 [1,1,1] env ob (K)) (K))
def L0:GR R:=fun list2 i=>iter 0 [0,3] [2] (zrc k0 [1,1,0,1,0,0]) k [(0,.sl ct0 list2),(3,.int .i64 i)] [] K
def H0:eX R:=fun t2x=>K .ret [(2,.bool t2x)] []
def H1:dB R:=fun _=>K (.exit 0) [(2,.undef)] []
theorem zs0:L0 k0 (k+1) K=R0 (L0 k0 k K) (H0 K) (H1 K):=by kernel_rfl
def G0{R:Type}(k0:Nat)(hx0:eX R)(hx1:dB R):Nat→GR R
 |0=>fun _ _=>none
 |k+1=>R0 (G0 k0 hx0 hx1 k) hx0 hx1
theorem aK:∀ k,L0 k0 k K=G0 k0 (H0 K) (H1 K) k:=bG rfl fun k ih=>by rw[zs0,G0];(try simp only[ih]);try rfl
variable (list:List U8)
def aA:ai (Bool×Unit):=bV Tryz.prog [.tmp 2] IU Il (list,())
theorem aS:H0 (K0 k0 (aA list))=A0 list:=by kernel_rfl
theorem bW:H1 (K0 k0 (aA list))=A1 list:=by kernel_rfl
def FF:Option (Bool×Unit):=T (G0 k0 (A0 list) (A1 list) k0) list
theorem aQ:bZ Tryz.prog (aP [(101,[],zN)]) ay k0 59 IU Il [] (list,())=FF k0 list:=Eq.trans (b:=T (L0 k0 k0 (K0 k0 (aA list))) list) (by kernel_rfl) (by rw[FF];(try simp only[aK,aS,bW]);try rfl)
def _root_.Go.Rv.wI:=fun x:(List U8)×Unit=>FF (300+x.1.length) x.1
abbrev _root_.Go.Rv.wH:aG:=⟨IU,Il,wI,[]⟩
theorem _root_.Go.Rv.CP:aF Dr Tryz.prog 59 wH:=dh mix (.c RV .nil) (by kernel_rfl) fun x=>⟨ay,_,aQ _ _⟩
end kD
abbrev IQ:Is:=[.v true iK]
abbrev Ik:Os:=[(false,[CT.bool])]
namespace kC
def dF:Tb:=[(57,[],Sj),(58,[],Dl),(59,[],wH)]
def ay:Nat→List Nat×List Nat:=fun k=>if k=4 then([1,3],[2])else([],[])
def zrc{R:Type}(k0:Nat)(p:List Nat):Env→List Ob→ai R→Option R:=bD Tryz.prog (aP dF) 93 0 ay k0 (bQ p (cZ Tryz.prog 30))
def R0{R:Type}(nx0:GN R)(ex0:eX R)(ex1:dB R)(i s s7 s8 s9:Int)(s10 s11:List U7)(s12:List U8):Option R:=cond (decide (i<(s12.length:Int))) (if 0≤i∧i<(s12.length:Int)then if 0≤i∧i<(s11.length:Int)then cond ((rd (0,0,0,()) s12 i).1 != (rd (0,0,0,0,()) s11 i).1) (ex0 false) (if 0≤i∧i<(s12.length:Int)then cond (decide ((rd (0,0,0,()) s12 i).2.2.1≤s8)) (ex0 false) (if 0≤i∧i<(s12.length:Int)then cond (decide ((rd (0,0,0,()) s12 i).2.2.1>(af (s8+s)))) (ex0 false) (nx0 (af (i+1)) s s7 s8 s9 s10 s11 s12)else none)else none)else none else none) (ex1 ())
def A0(s0 s1 s2 s3:Int)(s4 s5:List U7)(s6:List U8)(t2x:Bool):Option (Bool×Unit):=some (t2x,())
def A1(s0 s1 s2 s3:Int)(s4 s5:List U7)(s6:List U8)(_u:Unit):Option (Bool×Unit):=some (true,())
def T(lo0:GN (Bool×Unit))(s0 s1 s2 s3:Int)(s4 s5:List U7)(s6:List U8):Option (Bool×Unit):=(Dn (s0,())).bind fun y1=>cond (!y1.1) (some (false,())) (cond (decide (s1<0)) (some (false,())) (cond (decide (s1>s2)) (some (false,())) (cond (decide (s2>999000)) (some (false,())) ((zF (s3,s4,s5,())).bind fun y2=>cond (!y2.1) (some (false,())) ((wI (s6,())).bind fun y3=>cond (!y3.1) (some (false,())) (cond ((s6.length:Int) != (s5.length:Int)) (some (false,())) (lo0 0 s0 s1 s2 s3 s4 s5 s6)))))))
def K0{R:Type}(k0:Nat)(K:ai R):ai R:=aY 0 (bg (fun env ob=>zrc k0 [1,1,1] env ob (K)) (K))
def L0:GN R:=fun i s s7 s8 s9 s10 s11 s12=>iter 0 [1,3] [2] (zrc k0 [1,1,0,1,0,0]) k [(1,.ptr 0 0 0 0),(3,.int .i64 i)] [.box [.int .i64 s,.int .i64 s7,.int .i64 s8,.int .i64 s9,.sl aC s10,.sl aC s11,.sl ct0 s12]] K
def H0:eX R:=fun t2x=>K .ret [(2,.bool t2x)] []
def H1:dB R:=fun _=>K (.exit 0) [(2,.undef)] []
theorem zs0:L0 k0 (k+1) K=R0 (L0 k0 k K) (H0 K) (H1 K):=by kernel_rfl
def G0{R:Type}(k0:Nat)(hx0:eX R)(hx1:dB R):Nat→GN R
 |0=>fun _ _ _ _ _ _ _ _=>none
 |k+1=>R0 (G0 k0 hx0 hx1 k) hx0 hx1
theorem aK:∀ k,L0 k0 k K=G0 k0 (H0 K) (H1 K) k:=bG rfl fun k ih=>by rw[zs0,G0];(try simp only[ih]);try rfl
variable (s0 s1 s2 s3:Int) (s4 s5:List U7) (s6:List U8)
def aA:ai (Bool×Unit):=bV Tryz.prog [.tmp 2] IQ Ik (s0,s1,s2,s3,s4,s5,s6,())
theorem aS:H0 (K0 k0 (aA s0 s1 s2 s3 s4 s5 s6))=A0 s0 s1 s2 s3 s4 s5 s6:=by kernel_rfl
theorem bW:H1 (K0 k0 (aA s0 s1 s2 s3 s4 s5 s6))=A1 s0 s1 s2 s3 s4 s5 s6:=by kernel_rfl
def FF:Option (Bool×Unit):=T (G0 k0 (A0 s0 s1 s2 s3 s4 s5 s6) (A1 s0 s1 s2 s3 s4 s5 s6) k0) s0 s1 s2 s3 s4 s5 s6
theorem aQ:bZ Tryz.prog (aP dF) ay k0 30 IQ Ik [] (s0,s1,s2,s3,s4,s5,s6,())=FF k0 s0 s1 s2 s3 s4 s5 s6:=Eq.trans (b:=T (L0 k0 k0 (K0 k0 (aA s0 s1 s2 s3 s4 s5 s6))) s0 s1 s2 s3 s4 s5 s6) (by kernel_rfl) (by rw[FF];(try simp only[aK,aS,bW]);try rfl)
def _root_.Go.Rv.CV:=fun x:U1=>FF (300+x.2.2.2.2.1.length+x.2.2.2.2.2.1.length+x.2.2.2.2.2.2.1.length) x.1 x.2.1 x.2.2.1 x.2.2.2.1 x.2.2.2.2.1 x.2.2.2.2.2.1 x.2.2.2.2.2.2.1
abbrev _root_.Go.Rv.Rz:aG:=⟨IQ,Ik,CV,[]⟩
theorem _root_.Go.Rv.Rn:aF Dr Tryz.prog 30 Rz:=dh mix (.c aaN (.c J6 (.c CP .nil))) (by kernel_rfl) fun x=>⟨ay,_,aQ _ _ _ _ _ _ _ _⟩
end kC
def adb.T(o0 o1 o2 o3 o4:Int):Option (U5):=cond (o0==3) (some (8,o1,o2,o3,o4,())) (cond (o0==6) (some (6,o1,o2,o3,o4,())) (cond (o0==7) (some (7,o1,o2,o3,o4,())) (some (0,o1,o2,o3,o4,()))))
def oZ:=fun x:U5=>adb.T x.1 x.2.1 x.2.2.1 x.2.2.2.1 x.2.2.2.2.1
abbrev Tv:aG:=⟨[.v true dJ],[(true,dJ)],oZ,[]⟩
theorem SB:aF Dr Tryz.prog 37 Tv:=aW mix .nil (by kernel_rfl) fun x=>by kernel_rfl
def zT.T(e0 e1 e2 e3 e4:Int):Option (Bool×Unit):=(kZ (e1,())).bind fun y1=>cond (!y1.1) (cond (e0==8) (cond (!(e1==0)) (some (false,())) (cond (e2 != 0) ((kZ (e2,())).bind fun y2=>cond (!y2.1) (some (false,())) (cond (e0==1) ((dY (e3,())).bind fun y3=>cond y3.1 ((fZ (e4,())).bind fun y4=>some (y4.1,())) (some (false,()))) (cond (e0==6) ((dY (e3,())).bind fun y5=>cond y5.1 ((fZ (e4,())).bind fun y6=>some (y6.1,())) (some (false,()))) (cond (e0==2) (cond (e2==0) (cond (e3==0) (some ((e4==0),())) (some (false,()))) (some (false,()))) (cond (e0==7) (cond (e2==0) (cond (e3==0) (some ((e4==0),())) (some (false,()))) (some (false,()))) (cond (e0==3) (cond (e2==0) ((dY (e3,())).bind fun y7=>cond y7.1 (some ((e4==0),())) (some (false,()))) (some (false,()))) (cond (e0==8) (cond (e2==0) ((dY (e3,())).bind fun y8=>cond y8.1 (some ((e4==0),())) (some (false,()))) (some (false,()))) (cond (e0==4) (cond (e2==0) ((fZ (e3,())).bind fun y9=>cond y9.1 (some ((e4==0),())) (some (false,()))) (some (false,()))) (cond (e0==5) (cond (e3==0) (some ((e4==0),())) (some (false,()))) (some (false,()))))))))))) (cond (e0==1) ((dY (e3,())).bind fun y10=>cond y10.1 ((fZ (e4,())).bind fun y11=>some (y11.1,())) (some (false,()))) (cond (e0==6) ((dY (e3,())).bind fun y12=>cond y12.1 ((fZ (e4,())).bind fun y13=>some (y13.1,())) (some (false,()))) (cond (e0==2) (cond (e2==0) (cond (e3==0) (some ((e4==0),())) (some (false,()))) (some (false,()))) (cond (e0==7) (cond (e2==0) (cond (e3==0) (some ((e4==0),())) (some (false,()))) (some (false,()))) (cond (e0==3) (cond (e2==0) ((dY (e3,())).bind fun y14=>cond y14.1 (some ((e4==0),())) (some (false,()))) (some (false,()))) (cond (e0==8) (cond (e2==0) ((dY (e3,())).bind fun y15=>cond y15.1 (some ((e4==0),())) (some (false,()))) (some (false,()))) (cond (e0==4) (cond (e2==0) ((fZ (e3,())).bind fun y16=>cond y16.1 (some ((e4==0),())) (some (false,()))) (some (false,()))) (cond (e0==5) (cond (e3==0) (some ((e4==0),())) (some (false,()))) (some (false,())))))))))))) (some (false,()))) (cond (e2 != 0) ((kZ (e2,())).bind fun y17=>cond (!y17.1) (some (false,())) (cond (e0==1) ((dY (e3,())).bind fun y18=>cond y18.1 ((fZ (e4,())).bind fun y19=>some (y19.1,())) (some (false,()))) (cond (e0==6) ((dY (e3,())).bind fun y20=>cond y20.1 ((fZ (e4,())).bind fun y21=>some (y21.1,())) (some (false,()))) (cond (e0==2) (cond (e2==0) (cond (e3==0) (some ((e4==0),())) (some (false,()))) (some (false,()))) (cond (e0==7) (cond (e2==0) (cond (e3==0) (some ((e4==0),())) (some (false,()))) (some (false,()))) (cond (e0==3) (cond (e2==0) ((dY (e3,())).bind fun y22=>cond y22.1 (some ((e4==0),())) (some (false,()))) (some (false,()))) (cond (e0==8) (cond (e2==0) ((dY (e3,())).bind fun y23=>cond y23.1 (some ((e4==0),())) (some (false,()))) (some (false,()))) (cond (e0==4) (cond (e2==0) ((fZ (e3,())).bind fun y24=>cond y24.1 (some ((e4==0),())) (some (false,()))) (some (false,()))) (cond (e0==5) (cond (e3==0) (some ((e4==0),())) (some (false,()))) (some (false,()))))))))))) (cond (e0==1) ((dY (e3,())).bind fun y25=>cond y25.1 ((fZ (e4,())).bind fun y26=>some (y26.1,())) (some (false,()))) (cond (e0==6) ((dY (e3,())).bind fun y27=>cond y27.1 ((fZ (e4,())).bind fun y28=>some (y28.1,())) (some (false,()))) (cond (e0==2) (cond (e2==0) (cond (e3==0) (some ((e4==0),())) (some (false,()))) (some (false,()))) (cond (e0==7) (cond (e2==0) (cond (e3==0) (some ((e4==0),())) (some (false,()))) (some (false,()))) (cond (e0==3) (cond (e2==0) ((dY (e3,())).bind fun y29=>cond y29.1 (some ((e4==0),())) (some (false,()))) (some (false,()))) (cond (e0==8) (cond (e2==0) ((dY (e3,())).bind fun y30=>cond y30.1 (some ((e4==0),())) (some (false,()))) (some (false,()))) (cond (e0==4) (cond (e2==0) ((fZ (e3,())).bind fun y31=>cond y31.1 (some ((e4==0),())) (some (false,()))) (some (false,()))) (cond (e0==5) (cond (e3==0) (some ((e4==0),())) (some (false,()))) (some (false,())))))))))))
def jF:=fun x:U5=>zT.T x.1 x.2.1 x.2.2.1 x.2.2.2.1 x.2.2.2.2.1
abbrev abH:aG:=⟨[.v true dJ],[(false,[CT.bool])],jF,[]⟩
theorem RH:aF Dr Tryz.prog 63 abH:=aW mix (.c zZ (.c wO (.c C9 .nil))) (by kernel_rfl) fun x=>by kernel_rfl
def Va.T(o0 o1 o2 o3 o4:Int):Option (Bool×Unit):=cond (o0==1) ((kZ (o1,())).bind fun y1=>cond y1.1 (cond (o2==0) ((dY (o3,())).bind fun y2=>cond y2.1 ((fZ (o4,())).bind fun y3=>some (y3.1,())) (some (false,()))) ((kZ (o2,())).bind fun y4=>cond y4.1 ((dY (o3,())).bind fun y5=>cond y5.1 ((fZ (o4,())).bind fun y6=>some (y6.1,())) (some (false,()))) (some (false,())))) (some (false,()))) (cond (o0==2) ((kZ (o1,())).bind fun y7=>cond y7.1 (cond (o2==0) (cond (o3==0) (some ((o4==0),())) (some (false,()))) (some (false,()))) (some (false,()))) (cond (o0==4) (cond (o1==0) (cond (o2==0) (cond (o3==0) (some ((o4==0),())) (some (false,()))) (some (false,()))) (some (false,()))) (cond (o0==5) (cond (o1==0) (cond (o2==0) (cond (o3==0) (some ((o4==0),())) (some (false,()))) (some (false,()))) (some (false,()))) (cond (o0==6) ((oZ (o0,o1,o2,o3,o4,())).bind fun y8=>(jF (y8.1,y8.2.1,y8.2.2.1,y8.2.2.2.1,y8.2.2.2.2.1,())).bind fun y9=>cond y9.1 (some ((decide (o2<o1)),())) (some (false,()))) (cond (o0==3) ((oZ (o0,o1,o2,o3,o4,())).bind fun y10=>(jF (y10.1,y10.2.1,y10.2.2.1,y10.2.2.2.1,y10.2.2.2.2.1,())).bind fun y11=>some (y11.1,())) (cond (o0==7) ((oZ (o0,o1,o2,o3,o4,())).bind fun y12=>(jF (y12.1,y12.2.1,y12.2.2.1,y12.2.2.2.1,y12.2.2.2.2.1,())).bind fun y13=>some (y13.1,())) (some (false,()))))))))
def En:=fun x:U5=>Va.T x.1 x.2.1 x.2.2.1 x.2.2.2.1 x.2.2.2.2.1
abbrev Ux:aG:=⟨[.v true dJ],[(false,[CT.bool])],En,[]⟩
theorem acV:aF Dr Tryz.prog 31 Ux:=aW mix (.c SB (.c zZ (.c wO (.c C9 (.c RH .nil))))) (by kernel_rfl) fun x=>by kernel_rfl
def acR.T(code:Int):Option (U0):=some (0,0,0,0,[],[],[],0,0,code,())
def lS:=fun x:Int×Unit=>acR.T x.1
abbrev LM:aG:=⟨[.v false [CT.int .i64]],[(true,QA)],lS,[]⟩
theorem RU:aF Dr Tryz.prog 32 LM:=aW mix .nil (by kernel_rfl) fun x=>by kernel_rfl
abbrev JC:Is:=[.v true eU,.v false [CT.int .i64]]
abbrev Jd:Os:=[(false,[CT.int .i64])]
namespace wR
def ay:Nat→List Nat×List Nat:=fun k=>if k=2 then([1,2,5],[4])else([],[])
def zrc{R:Type}(k0:Nat)(p:List Nat):Env→List Ob→ai R→Option R:=bD Tryz.prog (aP []) 22 0 ay k0 (bQ p (cZ Tryz.prog 34))
def R0{R:Type}(nx0:um R)(ex0:Y2 R)(ex1:dB R)(id2 i f:Int)(f3 f4:List U7):Option R:=cond (decide (i<(f4.length:Int))) (if 0≤i∧i<(f4.length:Int)then cond ((rd (0,0,0,0,()) f4 i).1==id2) (ex0 i) (nx0 id2 (af (i+1)) f f3 f4)else none) (ex1 ())
def A0(f0:Int)(f1 f2:List U7)(id:Int)(t4x:Int):Option (Int×Unit):=some (t4x,())
def A1(f0:Int)(f1 f2:List U7)(id:Int)(_u:Unit):Option (Int×Unit):=some ((-1),())
def T(lo0:um (Int×Unit))(f0:Int)(f1 f2:List U7)(id:Int):Option (Int×Unit):=lo0 id 0 f0 f1 f2
def K0{R:Type}(k0:Nat)(K:ai R):ai R:=aY 0 (bg (fun env ob=>zrc k0 [1,1] env ob (K)) (K))
def L0:um R:=fun id2 i f f3 f4=>iter 0 [1,2,5] [4] (zrc k0 [1,0,1,0,0]) k [(1,.int .i64 id2),(2,.ptr 0 0 0 0),(5,.int .i64 i)] [.box [.int .i64 f,.sl aC f3,.sl aC f4]] K
def H0:Y2 R:=fun t4x=>K .ret [(4,.int .i64 t4x)] []
def H1:dB R:=fun _=>K (.exit 0) [(4,.undef)] []
theorem zs0:L0 k0 (k+1) K=R0 (L0 k0 k K) (H0 K) (H1 K):=by kernel_rfl
def G0{R:Type}(k0:Nat)(hx0:Y2 R)(hx1:dB R):Nat→um R
 |0=>fun _ _ _ _ _=>none
 |k+1=>R0 (G0 k0 hx0 hx1 k) hx0 hx1
theorem aK:∀ k,L0 k0 k K=G0 k0 (H0 K) (H1 K) k:=bG rfl fun k ih=>by rw[zs0,G0];(try simp only[ih]);try rfl
variable (f0:Int) (f1 f2:List U7) (id:Int)
def aA:ai (Int×Unit):=bV Tryz.prog [.tmp 4] JC Jd (f0,f1,f2,id,())
theorem aS:H0 (K0 k0 (aA f0 f1 f2 id))=A0 f0 f1 f2 id:=by kernel_rfl
theorem bW:H1 (K0 k0 (aA f0 f1 f2 id))=A1 f0 f1 f2 id:=by kernel_rfl
def FF:Option (Int×Unit):=T (G0 k0 (A0 f0 f1 f2 id) (A1 f0 f1 f2 id) k0) f0 f1 f2 id
theorem aQ:bZ Tryz.prog (aP []) ay k0 34 JC Jd [] (f0,f1,f2,id,())=FF k0 f0 f1 f2 id:=Eq.trans (b:=T (L0 k0 k0 (K0 k0 (aA f0 f1 f2 id))) f0 f1 f2 id) (by kernel_rfl) (by rw[FF];(try simp only[aK,aS,bW]);try rfl)
def _root_.Go.Rv.qy:=fun x:Int×(List U7)×(List U7)×Int×Unit=>FF (300+x.2.1.length+x.2.2.1.length) x.1 x.2.1 x.2.2.1 x.2.2.2.1
abbrev _root_.Go.Rv.Dk:aG:=⟨JC,Jd,qy,[]⟩
theorem _root_.Go.Rv.CZ:aF Dr Tryz.prog 34 Dk:=dh mix .nil (by kernel_rfl) fun x=>⟨ay,_,aQ _ _ _ _ _⟩
end wR
def acS.T(code:Int):Option (U2):=some (0,[],[],0,code,())
def ji:=fun x:Int×Unit=>acS.T x.1
abbrev Dx:aG:=⟨[.v false [CT.int .i64]],[(true,BM)],ji,[]⟩
theorem Dj:aF Dr Tryz.prog 70 Dx:=aW mix .nil (by kernel_rfl) fun x=>by kernel_rfl
def Uh.T(f0:Int)(f1 f2:List U7):Option (U3):=if([]:List U7).length+f1.length≤maxRow then if([]:List U7).length+f2.length≤maxRow then some (f0,(([]:List U7)++f1),(([]:List U7)++f2),())else none else none
def o9:=fun x:U3=>Uh.T x.1 x.2.1 x.2.2.1
abbrev DU:aG:=⟨[.v true eU],[(true,eU)],o9,[]⟩
theorem zM:aF Dr Tryz.prog 71 DU:=aW mix .nil (by kernel_rfl) fun x=>by kernel_rfl
abbrev KJ:Is:=[.v true eU,.v true dJ]
abbrev JU:Os:=[(true,BM)]
namespace kF
def dF:Tb:=[(34,[],Dk),(64,[],wP),(70,[],Dx),(71,[],DU)]
def ay:Nat→List Nat×List Nat:=fun k=>if k=11 then([2,3,4,5,6,7],[3,4,5,6])else([],[])
def zrc{R:Type}(k0:Nat)(p:List Nat):Env→List Ob→ai R→Option R:=bD Tryz.prog (aP dF) 96 0 ay k0 (bQ p (cZ Tryz.prog 72))
def R0{R:Type}(nx0:ug R)(ex0:yY R)(done:Bool)(i f:Int)(f3 f4:List U7)(e e5 e6 e7 e8 t4x t4x2 t4x3 out:Int)(o4 o5:List U7):Option R:=cond (decide (i<(f4.length:Int))) (cond (!done) (if 0≤i∧i<(f4.length:Int)then cond (decide ((rd (0,0,0,0,()) f4 i).1>e5)) (if o5.length+[(e5,e6,e7,e8,())].length≤maxRow then if 0≤i∧i<(f4.length:Int)then if(o5++[(e5,e6,e7,e8,())]).length+[((rd (0,0,0,0,()) f4 i).1,(rd (0,0,0,0,()) f4 i).2.1,(rd (0,0,0,0,()) f4 i).2.2.1,(rd (0,0,0,0,()) f4 i).2.2.2.1,())].length≤maxRow then nx0 true (af (i+1)) f f3 f4 e e5 e6 e7 e8 t4x t4x2 t4x3 out o4 ((o5++[(e5,e6,e7,e8,())])++[((rd (0,0,0,0,()) f4 i).1,(rd (0,0,0,0,()) f4 i).2.1,(rd (0,0,0,0,()) f4 i).2.2.1,(rd (0,0,0,0,()) f4 i).2.2.2.1,())])else none else none else none) (if 0≤i∧i<(f4.length:Int)then if o5.length+[((rd (0,0,0,0,()) f4 i).1,(rd (0,0,0,0,()) f4 i).2.1,(rd (0,0,0,0,()) f4 i).2.2.1,(rd (0,0,0,0,()) f4 i).2.2.2.1,())].length≤maxRow then nx0 done (af (i+1)) f f3 f4 e e5 e6 e7 e8 t4x t4x2 t4x3 out o4 (o5++[((rd (0,0,0,0,()) f4 i).1,(rd (0,0,0,0,()) f4 i).2.1,(rd (0,0,0,0,()) f4 i).2.2.1,(rd (0,0,0,0,()) f4 i).2.2.2.1,())])else none else none)else none) (if 0≤i∧i<(f4.length:Int)then if o5.length+[((rd (0,0,0,0,()) f4 i).1,(rd (0,0,0,0,()) f4 i).2.1,(rd (0,0,0,0,()) f4 i).2.2.1,(rd (0,0,0,0,()) f4 i).2.2.2.1,())].length≤maxRow then nx0 done (af (i+1)) f f3 f4 e e5 e6 e7 e8 t4x t4x2 t4x3 out o4 (o5++[((rd (0,0,0,0,()) f4 i).1,(rd (0,0,0,0,()) f4 i).2.1,(rd (0,0,0,0,()) f4 i).2.2.1,(rd (0,0,0,0,()) f4 i).2.2.2.1,())])else none else none)) (ex0 done e e5 e6 e7 e8 t4x t4x2 t4x3 out o4 o5)
def A0(f0:Int)(f1 f2:List U7)(e0 e1 e2 e3 e4:Int)(done:Bool)(e e5 e6 e7 e8 t4x t4x2 t4x3 out:Int)(o3 o4:List U7):Option (U2):=cond (!done) (if o4.length+[(e5,e6,e7,e8,())].length≤maxRow then some (out,o3,(o4++[(e5,e6,e7,e8,())]),0,0,())else none) (some (out,o3,o4,0,0,()))
def T(lo0:ug (U2))(f0:Int)(f1 f2:List U7)(e0 e1 e2 e3 e4:Int):Option (U2):=(qy (f0,f1,f2,e1,())).bind fun y1=>cond (decide (y1.1≥0)) ((ji (5,())).bind fun y2=>some (y2.1,y2.2.1,y2.2.2.1,y2.2.2.2.1,y2.2.2.2.2.1,())) (cond (e2 != 0) ((jG (f0,f1,f2,e2,())).bind fun y3=>cond (decide (y3.1<0)) ((ji (4,())).bind fun y4=>some (y4.1,y4.2.1,y4.2.2.1,y4.2.2.2.1,y4.2.2.2.2.1,())) (cond (decide ((f2.length:Int)≥60)) ((ji (6,())).bind fun y5=>some (y5.1,y5.2.1,y5.2.2.1,y5.2.2.2.1,y5.2.2.2.2.1,())) ((o9 (f0,f1,f2,())).bind fun y6=>lo0 false 0 f0 f1 f2 e0 e1 e2 e3 e4 0 0 0 y6.1 y6.2.1 ([]:List U7)))) (cond (decide ((f2.length:Int)≥60)) ((ji (6,())).bind fun y7=>some (y7.1,y7.2.1,y7.2.2.1,y7.2.2.2.1,y7.2.2.2.2.1,())) ((o9 (f0,f1,f2,())).bind fun y8=>lo0 false 0 f0 f1 f2 e0 e1 e2 e3 e4 0 0 0 y8.1 y8.2.1 ([]:List U7))))
def K0{R:Type}(k0:Nat)(K:ai R):ai R:=aY 0 (bg (fun env ob=>zrc k0 [1,1,1,1,1,1,1,1] env ob (K)) (K))
def L0:ug R:=fun done i f f3 f4 e e5 e6 e7 e8 t4x t4x2 t4x3 out o4 o5=>iter 0 [2,3,4,5,6,7] [3,4,5,6] (zrc k0 [1,1,1,1,1,1,1,0,1,0,0]) k [(2,.ptr 0 0 0 0),(3,.ptr 1 0 0 0),(4,.ptr 2 0 0 0),(5,.ptr 3 0 0 0),(6,.bool done),(7,.int .i64 i)] [.box [.int .i64 f,.sl aC f3,.sl aC f4],.box [.int .i64 e,.int .i64 e5,.int .i64 e6,.int .i64 e7,.int .i64 e8],.box [.int .i64 t4x,.nils,.nils,.int .i64 t4x2,.int .i64 t4x3],.box [.int .i64 out,.own 4,.own 5],.arr aC o4,.arr aC o5] K
def H0:yY R:=fun done e e5 e6 e7 e8 t4x t4x2 t4x3 out o3 o4=>K (.exit 0) [(3,.ptr 0 0 0 0),(4,.ptr 1 0 0 0),(5,.ptr 2 0 0 0),(6,.bool done)] [.box [.int .i64 e,.int .i64 e5,.int .i64 e6,.int .i64 e7,.int .i64 e8],.box [.int .i64 t4x,.nils,.nils,.int .i64 t4x2,.int .i64 t4x3],.box [.int .i64 out,.own 3,.own 4],.arr aC o3,.arr aC o4]
theorem zs0:L0 k0 (k+1) K=R0 (L0 k0 k K) (H0 K):=by kernel_rfl
def G0{R:Type}(k0:Nat)(hx0:yY R):Nat→ug R
 |0=>fun _ _ _ _ _ _ _ _ _ _ _ _ _ _ _ _=>none
 |k+1=>R0 (G0 k0 hx0 k) hx0
theorem aK:∀ k,L0 k0 k K=G0 k0 (H0 K) k:=bG rfl fun k ih=>by rw[zs0,G0];(try simp only[ih]);try rfl
variable (f0:Int) (f1 f2:List U7) (e0 e1 e2 e3 e4:Int)
def aA:ai (U2):=bV Tryz.prog [.cell 4 73] KJ JU (f0,f1,f2,e0,e1,e2,e3,e4,())
theorem aS:H0 (K0 k0 (aA f0 f1 f2 e0 e1 e2 e3 e4))=A0 f0 f1 f2 e0 e1 e2 e3 e4:=by kernel_rfl
def FF:Option (U2):=T (G0 k0 (A0 f0 f1 f2 e0 e1 e2 e3 e4) k0) f0 f1 f2 e0 e1 e2 e3 e4
theorem aQ:bZ Tryz.prog (aP dF) ay k0 72 KJ JU [] (f0,f1,f2,e0,e1,e2,e3,e4,())=FF k0 f0 f1 f2 e0 e1 e2 e3 e4:=Eq.trans (b:=T (L0 k0 k0 (K0 k0 (aA f0 f1 f2 e0 e1 e2 e3 e4))) f0 f1 f2 e0 e1 e2 e3 e4) (by kernel_rfl) (by rw[FF];(try simp only[aK,aS]);try rfl)
def _root_.Go.Rv.DW:=fun x:Int×(List U7)×(List U7)×U5=>FF (300+x.2.1.length+x.2.2.1.length) x.1 x.2.1 x.2.2.1 x.2.2.2.1 x.2.2.2.2.1 x.2.2.2.2.2.1 x.2.2.2.2.2.2.1 x.2.2.2.2.2.2.2.1
abbrev _root_.Go.Rv.acI:aG:=⟨KJ,JU,DW,[]⟩
theorem _root_.Go.Rv.abP:aF Dr Tryz.prog 72 acI:=dh mix (.c CZ (.c wM (.c Dj (.c zM .nil)))) (by kernel_rfl) fun x=>⟨ay,_,aQ _ _ _ _ _ _ _ _ _⟩
end kF
abbrev J7:Is:=[.v true eU,.v true dJ]
abbrev Js:Os:=[(true,BM)]
namespace iQ
def dF:Tb:=[(64,[],wP),(70,[],Dx),(71,[],DU)]
def ay:Nat→List Nat×List Nat:=fun k=>if k=13 then([2,3,4,5,6,7],[3,4,5,6])else([],[])
def zrc{R:Type}(k0:Nat)(p:List Nat):Env→List Ob→ai R→Option R:=bD Tryz.prog (aP dF) 102 0 ay k0 (bQ p (cZ Tryz.prog 73))
def R0{R:Type}(nx0:ug R)(ex0:yY R)(done:Bool)(i f:Int)(f3 f4:List U7)(e e5 e6 e7 e8 t4x t4x2 t4x3 out:Int)(o4 o5:List U7):Option R:=cond (decide (i<(f3.length:Int))) (cond (!done) (if 0≤i∧i<(f3.length:Int)then cond (decide ((rd (0,0,0,0,()) f3 i).1>e5)) (if o4.length+[(e5,e6,e7,e8,())].length≤maxRow then if 0≤i∧i<(f3.length:Int)then if(o4++[(e5,e6,e7,e8,())]).length+[((rd (0,0,0,0,()) f3 i).1,(rd (0,0,0,0,()) f3 i).2.1,(rd (0,0,0,0,()) f3 i).2.2.1,(rd (0,0,0,0,()) f3 i).2.2.2.1,())].length≤maxRow then nx0 true (af (i+1)) f f3 f4 e e5 e6 e7 e8 t4x t4x2 t4x3 out ((o4++[(e5,e6,e7,e8,())])++[((rd (0,0,0,0,()) f3 i).1,(rd (0,0,0,0,()) f3 i).2.1,(rd (0,0,0,0,()) f3 i).2.2.1,(rd (0,0,0,0,()) f3 i).2.2.2.1,())]) o5 else none else none else none) (if 0≤i∧i<(f3.length:Int)then if o4.length+[((rd (0,0,0,0,()) f3 i).1,(rd (0,0,0,0,()) f3 i).2.1,(rd (0,0,0,0,()) f3 i).2.2.1,(rd (0,0,0,0,()) f3 i).2.2.2.1,())].length≤maxRow then nx0 done (af (i+1)) f f3 f4 e e5 e6 e7 e8 t4x t4x2 t4x3 out (o4++[((rd (0,0,0,0,()) f3 i).1,(rd (0,0,0,0,()) f3 i).2.1,(rd (0,0,0,0,()) f3 i).2.2.1,(rd (0,0,0,0,()) f3 i).2.2.2.1,())]) o5 else none else none)else none) (if 0≤i∧i<(f3.length:Int)then if o4.length+[((rd (0,0,0,0,()) f3 i).1,(rd (0,0,0,0,()) f3 i).2.1,(rd (0,0,0,0,()) f3 i).2.2.1,(rd (0,0,0,0,()) f3 i).2.2.2.1,())].length≤maxRow then nx0 done (af (i+1)) f f3 f4 e e5 e6 e7 e8 t4x t4x2 t4x3 out (o4++[((rd (0,0,0,0,()) f3 i).1,(rd (0,0,0,0,()) f3 i).2.1,(rd (0,0,0,0,()) f3 i).2.2.1,(rd (0,0,0,0,()) f3 i).2.2.2.1,())]) o5 else none else none)) (ex0 done e e5 e6 e7 e8 t4x t4x2 t4x3 out o4 o5)
def A0(f0:Int)(f1 f2:List U7)(e0 e1 e2 e3 e4:Int)(done:Bool)(e e5 e6 e7 e8 t4x t4x2 t4x3 out:Int)(o3 o4:List U7):Option (U2):=cond (!done) (if o3.length+[(e5,e6,e7,e8,())].length≤maxRow then some (out,(o3++[(e5,e6,e7,e8,())]),o4,0,0,())else none) (some (out,o3,o4,0,0,()))
def T(lo0:ug (U2))(f0:Int)(f1 f2:List U7)(e0 e1 e2 e3 e4:Int):Option (U2):=cond (decide (e2≥e1)) ((ji (1,())).bind fun y1=>some (y1.1,y1.2.1,y1.2.2.1,y1.2.2.2.1,y1.2.2.2.2.1,())) ((jG (f0,f1,f2,e1,())).bind fun y2=>cond (decide (y2.1≥0)) ((ji (5,())).bind fun y3=>some (y3.1,y3.2.1,y3.2.2.1,y3.2.2.2.1,y3.2.2.2.2.1,())) (cond (e2 != 0) ((jG (f0,f1,f2,e2,())).bind fun y4=>cond (decide (y4.1<0)) ((ji (4,())).bind fun y5=>some (y5.1,y5.2.1,y5.2.2.1,y5.2.2.2.1,y5.2.2.2.2.1,())) (cond (decide ((f1.length:Int)≥30)) ((ji (6,())).bind fun y6=>some (y6.1,y6.2.1,y6.2.2.1,y6.2.2.2.1,y6.2.2.2.2.1,())) ((o9 (f0,f1,f2,())).bind fun y7=>lo0 false 0 f0 f1 f2 e0 e1 e2 e3 e4 0 0 0 y7.1 ([]:List U7) y7.2.2.1))) (cond (decide ((f1.length:Int)≥30)) ((ji (6,())).bind fun y8=>some (y8.1,y8.2.1,y8.2.2.1,y8.2.2.2.1,y8.2.2.2.2.1,())) ((o9 (f0,f1,f2,())).bind fun y9=>lo0 false 0 f0 f1 f2 e0 e1 e2 e3 e4 0 0 0 y9.1 ([]:List U7) y9.2.2.1))))
def K0{R:Type}(k0:Nat)(K:ai R):ai R:=aY 0 (bg (fun env ob=>zrc k0 [1,1,1,1,1,1,1,1,1] env ob (K)) (K))
def L0:ug R:=fun done i f f3 f4 e e5 e6 e7 e8 t4x t4x2 t4x3 out o4 o5=>iter 0 [2,3,4,5,6,7] [3,4,5,6] (zrc k0 [1,1,1,1,1,1,1,1,0,1,0,0]) k [(2,.ptr 0 0 0 0),(3,.ptr 1 0 0 0),(4,.ptr 2 0 0 0),(5,.ptr 3 0 0 0),(6,.bool done),(7,.int .i64 i)] [.box [.int .i64 f,.sl aC f3,.sl aC f4],.box [.int .i64 e,.int .i64 e5,.int .i64 e6,.int .i64 e7,.int .i64 e8],.box [.int .i64 t4x,.nils,.nils,.int .i64 t4x2,.int .i64 t4x3],.box [.int .i64 out,.own 4,.own 5],.arr aC o4,.arr aC o5] K
def H0:yY R:=fun done e e5 e6 e7 e8 t4x t4x2 t4x3 out o3 o4=>K (.exit 0) [(3,.ptr 0 0 0 0),(4,.ptr 1 0 0 0),(5,.ptr 2 0 0 0),(6,.bool done)] [.box [.int .i64 e,.int .i64 e5,.int .i64 e6,.int .i64 e7,.int .i64 e8],.box [.int .i64 t4x,.nils,.nils,.int .i64 t4x2,.int .i64 t4x3],.box [.int .i64 out,.own 3,.own 4],.arr aC o3,.arr aC o4]
theorem zs0:L0 k0 (k+1) K=R0 (L0 k0 k K) (H0 K):=by kernel_rfl
def G0{R:Type}(k0:Nat)(hx0:yY R):Nat→ug R
 |0=>fun _ _ _ _ _ _ _ _ _ _ _ _ _ _ _ _=>none
 |k+1=>R0 (G0 k0 hx0 k) hx0
theorem aK:∀ k,L0 k0 k K=G0 k0 (H0 K) k:=bG rfl fun k ih=>by rw[zs0,G0];(try simp only[ih]);try rfl
variable (f0:Int) (f1 f2:List U7) (e0 e1 e2 e3 e4:Int)
def aA:ai (U2):=bV Tryz.prog [.cell 4 73] J7 Js (f0,f1,f2,e0,e1,e2,e3,e4,())
theorem aS:H0 (K0 k0 (aA f0 f1 f2 e0 e1 e2 e3 e4))=A0 f0 f1 f2 e0 e1 e2 e3 e4:=by kernel_rfl
def FF:Option (U2):=T (G0 k0 (A0 f0 f1 f2 e0 e1 e2 e3 e4) k0) f0 f1 f2 e0 e1 e2 e3 e4
theorem aQ:bZ Tryz.prog (aP dF) ay k0 73 J7 Js [] (f0,f1,f2,e0,e1,e2,e3,e4,())=FF k0 f0 f1 f2 e0 e1 e2 e3 e4:=Eq.trans (b:=T (L0 k0 k0 (K0 k0 (aA f0 f1 f2 e0 e1 e2 e3 e4))) f0 f1 f2 e0 e1 e2 e3 e4) (by kernel_rfl) (by rw[FF];(try simp only[aK,aS]);try rfl)
def _root_.Go.Rv.uK:=fun x:Int×(List U7)×(List U7)×U5=>FF (300+x.2.1.length+x.2.2.1.length) x.1 x.2.1 x.2.2.1 x.2.2.2.1 x.2.2.2.2.1 x.2.2.2.2.2.1 x.2.2.2.2.2.2.1 x.2.2.2.2.2.2.2.1
abbrev _root_.Go.Rv.ab9:aG:=⟨J7,Js,uK,[]⟩
theorem _root_.Go.Rv.abj:aF Dr Tryz.prog 73 ab9:=dh mix (.c wM (.c Dj (.c zM .nil))) (by kernel_rfl) fun x=>⟨ay,_,aQ _ _ _ _ _ _ _ _ _⟩
end iQ
abbrev KL:Is:=[.v true eU,.v true dJ]
abbrev JV:Os:=[(true,BM)]
namespace iT
def dF:Tb:=[(64,[],wP),(70,[],Dx),(71,[],DU)]
def ay:Nat→List Nat×List Nat:=fun k=>if k=5 then([2,3,4,5,6],[2,3,4,5])else if k=10 then([2,3,4,5,7],[2,4,5])else([],[])
def zrc{R:Type}(k0:Nat)(p:List Nat):Env→List Ob→ai R→Option R:=bD Tryz.prog (aP dF) 67 0 ay k0 (bQ p (cZ Tryz.prog 74))
def R0{R:Type}(nx0:uf R)(ex0:QR R)(ex1:QO R)(atx i f:Int)(f3 f4:List U7)(e e5 e6 e7 e8 t4x t4x2 t4x3:Int):Option R:=cond (decide (i<(f3.length:Int))) (if 0≤i∧i<(f3.length:Int)then cond ((rd (0,0,0,0,()) f3 i).2.1==e5) ((ji (9,())).bind fun y1=>ex0 atx f f3 f4 e e5 e6 e7 e8 y1.1 y1.2.2.2.1 y1.2.2.2.2.1 y1.2.1 y1.2.2.1) (nx0 atx (af (i+1)) f f3 f4 e e5 e6 e7 e8 t4x t4x2 t4x3)else none) (ex1 atx f f3 f4 e e5 e6 e7 e8 t4x t4x2 t4x3)
def R1{R:Type}(nx1:uf R)(ex2:QN R)(ex3:QM R)(atx i f:Int)(f3 f4:List U7)(e e5 e6 e7 e8 t4x t4x2 t4x3:Int):Option R:=cond (decide (i<(f4.length:Int))) (if 0≤i∧i<(f4.length:Int)then cond ((rd (0,0,0,0,()) f4 i).2.1==e5) ((ji (9,())).bind fun y1=>ex2 atx f f3 f4 y1.1 y1.2.2.2.1 y1.2.2.2.2.1 y1.2.1 y1.2.2.1) (nx1 atx (af (i+1)) f f3 f4 e e5 e6 e7 e8 t4x t4x2 t4x3)else none) (ex3 atx f f3 f4 t4x t4x2 t4x3)
def A0(f0:Int)(f1 f2:List U7)(e0 e1 e2 e3 e4:Int)(atx f:Int)(f3 f4:List U7)(e e5 e6 e7 e8 t4x t4x2 t4x3:Int)(o3 o4:List U7):Option (U2):=some (t4x,o3,o4,t4x2,t4x3,())
def A1(lo1:uf (U2))(f0:Int)(f1 f2:List U7)(e0 e1 e2 e3 e4:Int)(atx f:Int)(f3 f4:List U7)(e e5 e6 e7 e8 t4x t4x2 t4x3:Int):Option (U2):=lo1 atx 0 f f3 f4 e e5 e6 e7 e8 t4x t4x2 t4x3
def A2(f0:Int)(f1 f2:List U7)(e0 e1 e2 e3 e4:Int)(atx f:Int)(f3 f4:List U7)(t4x t4x2 t4x3:Int)(o2 o3:List U7):Option (U2):=some (t4x,o2,o3,t4x2,t4x3,())
def A3(f0:Int)(f1 f2:List U7)(e0 e1 e2 e3 e4:Int)(atx f:Int)(f3 f4:List U7)(t4x t4x2 t4x3:Int):Option (U2):=(o9 (f,f3,f4,())).bind fun y1=>if 0≤atx∧atx≤(f3.length:Int)then if([]:List U7).length+(f3.take (atx.toNat)).length≤maxRow then if 0≤(af (atx+1))∧(af (atx+1))≤(f3.length:Int)then if(([]:List U7)++(f3.take (atx.toNat))).length+(f3.drop ((af (atx+1)).toNat)).length≤maxRow then some (y1.1,((([]:List U7)++(f3.take (atx.toNat)))++(f3.drop ((af (atx+1)).toNat))),y1.2.2.1,0,0,())else none else none else none else none
def T(lo0:uf (U2))(f0:Int)(f1 f2:List U7)(e0 e1 e2 e3 e4:Int):Option (U2):=(jG (f0,f1,f2,e1,())).bind fun y1=>cond (decide (y1.1<0)) ((ji (4,())).bind fun y2=>some (y2.1,y2.2.1,y2.2.2.1,y2.2.2.2.1,y2.2.2.2.2.1,())) (lo0 y1.1 0 f0 f1 f2 e0 e1 e2 e3 e4 0 0 0)
def K0{R:Type}(k0:Nat)(K:ai R):ai R:=aY 0 (bg (fun env ob=>zrc k0 [1,1,1,1] env ob (K)) (K))
def K1{R:Type}(k0:Nat)(K:ai R):ai R:=aY 2 (bg (fun env ob=>zrc k0 [1,1,1,1,1] env ob (K)) (K))
def L0:uf R:=fun atx i f f3 f4 e e5 e6 e7 e8 t4x t4x2 t4x3=>iter 0 [2,3,4,5,6] [2,3,4,5] (zrc k0 [1,1,1,0,1,0,0]) k [(2,.ptr 0 0 0 0),(3,.ptr 1 0 0 0),(4,.ptr 2 0 0 0),(5,.int .i64 atx),(6,.int .i64 i)] [.box [.int .i64 f,.sl aC f3,.sl aC f4],.box [.int .i64 e,.int .i64 e5,.int .i64 e6,.int .i64 e7,.int .i64 e8],.box [.int .i64 t4x,.nils,.nils,.int .i64 t4x2,.int .i64 t4x3]] K
def L1:uf R:=fun atx i f f3 f4 e e5 e6 e7 e8 t4x t4x2 t4x3=>iter 0 [2,3,4,5,7] [2,4,5] (zrc k0 [1,1,1,1,0,1,0,0]) k [(2,.ptr 0 0 0 0),(3,.ptr 1 0 0 0),(4,.ptr 2 0 0 0),(5,.int .i64 atx),(7,.int .i64 i)] [.box [.int .i64 f,.sl aC f3,.sl aC f4],.box [.int .i64 e,.int .i64 e5,.int .i64 e6,.int .i64 e7,.int .i64 e8],.box [.int .i64 t4x,.nils,.nils,.int .i64 t4x2,.int .i64 t4x3]] K
def H0:QR R:=fun atx f f3 f4 e e5 e6 e7 e8 t4x t4x2 t4x3 o3 o4=>K .ret [(2,.ptr 0 0 0 0),(3,.ptr 1 0 0 0),(4,.ptr 2 0 0 0),(5,.int .i64 atx)] [.box [.int .i64 f,.sl aC f3,.sl aC f4],.box [.int .i64 e,.int .i64 e5,.int .i64 e6,.int .i64 e7,.int .i64 e8],.box [.int .i64 t4x,.own 3,.own 4,.int .i64 t4x2,.int .i64 t4x3],.arr aC o3,.arr aC o4]
def H1:QO R:=fun atx f f3 f4 e e5 e6 e7 e8 t4x t4x2 t4x3=>K (.exit 0) [(2,.ptr 0 0 0 0),(3,.ptr 1 0 0 0),(4,.ptr 2 0 0 0),(5,.int .i64 atx)] [.box [.int .i64 f,.sl aC f3,.sl aC f4],.box [.int .i64 e,.int .i64 e5,.int .i64 e6,.int .i64 e7,.int .i64 e8],.box [.int .i64 t4x,.nils,.nils,.int .i64 t4x2,.int .i64 t4x3]]
def H2:QN R:=fun atx f f3 f4 t4x t4x2 t4x3 o2 o3=>K .ret [(2,.ptr 0 0 0 0),(4,.ptr 1 0 0 0),(5,.int .i64 atx)] [.box [.int .i64 f,.sl aC f3,.sl aC f4],.box [.int .i64 t4x,.own 2,.own 3,.int .i64 t4x2,.int .i64 t4x3],.arr aC o2,.arr aC o3]
def H3:QM R:=fun atx f f3 f4 t4x t4x2 t4x3=>K (.exit 2) [(2,.ptr 0 0 0 0),(4,.ptr 1 0 0 0),(5,.int .i64 atx)] [.box [.int .i64 f,.sl aC f3,.sl aC f4],.box [.int .i64 t4x,.nils,.nils,.int .i64 t4x2,.int .i64 t4x3]]
theorem zs0:L0 k0 (k+1) K=R0 (L0 k0 k K) (H0 K) (H1 K):=by kernel_rfl
theorem zs1:L1 k0 (k+1) K=R1 (L1 k0 k K) (H2 K) (H3 K):=by kernel_rfl
def G0{R:Type}(k0:Nat)(hx0:QR R)(hx1:QO R):Nat→uf R
 |0=>fun _ _ _ _ _ _ _ _ _ _ _ _ _=>none
 |k+1=>R0 (G0 k0 hx0 hx1 k) hx0 hx1
theorem aK:∀ k,L0 k0 k K=G0 k0 (H0 K) (H1 K) k:=bG rfl fun k ih=>by rw[zs0,G0];(try simp only[ih]);try rfl
def G1{R:Type}(k0:Nat)(hx2:QN R)(hx3:QM R):Nat→uf R
 |0=>fun _ _ _ _ _ _ _ _ _ _ _ _ _=>none
 |k+1=>R1 (G1 k0 hx2 hx3 k) hx2 hx3
theorem dO:∀ k,L1 k0 k K=G1 k0 (H2 K) (H3 K) k:=bG rfl fun k ih=>by rw[zs1,G1];(try simp only[ih,aK]);try rfl
variable (f0:Int) (f1 f2:List U7) (e0 e1 e2 e3 e4:Int)
def aA:ai (U2):=bV Tryz.prog [.cell 4 73] KL JV (f0,f1,f2,e0,e1,e2,e3,e4,())
theorem aS:H0 (K0 k0 (aA f0 f1 f2 e0 e1 e2 e3 e4))=A0 f0 f1 f2 e0 e1 e2 e3 e4:=by kernel_rfl
theorem bW:H1 (K0 k0 (aA f0 f1 f2 e0 e1 e2 e3 e4))=A1 (L1 k0 k0 (K1 k0 (aA f0 f1 f2 e0 e1 e2 e3 e4))) f0 f1 f2 e0 e1 e2 e3 e4:=by kernel_rfl
theorem l9:H2 (K1 k0 (aA f0 f1 f2 e0 e1 e2 e3 e4))=A2 f0 f1 f2 e0 e1 e2 e3 e4:=by kernel_rfl
theorem rq:H3 (K1 k0 (aA f0 f1 f2 e0 e1 e2 e3 e4))=A3 f0 f1 f2 e0 e1 e2 e3 e4:=by kernel_rfl
def FF:Option (U2):=T (G0 k0 (A0 f0 f1 f2 e0 e1 e2 e3 e4) (A1 (G1 k0 (A2 f0 f1 f2 e0 e1 e2 e3 e4) (A3 f0 f1 f2 e0 e1 e2 e3 e4) k0) f0 f1 f2 e0 e1 e2 e3 e4) k0) f0 f1 f2 e0 e1 e2 e3 e4
theorem aQ:bZ Tryz.prog (aP dF) ay k0 74 KL JV [] (f0,f1,f2,e0,e1,e2,e3,e4,())=FF k0 f0 f1 f2 e0 e1 e2 e3 e4:=Eq.trans (b:=T (L0 k0 k0 (K0 k0 (aA f0 f1 f2 e0 e1 e2 e3 e4))) f0 f1 f2 e0 e1 e2 e3 e4) (by kernel_rfl) (by rw[FF];(try simp only[aK,dO,aS,bW,l9,rq]);try rfl)
def _root_.Go.Rv.wU:=fun x:Int×(List U7)×(List U7)×U5=>FF (300+x.2.1.length+x.2.2.1.length) x.1 x.2.1 x.2.2.1 x.2.2.2.1 x.2.2.2.2.1 x.2.2.2.2.2.1 x.2.2.2.2.2.2.1 x.2.2.2.2.2.2.2.1
abbrev _root_.Go.Rv.acJ:aG:=⟨KL,JV,wU,[]⟩
theorem _root_.Go.Rv.abQ:aF Dr Tryz.prog 74 acJ:=dh mix (.c wM (.c Dj (.c zM .nil))) (by kernel_rfl) fun x=>⟨ay,_,aQ _ _ _ _ _ _ _ _ _⟩
end iT
def wY.T(f0:Int)(f1 f2:List U7)(e0 e1 e2 e3 e4:Int):Option (U2):=(zF (f0,f1,f2,())).bind fun y1=>cond (!y1.1) ((ji (1,())).bind fun y2=>some (y2.1,y2.2.1,y2.2.2.1,y2.2.2.2.1,y2.2.2.2.2.1,())) ((jF (e0,e1,e2,e3,e4,())).bind fun y3=>cond (!y3.1) ((ji (1,())).bind fun y4=>some (y4.1,y4.2.1,y4.2.2.1,y4.2.2.2.1,y4.2.2.2.2.1,())) ((o9 (f0,f1,f2,())).bind fun y5=>cond (e0==1) ((DW (f0,f1,f2,e0,e1,e2,e3,e4,())).bind fun y6=>some (y6.1,y6.2.1,y6.2.2.1,y6.2.2.2.1,y6.2.2.2.2.1,())) (cond (e0==6) ((uK (f0,f1,f2,e0,e1,e2,e3,e4,())).bind fun y7=>some (y7.1,y7.2.1,y7.2.2.1,y7.2.2.2.1,y7.2.2.2.2.1,())) (cond (e0==7) ((wU (f0,f1,f2,e0,e1,e2,e3,e4,())).bind fun y8=>some (y8.1,y8.2.1,y8.2.2.1,y8.2.2.2.1,y8.2.2.2.2.1,())) (cond (e0==8) (cond (e1==0) (some (e3,y5.2.1,y5.2.2.1,0,0,())) ((jG (f0,f1,f2,e1,())).bind fun y9=>cond (decide (y9.1<0)) ((ji (4,())).bind fun y10=>some (y10.1,y10.2.1,y10.2.2.1,y10.2.2.2.1,y10.2.2.2.2.1,())) (if 0≤y9.1∧y9.1<(y5.2.1.length:Int)then some (y5.1,(y5.2.1.set ((y9.1).toNat) ((y5.2.1.getD ((y9.1).toNat) (0,0,0,0,())).1,(y5.2.1.getD ((y9.1).toNat) (0,0,0,0,())).2.1,e3,(y5.2.1.getD ((y9.1).toNat) (0,0,0,0,())).2.2.2.1,())),y5.2.2.1,0,0,())else none))) ((qy (f0,f1,f2,e1,())).bind fun y11=>cond (decide (y11.1<0)) ((ji (4,())).bind fun y12=>some (y12.1,y12.2.1,y12.2.2.1,y12.2.2.2.1,y12.2.2.2.2.1,())) (cond (e2 != 0) ((jG (f0,f1,f2,e2,())).bind fun y13=>cond (decide (y13.1<0)) ((ji (4,())).bind fun y14=>some (y14.1,y14.2.1,y14.2.2.1,y14.2.2.2.1,y14.2.2.2.2.1,())) (cond (e0==2) (if 0≤y11.1∧y11.1≤(f2.length:Int)then if([]:List U7).length+(f2.take (y11.1.toNat)).length≤maxRow then if 0≤(af (y11.1+1))∧(af (y11.1+1))≤(f2.length:Int)then if(([]:List U7)++(f2.take (y11.1.toNat))).length+(f2.drop ((af (y11.1+1)).toNat)).length≤maxRow then some (y5.1,y5.2.1,((([]:List U7)++(f2.take (y11.1.toNat)))++(f2.drop ((af (y11.1+1)).toNat))),0,0,())else none else none else none else none) (cond (e0==3) (if 0≤y11.1∧y11.1<(y5.2.2.1.length:Int)then some (y5.1,y5.2.1,(y5.2.2.1.set ((y11.1).toNat) ((y5.2.2.1.getD ((y11.1).toNat) (0,0,0,0,())).1,(y5.2.2.1.getD ((y11.1).toNat) (0,0,0,0,())).2.1,e3,(y5.2.2.1.getD ((y11.1).toNat) (0,0,0,0,())).2.2.2.1,())),0,0,())else none) (cond (e0==4) (if 0≤y11.1∧y11.1<(y5.2.2.1.length:Int)then some (y5.1,y5.2.1,(y5.2.2.1.set ((y11.1).toNat) ((y5.2.2.1.getD ((y11.1).toNat) (0,0,0,0,())).1,(y5.2.2.1.getD ((y11.1).toNat) (0,0,0,0,())).2.1,(y5.2.2.1.getD ((y11.1).toNat) (0,0,0,0,())).2.2.1,e3,())),0,0,())else none) (if 0≤y11.1∧y11.1<(y5.2.2.1.length:Int)then some (y5.1,y5.2.1,(y5.2.2.1.set ((y11.1).toNat) ((y5.2.2.1.getD ((y11.1).toNat) (0,0,0,0,())).1,e2,(y5.2.2.1.getD ((y11.1).toNat) (0,0,0,0,())).2.2.1,(y5.2.2.1.getD ((y11.1).toNat) (0,0,0,0,())).2.2.2.1,())),0,0,())else none))))) (cond (e0==2) (if 0≤y11.1∧y11.1≤(f2.length:Int)then if([]:List U7).length+(f2.take (y11.1.toNat)).length≤maxRow then if 0≤(af (y11.1+1))∧(af (y11.1+1))≤(f2.length:Int)then if(([]:List U7)++(f2.take (y11.1.toNat))).length+(f2.drop ((af (y11.1+1)).toNat)).length≤maxRow then some (y5.1,y5.2.1,((([]:List U7)++(f2.take (y11.1.toNat)))++(f2.drop ((af (y11.1+1)).toNat))),0,0,())else none else none else none else none) (cond (e0==3) (if 0≤y11.1∧y11.1<(y5.2.2.1.length:Int)then some (y5.1,y5.2.1,(y5.2.2.1.set ((y11.1).toNat) ((y5.2.2.1.getD ((y11.1).toNat) (0,0,0,0,())).1,(y5.2.2.1.getD ((y11.1).toNat) (0,0,0,0,())).2.1,e3,(y5.2.2.1.getD ((y11.1).toNat) (0,0,0,0,())).2.2.2.1,())),0,0,())else none) (cond (e0==4) (if 0≤y11.1∧y11.1<(y5.2.2.1.length:Int)then some (y5.1,y5.2.1,(y5.2.2.1.set ((y11.1).toNat) ((y5.2.2.1.getD ((y11.1).toNat) (0,0,0,0,())).1,(y5.2.2.1.getD ((y11.1).toNat) (0,0,0,0,())).2.1,(y5.2.2.1.getD ((y11.1).toNat) (0,0,0,0,())).2.2.1,e3,())),0,0,())else none) (if 0≤y11.1∧y11.1<(y5.2.2.1.length:Int)then some (y5.1,y5.2.1,(y5.2.2.1.set ((y11.1).toNat) ((y5.2.2.1.getD ((y11.1).toNat) (0,0,0,0,())).1,e2,(y5.2.2.1.getD ((y11.1).toNat) (0,0,0,0,())).2.2.1,(y5.2.2.1.getD ((y11.1).toNat) (0,0,0,0,())).2.2.2.1,())),0,0,())else none)))))))))))
def jT:=fun x:Int×(List U7)×(List U7)×U5=>wY.T x.1 x.2.1 x.2.2.1 x.2.2.2.1 x.2.2.2.2.1 x.2.2.2.2.2.1 x.2.2.2.2.2.2.1 x.2.2.2.2.2.2.2.1
abbrev LU:aG:=⟨[.v true eU,.v true dJ],[(true,BM)],jT,[]⟩
theorem RY:aF Dr Tryz.prog 36 LU:=aW mix (.c CZ (.c J6 (.c RH (.c wM (.c Dj (.c zM (.c abP (.c abj (.c abQ .nil))))))))) (by kernel_rfl) fun x=>by kernel_rfl
def Uf.T(s0 s1 s2 s3:Int)(s4 s5:List U7)(s6:List U8):Option (U1):=(o9 (s3,s4,s5,())).bind fun y1=>if([]:List U8).length+s6.length≤maxRow then some (s0,s1,s2,y1.1,y1.2.1,y1.2.2.1,(([]:List U8)++s6),())else none
def qB:=fun x:U1=>Uf.T x.1 x.2.1 x.2.2.1 x.2.2.2.1 x.2.2.2.2.1 x.2.2.2.2.2.1 x.2.2.2.2.2.2.1
abbrev uN:aG:=⟨[.v true iK],[(true,iK)],qB,[]⟩
theorem Dv:aF Dr Tryz.prog 38 uN:=aW mix (.c zM .nil) (by kernel_rfl) fun x=>by kernel_rfl
def Nr.T(a b:Int):Option (Int×Unit):=cond (decide (a<b)) (some (a,())) (some (b,()))
def uS:=fun x:U9=>Nr.T x.1 x.2.1
abbrev Ea:aG:=⟨[.v false [CT.int .i64],.v false [CT.int .i64]],[(false,[CT.int .i64])],uS,[]⟩
theorem Tm:aF Dr Tryz.prog 66 Ea:=aW mix .nil (by kernel_rfl) fun x=>by kernel_rfl
abbrev J8:Is:=[.v true eU]
abbrev Jt:Os:=[(false,[CT.sl [CT.int .i64]])]
namespace gG
def ay:Nat→List Nat×List Nat:=fun k=>if k=3 then([1,3,4],[3])else if k=7 then([1,3,4,5,6],[1,3,4,5])else if k=12 then([1,3,4,5,7],[1,3,4,5])else([],[])
def zrc{R:Type}(k0:Nat)(p:List Nat):Env→List Ob→ai R→Option R:=bD Tryz.prog (aP [(66,[],Ea)]) 88 0 ay k0 (bQ p (cZ Tryz.prog 148))
def R0{R:Type}(ex0:yX R)(lo1:tZ R)(i f:Int)(f3 f4:List U7)(out:List (Int×Unit)):Option R:=cond (decide (i≥0)) (lo1 i 0 (af (i+1)) f f3 f4 out) (ex0 out)
def R1{R:Type}(nx1:tZ R)(ex1:yV R)(i sum kx f:Int)(f3 f4:List U7)(out:List (Int×Unit)):Option R:=cond (decide (kx<(f3.length:Int))) (if 0≤kx∧kx<(f3.length:Int)then if 0≤i∧i<(f3.length:Int)then cond ((rd (0,0,0,0,()) f3 kx).2.1==(rd (0,0,0,0,()) f3 i).1) (if 0≤kx∧kx<(out.length:Int)then nx1 i (af (sum+(out.getD kx.toNat (0,())).1)) (af (kx+1)) f f3 f4 out else none) (nx1 i sum (af (kx+1)) f f3 f4 out)else none else none) (ex1 i sum f f3 f4 out)
def R2{R:Type}(nx2:tZ R)(ex2:yV R)(i sum kx f:Int)(f3 f4:List U7)(out:List (Int×Unit)):Option R:=cond (decide (kx<(f4.length:Int))) (if 0≤kx∧kx<(f4.length:Int)then if 0≤i∧i<(f3.length:Int)then cond ((rd (0,0,0,0,()) f4 kx).2.1==(rd (0,0,0,0,()) f3 i).1) (if 0≤kx∧kx<(f4.length:Int)then nx2 i (af (sum+(rd (0,0,0,0,()) f4 kx).2.2.1)) (af (kx+1)) f f3 f4 out else none) (nx2 i sum (af (kx+1)) f f3 f4 out)else none else none) (ex2 i sum f f3 f4 out)
def A0(f0:Int)(f1 f2:List U7)(out:List (Int×Unit)):Option ((List (Int×Unit))×Unit):=some (out,())
def A1{R:Type}(lo2:tZ R)(i sum f:Int)(f3 f4:List U7)(out:List (Int×Unit)):Option R:=lo2 i sum 0 f f3 f4 out
def A2{R:Type}(nx0:GL R)(i sum f:Int)(f3 f4:List U7)(out:List (Int×Unit)):Option R:=if 0≤i∧i<(f3.length:Int)then(uS (sum,(rd (0,0,0,0,()) f3 i).2.2.1,())).bind fun y1=>if 0≤i∧i<(out.length:Int)then nx0 (af (i - 1)) f f3 f4 (out.set i.toNat (y1.1,()))else none else none
def T(lo0:GL ((List (Int×Unit))×Unit))(f0:Int)(f1 f2:List U7):Option ((List (Int×Unit))×Unit):=if 0≤(f1.length:Int)∧(8:Int)*(f1.length:Int)≤281474976710656∧(f1.length:Int)≤9223372036854775807 then lo0 (af ((f1.length:Int) - 1)) f0 f1 f2 (List.replicate (((f1.length:Int):Int)).toNat (0,()))else none
def K0{R:Type}(k0:Nat)(K:ai R):ai R:=aY 0 (bg (fun env ob=>zrc k0 [1,1,1] env ob (K)) (K))
def K1{R:Type}(k0:Nat)(K:ai R):ai R:=aY 2 (bg (fun env ob=>zrc k0 [1,1,0,1,0,0,1,0,0,1,1] env ob (aY 1 (bg (fun env ob=>zrc k0 [1,1,0,1,0,0,1,1] env ob (K)) (K)))) (aY 1 (bg (fun env ob=>zrc k0 [1,1,0,1,0,0,1,1] env ob (K)) (K))))
def K2{R:Type}(k0:Nat)(K:ai R):ai R:=aY 4 (bg (fun env ob=>zrc k0 [1,1,0,1,0,0,1,0,0,1,1,1] env ob (aY 1 (bg (fun env ob=>zrc k0 [1,1,0,1,0,0,1,1] env ob (K)) (K)))) (aY 1 (bg (fun env ob=>zrc k0 [1,1,0,1,0,0,1,1] env ob (K)) (K))))
def P0:ai R:=vP 0 [1,3,4] [3] (fun env ob=>iter 0 [1,3,4] [3] (zrc k0 [1,1,0,1,0,0]) k env ob K) K
def L0:GL R:=fun i f f3 f4 out=>iter 0 [1,3,4] [3] (zrc k0 [1,1,0,1,0,0]) k [(1,.ptr 0 0 0 0),(3,.own 1),(4,.int .i64 i)] [.box [.int .i64 f,.sl aC f3,.sl aC f4],.arr [CT.int .i64] out] K
def L1:tZ R:=fun i sum kx f f3 f4 out=>iter 0 [1,3,4,5,6] [1,3,4,5] (zrc k0 [1,1,0,1,0,0,1,0,0,1,0,1,0,0]) k [(1,.ptr 0 0 0 0),(3,.own 1),(4,.int .i64 i),(5,.int .i64 sum),(6,.int .i64 kx)] [.box [.int .i64 f,.sl aC f3,.sl aC f4],.arr [CT.int .i64] out] K
def L2:tZ R:=fun i sum kx f f3 f4 out=>iter 0 [1,3,4,5,7] [1,3,4,5] (zrc k0 [1,1,0,1,0,0,1,0,0,1,1,0,1,0,0]) k [(1,.ptr 0 0 0 0),(3,.own 1),(4,.int .i64 i),(5,.int .i64 sum),(7,.int .i64 kx)] [.box [.int .i64 f,.sl aC f3,.sl aC f4],.arr [CT.int .i64] out] K
def H0:yX R:=fun out=>K (.exit 0) [(3,.own 0)] [.arr [CT.int .i64] out]
def H1:yV R:=fun i sum f f3 f4 out=>K (.exit 2) [(1,.ptr 0 0 0 0),(3,.own 1),(4,.int .i64 i),(5,.int .i64 sum)] [.box [.int .i64 f,.sl aC f3,.sl aC f4],.arr [CT.int .i64] out]
def H2:yV R:=fun i sum f f3 f4 out=>K (.exit 4) [(1,.ptr 0 0 0 0),(3,.own 1),(4,.int .i64 i),(5,.int .i64 sum)] [.box [.int .i64 f,.sl aC f3,.sl aC f4],.arr [CT.int .i64] out]
theorem zs0:L0 k0 (k+1) K=R0 (H0 K) (L1 k0 k0 (K1 k0 (P0 k0 k K))):=by kernel_rfl
theorem zs1:L1 k0 (k+1) K=R1 (L1 k0 k K) (H1 K):=by kernel_rfl
theorem zs2:L2 k0 (k+1) K=R2 (L2 k0 k K) (H2 K):=by kernel_rfl
theorem bW:H1 (K1 k0 (P0 k0 k K))=A1 (L2 k0 k0 (K2 k0 (P0 k0 k K))):=by kernel_rfl
theorem l9:H2 (K2 k0 (P0 k0 k K))=A2 (L0 k0 k K):=by kernel_rfl
def G1{R:Type}(k0:Nat)(hx1:yV R):Nat→tZ R
 |0=>fun _ _ _ _ _ _ _=>none
 |k+1=>R1 (G1 k0 hx1 k) hx1
theorem dO:∀ k,L1 k0 k K=G1 k0 (H1 K) k:=bG rfl fun k ih=>by rw[zs1,G1];(try simp only[ih]);try rfl
def G2{R:Type}(k0:Nat)(hx2:yV R):Nat→tZ R
 |0=>fun _ _ _ _ _ _ _=>none
 |k+1=>R2 (G2 k0 hx2 k) hx2
theorem kV:∀ k,L2 k0 k K=G2 k0 (H2 K) k:=bG rfl fun k ih=>by rw[zs2,G2];(try simp only[ih,dO]);try rfl
def G0{R:Type}(k0:Nat)(hx0:yX R):Nat→GL R
 |0=>fun _ _ _ _ _=>none
 |k+1=>R0 hx0 (G1 k0 (A1 (G2 k0 (A2 (G0 k0 hx0 k)) k0)) k0)
theorem aK:∀ k,L0 k0 k K=G0 k0 (H0 K) k:=bG rfl fun k ih=>by rw[zs0,G0];(try simp only[ih,dO,kV,bW,l9]);try rfl
variable (f0:Int) (f1 f2:List U7)
def aA:ai ((List (Int×Unit))×Unit):=bV Tryz.prog [.tmp 2] J8 Jt (f0,f1,f2,())
theorem aS:H0 (K0 k0 (aA f0 f1 f2))=A0 f0 f1 f2:=by kernel_rfl
def FF:Option ((List (Int×Unit))×Unit):=T (G0 k0 (A0 f0 f1 f2) k0) f0 f1 f2
theorem aQ:bZ Tryz.prog (aP [(66,[],Ea)]) ay k0 148 J8 Jt [] (f0,f1,f2,())=FF k0 f0 f1 f2:=Eq.trans (b:=T (L0 k0 k0 (K0 k0 (aA f0 f1 f2))) f0 f1 f2) (by kernel_rfl) (by rw[FF];(try simp only[dO,kV,aK,aS]);try rfl)
def _root_.Go.Rv.Dy:=fun x:U3=>FF (300+x.2.1.length+x.2.2.1.length) x.1 x.2.1 x.2.2.1
abbrev _root_.Go.Rv.LP:aG:=⟨J8,Jt,Dy,[]⟩
theorem _root_.Go.Rv.abk:aF Dr Tryz.prog 148 LP:=dh mix (.c Tm .nil) (by kernel_rfl) fun x=>⟨ay,_,aQ _ _ _ _⟩
end gG
abbrev KO:Is:=[.v true eU,.v false [CT.int .i64]]
abbrev JW:Os:=[(false,[CT.sl eG]),(false,[CT.sl ct0])]
namespace iU
def ay:Nat→List Nat×List Nat:=fun k=>if k=5 then([1,2,6,7,8,9],[1,2,7,8])else if k=11 then([1,2,7,8,10],[7,8])else([],[])
def zrc{R:Type}(k0:Nat)(p:List Nat):Env→List Ob→ai R→Option R:=bD Tryz.prog (aP [(148,[],LP)]) 91 0 ay k0 (bQ p (cZ Tryz.prog 130))
def R0{R:Type}(nx0:GK R)(ex0:QL R)(group2 i f:Int)(f3 f4:List U7)(wants:List (Int×Unit))(kids:List U9)(items:List U8):Option R:=cond (decide (i<(f3.length:Int))) (if 0≤i∧i<(f3.length:Int)then cond ((rd (0,0,0,0,()) f3 i).2.1==group2) (if kids.length+[(i,(-1),())].length≤maxRow then if 0≤i∧i<(wants.length:Int)then if 0≤i∧i<(f3.length:Int)then if items.length+([(((kids++[(i,(-1),())]).length:Int),(wants.getD i.toNat (0,())).1,(rd (0,0,0,0,()) f3 i).2.2.2.1,())]).length≤maxRow then nx0 group2 (af (i+1)) f f3 f4 wants (kids++[(i,(-1),())]) (items++[(((kids++[(i,(-1),())]).length:Int),(wants.getD i.toNat (0,())).1,(rd (0,0,0,0,()) f3 i).2.2.2.1,())])else none else none else none else none) (nx0 group2 (af (i+1)) f f3 f4 wants kids items)else none) (ex0 group2 f f3 f4 kids items)
def R1{R:Type}(nx1:GI R)(ex1:QK R)(group2 i f:Int)(f3 f4:List U7)(kids:List U9)(items:List U8):Option R:=cond (decide (i<(f4.length:Int))) (if 0≤i∧i<(f4.length:Int)then cond ((rd (0,0,0,0,()) f4 i).2.1==group2) (if kids.length+[((-1),i,())].length≤maxRow then if 0≤i∧i<(f4.length:Int)then if 0≤i∧i<(f4.length:Int)then if items.length+([(((kids++[((-1),i,())]).length:Int),(rd (0,0,0,0,()) f4 i).2.2.1,(rd (0,0,0,0,()) f4 i).2.2.2.1,())]).length≤maxRow then nx1 group2 (af (i+1)) f f3 f4 (kids++[((-1),i,())]) (items++[(((kids++[((-1),i,())]).length:Int),(rd (0,0,0,0,()) f4 i).2.2.1,(rd (0,0,0,0,()) f4 i).2.2.2.1,())])else none else none else none else none) (nx1 group2 (af (i+1)) f f3 f4 kids items)else none) (ex1 kids items)
def A0(lo1:GI ((List U9)×(List U8)×Unit))(f0:Int)(f1 f2:List U7)(group:Int)(group2 f:Int)(f3 f4:List U7)(kids:List U9)(items:List U8):Option ((List U9)×(List U8)×Unit):=lo1 group2 0 f f3 f4 kids items
def A1(f0:Int)(f1 f2:List U7)(group:Int)(kids:List U9)(items:List U8):Option ((List U9)×(List U8)×Unit):=some (kids,items,())
def T(lo0:GK ((List U9)×(List U8)×Unit))(f0:Int)(f1 f2:List U7)(group:Int):Option ((List U9)×(List U8)×Unit):=(Dy (f0,f1,f2,())).bind fun y1=>lo0 group 0 f0 f1 f2 y1.1 ([]:List U9) ([]:List U8)
def K0{R:Type}(k0:Nat)(K:ai R):ai R:=aY 0 (bg (fun env ob=>zrc k0 [1,1,1,1,1] env ob (K)) (K))
def K1{R:Type}(k0:Nat)(K:ai R):ai R:=aY 2 (bg (fun env ob=>zrc k0 [1,1,1,1,1,1] env ob (K)) (K))
def L0:GK R:=fun group2 i f f3 f4 wants kids items=>iter 0 [1,2,6,7,8,9] [1,2,7,8] (zrc k0 [1,1,1,1,0,1,0,0]) k [(1,.int .i64 group2),(2,.ptr 0 0 0 0),(6,.own 1),(7,.own 2),(8,.own 3),(9,.int .i64 i)] [.box [.int .i64 f,.sl aC f3,.sl aC f4],.arr [CT.int .i64] wants,.arr eG kids,.arr ct0 items] K
def L1:GI R:=fun group2 i f f3 f4 kids items=>iter 0 [1,2,7,8,10] [7,8] (zrc k0 [1,1,1,1,1,0,1,0,0]) k [(1,.int .i64 group2),(2,.ptr 0 0 0 0),(7,.own 1),(8,.own 2),(10,.int .i64 i)] [.box [.int .i64 f,.sl aC f3,.sl aC f4],.arr eG kids,.arr ct0 items] K
def H0:QL R:=fun group2 f f3 f4 kids items=>K (.exit 0) [(1,.int .i64 group2),(2,.ptr 0 0 0 0),(7,.own 1),(8,.own 2)] [.box [.int .i64 f,.sl aC f3,.sl aC f4],.arr eG kids,.arr ct0 items]
def H1:QK R:=fun kids items=>K (.exit 2) [(7,.own 0),(8,.own 1)] [.arr eG kids,.arr ct0 items]
theorem zs0:L0 k0 (k+1) K=R0 (L0 k0 k K) (H0 K):=by kernel_rfl
theorem zs1:L1 k0 (k+1) K=R1 (L1 k0 k K) (H1 K):=by kernel_rfl
def G0{R:Type}(k0:Nat)(hx0:QL R):Nat→GK R
 |0=>fun _ _ _ _ _ _ _ _=>none
 |k+1=>R0 (G0 k0 hx0 k) hx0
theorem aK:∀ k,L0 k0 k K=G0 k0 (H0 K) k:=bG rfl fun k ih=>by rw[zs0,G0];(try simp only[ih]);try rfl
def G1{R:Type}(k0:Nat)(hx1:QK R):Nat→GI R
 |0=>fun _ _ _ _ _ _ _=>none
 |k+1=>R1 (G1 k0 hx1 k) hx1
theorem dO:∀ k,L1 k0 k K=G1 k0 (H1 K) k:=bG rfl fun k ih=>by rw[zs1,G1];(try simp only[ih,aK]);try rfl
variable (f0:Int) (f1 f2:List U7) (group:Int)
def aA:ai ((List U9)×(List U8)×Unit):=bV Tryz.prog [.tmp 4,.tmp 5] KO JW (f0,f1,f2,group,())
theorem aS:H0 (K0 k0 (aA f0 f1 f2 group))=A0 (L1 k0 k0 (K1 k0 (aA f0 f1 f2 group))) f0 f1 f2 group:=by kernel_rfl
theorem bW:H1 (K1 k0 (aA f0 f1 f2 group))=A1 f0 f1 f2 group:=by kernel_rfl
def FF:Option ((List U9)×(List U8)×Unit):=T (G0 k0 (A0 (G1 k0 (A1 f0 f1 f2 group) k0) f0 f1 f2 group) k0) f0 f1 f2 group
theorem aQ:bZ Tryz.prog (aP [(148,[],LP)]) ay k0 130 KO JW [] (f0,f1,f2,group,())=FF k0 f0 f1 f2 group:=Eq.trans (b:=T (L0 k0 k0 (K0 k0 (aA f0 f1 f2 group))) f0 f1 f2 group) (by kernel_rfl) (by rw[FF];(try simp only[aK,dO,aS,bW]);try rfl)
def _root_.Go.Rv.zW:=fun x:Int×(List U7)×(List U7)×Int×Unit=>FF (300+x.2.1.length+x.2.2.1.length) x.1 x.2.1 x.2.2.1 x.2.2.2.1
abbrev _root_.Go.Rv.MH:aG:=⟨KO,JW,zW,[]⟩
theorem _root_.Go.Rv.abR:aF Dr Tryz.prog 130 MH:=dh mix (.c abk .nil) (by kernel_rfl) fun x=>⟨ay,_,aQ _ _ _ _ _⟩
end iU
def Ul.T(a0 a1 b0 b1:Int):Option (U6):=cond (decide ((IntKind.u64.wrap (a1+b1))<a1)) (cond (decide ((IntKind.u64.wrap (a0+b0))<a0)) (some ((IntKind.u64.wrap ((IntKind.u64.wrap (a0+b0))+1)),(IntKind.u64.wrap (a1+b1)),true,0,())) (some ((IntKind.u64.wrap ((IntKind.u64.wrap (a0+b0))+1)),(IntKind.u64.wrap (a1+b1)),(decide ((IntKind.u64.wrap ((IntKind.u64.wrap (a0+b0))+1))<(IntKind.u64.wrap (a0+b0)))),0,()))) (cond (decide ((IntKind.u64.wrap (a0+b0))<a0)) (some ((IntKind.u64.wrap ((IntKind.u64.wrap (a0+b0))+0)),(IntKind.u64.wrap (a1+b1)),true,0,())) (some ((IntKind.u64.wrap ((IntKind.u64.wrap (a0+b0))+0)),(IntKind.u64.wrap (a1+b1)),(decide ((IntKind.u64.wrap ((IntKind.u64.wrap (a0+b0))+0))<(IntKind.u64.wrap (a0+b0)))),0,())))
def uQ:=fun x:U7=>Ul.T x.1 x.2.1 x.2.2.1 x.2.2.2.1
abbrev wS:aG:=⟨[.v true ct1,.v true ct1],[(true,Zb)],uQ,[]⟩
theorem Ls:aF Dr Tryz.prog 165 wS:=aW mix .nil (by kernel_rfl) fun x=>by kernel_rfl
abbrev KR:Is:=[.v true ct1,.v false [CT.int .i64]]
abbrev JZ:Os:=[(true,ct1)]
namespace rG
def ay:Nat→List Nat×List Nat:=fun k=>if k=3 then([1,2,4],[2,4])else([],[])
def zrc{R:Type}(k0:Nat)(p:List Nat):Env→List Ob→ai R→Option R:=bD Tryz.prog (aP [(165,[],wS)]) 21 0 ay k0 (bQ p (cZ Tryz.prog 168))
def R0{R:Type}(nx0:tY R)(ex0:rC R)(n2 a a2 t4x t4x2:Int):Option R:=cond (decide (n2>0)) ((uQ (a,a2,a,a2,())).bind fun y1=>nx0 (af (n2 - 1)) y1.1 y1.2.1 t4x t4x2) (ex0 a a2 t4x t4x2)
def A0(a0 a1 n:Int)(a a2 t4x t4x2:Int):Option (U9):=some (a,a2,())
def T(lo0:tY (U9))(a0 a1 n:Int):Option (U9):=cond (decide (n<0)) (some (0,0,())) (cond (decide (n>127)) (some (0,0,())) (lo0 n a0 a1 0 0))
def K0{R:Type}(k0:Nat)(K:ai R):ai R:=aY 0 (bg (fun env ob=>zrc k0 [1,1,1] env ob (K)) (K))
def L0:tY R:=fun n2 a a2 t4x t4x2=>iter 0 [1,2,4] [2,4] (zrc k0 [1,1,0,0,0]) k [(1,.int .i64 n2),(2,.ptr 0 0 0 0),(4,.ptr 1 0 0 0)] [.box [.int .u64 a,.int .u64 a2],.box [.int .u64 t4x,.int .u64 t4x2]] K
def H0:rC R:=fun a a2 t4x t4x2=>K (.exit 0) [(2,.ptr 0 0 0 0),(4,.ptr 1 0 0 0)] [.box [.int .u64 a,.int .u64 a2],.box [.int .u64 t4x,.int .u64 t4x2]]
theorem zs0:L0 k0 (k+1) K=R0 (L0 k0 k K) (H0 K):=by kernel_rfl
def G0{R:Type}(k0:Nat)(hx0:rC R):Nat→tY R
 |0=>fun _ _ _ _ _=>none
 |k+1=>R0 (G0 k0 hx0 k) hx0
theorem aK:∀ k,L0 k0 k K=G0 k0 (H0 K) k:=bG rfl fun k ih=>by rw[zs0,G0];(try simp only[ih]);try rfl
variable (a0 a1 n:Int)
def aA:ai (U9):=bV Tryz.prog [.cell 4 185] KR JZ (a0,a1,n,())
theorem aS:H0 (K0 k0 (aA a0 a1 n))=A0 a0 a1 n:=by kernel_rfl
def FF:Option (U9):=T (G0 k0 (A0 a0 a1 n) k0) a0 a1 n
theorem aQ:bZ Tryz.prog (aP [(165,[],wS)]) ay k0 168 KR JZ [] (a0,a1,n,())=FF k0 a0 a1 n:=Eq.trans (b:=T (L0 k0 k0 (K0 k0 (aA a0 a1 n))) a0 a1 n) (by kernel_rfl) (by rw[FF];(try simp only[aK,aS]);try rfl)
def _root_.Go.Rv.DZ:=fun x:U8=>FF (300) x.1 x.2.1 x.2.2.1
abbrev _root_.Go.Rv.MJ:aG:=⟨KR,JZ,DZ,[]⟩
theorem _root_.Go.Rv.abV:aF Dr Tryz.prog 168 MJ:=dh mix (.c Ls .nil) (by kernel_rfl) fun x=>⟨ay,_,aQ _ _ _ _⟩
end rG
abbrev KT:Is:=[.v false [CT.int .u64],.v false [CT.int .u64]]
abbrev J3:Os:=[(true,ct1)]
namespace qC
def ay:Nat→List Nat×List Nat:=fun k=>if k=3 then([0,1,4,5,6],[4,5])else([],[])
def zrc{R:Type}(k0:Nat)(p:List Nat):Env→List Ob→ai R→Option R:=bD Tryz.prog (aP [(165,[],wS),(168,[],MJ)]) 26 0 ay k0 (bQ p (cZ Tryz.prog 152))
def R0{R:Type}(nx0:GH R)(ex0:rC R)(a2 b2 kx t4x t4x2 sum sum2:Int):Option R:=cond (decide (kx<64)) (if(IntKind.u64.wrap (kx))<0 then none else cond ((IntKind.u64.wrap (((BitVec.ofInt 64 (Int.fdiv b2 (2 ^ (min (((IntKind.u64.wrap (kx)):Int)).toNat 64)))) &&& (BitVec.ofInt 64 1)).toNat))==1) ((DZ (0,a2,kx,())).bind fun y1=>(uQ (sum,sum2,y1.1,y1.2.1,())).bind fun y2=>nx0 a2 b2 (af (kx+1)) t4x t4x2 y2.1 y2.2.1) (nx0 a2 b2 (af (kx+1)) t4x t4x2 sum sum2)) (ex0 t4x t4x2 sum sum2)
def A0(a b:Int)(t4x t4x2 sum sum2:Int):Option (U9):=some (sum,sum2,())
def T(lo0:GH (U9))(a b:Int):Option (U9):=lo0 a b 0 0 0 0 0
def K0{R:Type}(k0:Nat)(K:ai R):ai R:=aY 0 (bg (fun env ob=>zrc k0 [1,1,1] env ob (K)) (K))
def L0:GH R:=fun a2 b2 kx t4x t4x2 sum sum2=>iter 0 [0,1,4,5,6] [4,5] (zrc k0 [1,1,0,1,0,0]) k [(0,.int .u64 a2),(1,.int .u64 b2),(4,.ptr 0 0 0 0),(5,.ptr 1 0 0 0),(6,.int .i64 kx)] [.box [.int .u64 t4x,.int .u64 t4x2],.box [.int .u64 sum,.int .u64 sum2]] K
def H0:rC R:=fun t4x t4x2 sum sum2=>K (.exit 0) [(4,.ptr 0 0 0 0),(5,.ptr 1 0 0 0)] [.box [.int .u64 t4x,.int .u64 t4x2],.box [.int .u64 sum,.int .u64 sum2]]
theorem zs0:L0 k0 (k+1) K=R0 (L0 k0 k K) (H0 K):=by kernel_rfl
def G0{R:Type}(k0:Nat)(hx0:rC R):Nat→GH R
 |0=>fun _ _ _ _ _ _ _=>none
 |k+1=>R0 (G0 k0 hx0 k) hx0
theorem aK:∀ k,L0 k0 k K=G0 k0 (H0 K) k:=bG rfl fun k ih=>by rw[zs0,G0];(try simp only[ih]);try rfl
variable (a b:Int)
def aA:ai (U9):=bV Tryz.prog [.cell 4 185] KT J3 (a,b,())
theorem aS:H0 (K0 k0 (aA a b))=A0 a b:=by kernel_rfl
def FF:Option (U9):=T (G0 k0 (A0 a b) k0) a b
theorem aQ:bZ Tryz.prog (aP [(165,[],wS),(168,[],MJ)]) ay k0 152 KT J3 [] (a,b,())=FF k0 a b:=Eq.trans (b:=T (L0 k0 k0 (K0 k0 (aA a b))) a b) (by kernel_rfl) (by rw[FF];(try simp only[aK,aS]);try rfl)
def _root_.Go.Rv.uO:=fun x:U9=>FF (300) x.1 x.2.1
abbrev _root_.Go.Rv.TB:aG:=⟨KT,J3,uO,[]⟩
theorem _root_.Go.Rv.SC:aF Dr Tryz.prog 152 TB:=dh mix (.c Ls (.c abV .nil)) (by kernel_rfl) fun x=>⟨ay,_,aQ _ _ _⟩
end qC
def Uk.T(a0 a1 b0 b1:Int):Option (Int×Unit):=cond (a0 != b0) (cond (decide (a0<b0)) (some ((-1),())) (some (1,()))) (cond (decide (a1<b1)) (some ((-1),())) (cond (decide (a1>b1)) (some (1,())) (some (0,()))))
def uP:=fun x:U7=>Uk.T x.1 x.2.1 x.2.2.1 x.2.2.2.1
abbrev TF:aG:=⟨[.v true ct1,.v true ct1],[(false,[CT.int .i64])],uP,[]⟩
theorem Lr:aF Dr Tryz.prog 164 TF:=aW mix .nil (by kernel_rfl) fun x=>by kernel_rfl
def TK.T(a b c d:Int):Option (Int×Unit):=(uO ((IntKind.u64.wrap (a)),(IntKind.u64.wrap (b)),())).bind fun y1=>(uO ((IntKind.u64.wrap (c)),(IntKind.u64.wrap (d)),())).bind fun y2=>(uP (y1.1,y1.2.1,y2.1,y2.2.1,())).bind fun y3=>some (y3.1,())
def wQ:=fun x:U7=>TK.T x.1 x.2.1 x.2.2.1 x.2.2.2.1
abbrev SS:aG:=⟨[.v false [CT.int .i64],.v false [CT.int .i64],.v false [CT.int .i64],.v false [CT.int .i64]],[(false,[CT.int .i64])],wQ,[]⟩
theorem RX:aF Dr Tryz.prog 150 SS:=aW mix (.c SC (.c Lr .nil)) (by kernel_rfl) fun x=>by kernel_rfl
def Tj.T(a0 a1 a2:Int):Option (Bool×Unit):=(kZ (a0,())).bind fun y1=>cond y1.1 ((dY (a1,())).bind fun y2=>cond y2.1 ((fZ (a2,())).bind fun y3=>some (y3.1,())) (some (false,()))) (some (false,()))
def zD:=fun x:U8=>Tj.T x.1 x.2.1 x.2.2.1
abbrev abG:aG:=⟨[.v true ct0],[(false,[CT.bool])],zD,[]⟩
theorem aaQ:aF Dr Tryz.prog 163 abG:=aW mix (.c zZ (.c wO (.c C9 .nil))) (by kernel_rfl) fun x=>by kernel_rfl
def TL.T(a0 a1 a2 b0 b1 b2:Int):Option (Int×Unit):=(zD (a0,a1,a2,())).bind fun y1=>cond (!y1.1) (some (0,())) ((zD (b0,b1,b2,())).bind fun y2=>cond (!y2.1) (some (0,())) ((wQ (a1,b2,b1,a2,())).bind fun y3=>cond (y3.1 != 0) (some (y3.1,())) (cond (decide (a0<b0)) (some ((-1),())) (cond (decide (a0>b0)) (some (1,())) (some (0,()))))))
def Dz:=fun x:Int×U5=>TL.T x.1 x.2.1 x.2.2.1 x.2.2.2.1 x.2.2.2.2.1 x.2.2.2.2.2.1
abbrev SV:aG:=⟨[.v true ct0,.v true ct0],[(false,[CT.int .i64])],Dz,[]⟩
theorem abm:aF Dr Tryz.prog 149 SV:=aW mix (.c RX (.c aaQ .nil)) (by kernel_rfl) fun x=>by kernel_rfl
abbrev KQ:Is:=[.v true ct1,.v false [CT.int .i64]]
abbrev JY:Os:=[(true,ct1)]
namespace rF
def ay:Nat→List Nat×List Nat:=fun k=>if k=3 then([1,2,4],[2,4])else([],[])
def zrc{R:Type}(k0:Nat)(p:List Nat):Env→List Ob→ai R→Option R:=bD Tryz.prog (aP []) 29 0 ay k0 (bQ p (cZ Tryz.prog 178))
def R0{R:Type}(nx0:tY R)(ex0:rC R)(n2 a a2 t4x t4x2:Int):Option R:=cond (decide (n2>0)) (if 2=0 then none else if 2=0 then none else if 2=0 then none else nx0 (af (n2 - 1)) (IntKind.u64.wrap (Int.tdiv a 2)) (IntKind.u64.wrap ((IntKind.u64.wrap (Int.tdiv a2 2))+(IntKind.u64.wrap ((Int.tmod a 2)*9223372036854775808)))) t4x t4x2) (ex0 a a2 t4x t4x2)
def A0(a0 a1 n:Int)(a a2 t4x t4x2:Int):Option (U9):=some (a,a2,())
def T(lo0:tY (U9))(a0 a1 n:Int):Option (U9):=cond (decide (n<0)) (some (0,0,())) (cond (decide (n>127)) (some (0,0,())) (lo0 n a0 a1 0 0))
def K0{R:Type}(k0:Nat)(K:ai R):ai R:=aY 0 (bg (fun env ob=>zrc k0 [1,1,1] env ob (K)) (K))
def L0:tY R:=fun n2 a a2 t4x t4x2=>iter 0 [1,2,4] [2,4] (zrc k0 [1,1,0,0,0]) k [(1,.int .i64 n2),(2,.ptr 0 0 0 0),(4,.ptr 1 0 0 0)] [.box [.int .u64 a,.int .u64 a2],.box [.int .u64 t4x,.int .u64 t4x2]] K
def H0:rC R:=fun a a2 t4x t4x2=>K (.exit 0) [(2,.ptr 0 0 0 0),(4,.ptr 1 0 0 0)] [.box [.int .u64 a,.int .u64 a2],.box [.int .u64 t4x,.int .u64 t4x2]]
theorem zs0:L0 k0 (k+1) K=R0 (L0 k0 k K) (H0 K):=by kernel_rfl
def G0{R:Type}(k0:Nat)(hx0:rC R):Nat→tY R
 |0=>fun _ _ _ _ _=>none
 |k+1=>R0 (G0 k0 hx0 k) hx0
theorem aK:∀ k,L0 k0 k K=G0 k0 (H0 K) k:=bG rfl fun k ih=>by rw[zs0,G0];(try simp only[ih]);try rfl
variable (a0 a1 n:Int)
def aA:ai (U9):=bV Tryz.prog [.cell 4 185] KQ JY (a0,a1,n,())
theorem aS:H0 (K0 k0 (aA a0 a1 n))=A0 a0 a1 n:=by kernel_rfl
def FF:Option (U9):=T (G0 k0 (A0 a0 a1 n) k0) a0 a1 n
theorem aQ:bZ Tryz.prog (aP []) ay k0 178 KQ JY [] (a0,a1,n,())=FF k0 a0 a1 n:=Eq.trans (b:=T (L0 k0 k0 (K0 k0 (aA a0 a1 n))) a0 a1 n) (by kernel_rfl) (by rw[FF];(try simp only[aK,aS]);try rfl)
def _root_.Go.Rv.DY:=fun x:U8=>FF (300) x.1 x.2.1 x.2.2.1
abbrev _root_.Go.Rv.acK:aG:=⟨KQ,JY,DY,[]⟩
theorem _root_.Go.Rv.abU:aF Dr Tryz.prog 178 acK:=dh mix .nil (by kernel_rfl) fun x=>⟨ay,_,aQ _ _ _ _⟩
end rF
def UC.T(a0 a1 ak:Int):Option (Int×Unit):=(DY (a0,a1,ak,())).bind fun y1=>some ((IntKind.u64.wrap (((BitVec.ofInt 64 y1.2.1) &&& (BitVec.ofInt 64 1)).toNat)),())
def Ee:=fun x:U8=>UC.T x.1 x.2.1 x.2.2.1
abbrev Ub:aG:=⟨[.v true ct1,.v false [CT.int .i64]],[(false,[CT.int .u64])],Ee,[]⟩
theorem acz:aF Dr Tryz.prog 166 Ub:=aW mix (.c abU .nil) (by kernel_rfl) fun x=>by kernel_rfl
def Uj.T(a0 a1 b0 b1:Int):Option (U6):=cond (decide (a1<b1)) ((uP (a0,a1,b0,b1,())).bind fun y1=>some ((IntKind.u64.wrap ((IntKind.u64.wrap (a0 - b0)) - 1)),(IntKind.u64.wrap (a1 - b1)),(decide (y1.1<0)),0,())) ((uP (a0,a1,b0,b1,())).bind fun y2=>some ((IntKind.u64.wrap (a0 - b0)),(IntKind.u64.wrap (a1 - b1)),(decide (y2.1<0)),0,()))
def DX:=fun x:U7=>Uj.T x.1 x.2.1 x.2.2.1 x.2.2.2.1
abbrev TA:aG:=⟨[.v true ct1,.v true ct1],[(true,Zb)],DX,[]⟩
theorem abT:aF Dr Tryz.prog 167 TA:=aW mix (.c Lr .nil) (by kernel_rfl) fun x=>by kernel_rfl
abbrev KU:Is:=[.v true ct1,.v false [CT.int .u64]]
abbrev J4:Os:=[(true,Zg)]
namespace pF
def dF:Tb:=[(164,[],TF),(165,[],wS),(166,[],Ub),(167,[],TA)]
def ay:Nat→List Nat×List Nat:=fun k=>if k=6 then([1,2,4,5,6,7],[4,5,6])else([],[])
def zrc{R:Type}(k0:Nat)(p:List Nat):Env→List Ob→ai R→Option R:=bD Tryz.prog (aP dF) 55 0 ay k0 (bQ p (cZ Tryz.prog 151))
def R0{R:Type}(nx0:Gz R)(ex0:zq R)(d2 kx a a2 t4x t4x2 t4x3 out out2 out3 rem rem2:Int):Option R:=cond (decide (kx≥0)) ((uQ (rem,rem2,rem,rem2,())).bind fun y1=>(Ee (a,a2,kx,())).bind fun y2=>(uQ (out,out2,out,out2,())).bind fun y3=>(uP (y1.1,(IntKind.u64.wrap (y1.2.1+y2.1)),0,d2,())).bind fun y4=>cond (decide (y4.1≥0)) ((DX (y1.1,(IntKind.u64.wrap (y1.2.1+y2.1)),0,d2,())).bind fun y5=>nx0 d2 (af (kx - 1)) a a2 t4x t4x2 t4x3 y3.1 (IntKind.u64.wrap (y3.2.1+1)) out3 y5.1 y5.2.1) (nx0 d2 (af (kx - 1)) a a2 t4x t4x2 t4x3 y3.1 y3.2.1 out3 y1.1 (IntKind.u64.wrap (y1.2.1+y2.1)))) (ex0 t4x t4x2 t4x3 out out2 out3 rem rem2)
def A0(a0 a1 d:Int)(t4x t4x2 t4x3 out out2 out3 rem rem2:Int):Option (U8):=some (out,out2,rem2,())
def T(lo0:Gz (U8))(a0 a1 d:Int):Option (U8):=cond (d==0) (some (0,0,0,())) (lo0 d 127 a0 a1 0 0 0 0 0 0 0 0)
def K0{R:Type}(k0:Nat)(K:ai R):ai R:=aY 0 (bg (fun env ob=>zrc k0 [1,1,1,1,1] env ob (K)) (K))
def L0:Gz R:=fun d2 kx a a2 t4x t4x2 t4x3 out out2 out3 rem rem2=>iter 0 [1,2,4,5,6,7] [4,5,6] (zrc k0 [1,1,1,1,0,1,0,0]) k [(1,.int .u64 d2),(2,.ptr 0 0 0 0),(4,.ptr 1 0 0 0),(5,.ptr 2 0 0 0),(6,.ptr 3 0 0 0),(7,.int .i64 kx)] [.box [.int .u64 a,.int .u64 a2],.box [.int .u64 t4x,.int .u64 t4x2,.int .u64 t4x3],.box [.int .u64 out,.int .u64 out2,.int .u64 out3],.box [.int .u64 rem,.int .u64 rem2]] K
def H0:zq R:=fun t4x t4x2 t4x3 out out2 out3 rem rem2=>K (.exit 0) [(4,.ptr 0 0 0 0),(5,.ptr 1 0 0 0),(6,.ptr 2 0 0 0)] [.box [.int .u64 t4x,.int .u64 t4x2,.int .u64 t4x3],.box [.int .u64 out,.int .u64 out2,.int .u64 out3],.box [.int .u64 rem,.int .u64 rem2]]
theorem zs0:L0 k0 (k+1) K=R0 (L0 k0 k K) (H0 K):=by kernel_rfl
def G0{R:Type}(k0:Nat)(hx0:zq R):Nat→Gz R
 |0=>fun _ _ _ _ _ _ _ _ _ _ _ _=>none
 |k+1=>R0 (G0 k0 hx0 k) hx0
theorem aK:∀ k,L0 k0 k K=G0 k0 (H0 K) k:=bG rfl fun k ih=>by rw[zs0,G0];(try simp only[ih]);try rfl
variable (a0 a1 d:Int)
def aA:ai (U8):=bV Tryz.prog [.cell 4 187] KU J4 (a0,a1,d,())
theorem aS:H0 (K0 k0 (aA a0 a1 d))=A0 a0 a1 d:=by kernel_rfl
def FF:Option (U8):=T (G0 k0 (A0 a0 a1 d) k0) a0 a1 d
theorem aQ:bZ Tryz.prog (aP dF) ay k0 151 KU J4 [] (a0,a1,d,())=FF k0 a0 a1 d:=Eq.trans (b:=T (L0 k0 k0 (K0 k0 (aA a0 a1 d))) a0 a1 d) (by kernel_rfl) (by rw[FF];(try simp only[aK,aS]);try rfl)
def _root_.Go.Rv.zX:=fun x:U8=>FF (300) x.1 x.2.1 x.2.2.1
abbrev _root_.Go.Rv.TD:aG:=⟨KU,J4,zX,[]⟩
theorem _root_.Go.Rv.abW:aF Dr Tryz.prog 151 TD:=dh mix (.c Lr (.c Ls (.c acz (.c abT .nil)))) (by kernel_rfl) fun x=>⟨ay,_,aQ _ _ _ _⟩
end pF
abbrev KP:Is:=[.v false [CT.int .i64],.v false [CT.sl ct0]]
abbrev JX:Os:=[(false,[CT.sl [CT.int .i64]])]
namespace dw
def dF:Tb:=[(149,[],SV),(150,[],SS),(151,[],TD),(152,[],TB)]
def ay:Nat→List Nat×List Nat:=fun k=>if k=6 then([1,5,6,7,8,9],[1,5,6,7,8])else if k=9 then([1,5,6,7,8],[1,4,5,6,7,8])else if k=11 then([1,5,6,7,8,10,11],[1,5,6,7,8,10])else if k=24 then([1,5,6,7,8,12,13],[1,5,6,12])else if k=30 then([1,5,6,12,14],[5])else([],[])
def zrc{R:Type}(k0:Nat)(p:List Nat):Env→List Ob→ai R→Option R:=bD Tryz.prog (aP dF) 167 0 ay k0 (bQ p (cZ Tryz.prog 131))
def R0{R:Type}(nx0:vZ R)(ex0:lK R)(list2:List U8)(rest all i:Int)(out:List (Int×Unit))(done:List (Bool×Unit)):Option R:=cond (decide (i<(list2.length:Int))) (if 0≤i∧i<(list2.length:Int)then nx0 list2 rest (af (all+(rd (0,0,0,()) list2 i).2.2.1)) (af (i+1)) out done else none) (ex0 list2 rest all out done)
def R1{R:Type}(lo2:tX R)(list2:List U8)(rest all:Int)(out:List (Int×Unit))(done:List (Bool×Unit)):Option R:=lo2 list2 rest all (-1) 0 out done
def R2{R:Type}(nx2:tX R)(ex1:vZ R)(list2:List U8)(rest all next i:Int)(out:List (Int×Unit))(done:List (Bool×Unit)):Option R:=cond (decide (i<(list2.length:Int))) (if 0≤i∧i<(done.length:Int)then cond (!(done.getD i.toNat (false,())).1) (cond (decide (next<0)) (nx2 list2 rest all i (af (i+1)) out done) (if 0≤i∧i<(list2.length:Int)then if 0≤next∧next<(list2.length:Int)then(Dz ((rd (0,0,0,()) list2 i).1,(rd (0,0,0,()) list2 i).2.1,(rd (0,0,0,()) list2 i).2.2.1,(rd (0,0,0,()) list2 next).1,(rd (0,0,0,()) list2 next).2.1,(rd (0,0,0,()) list2 next).2.2.1,())).bind fun y1=>cond (decide (y1.1<0)) (nx2 list2 rest all i (af (i+1)) out done) (nx2 list2 rest all next (af (i+1)) out done)else none else none)) (nx2 list2 rest all next (af (i+1)) out done)else none) (ex1 list2 rest all next out done)
def R3{R:Type}(nx3:tX R)(ru:QJ R)(list2:List U8)(rest all left i:Int)(out:List (Int×Unit))(done:List (Bool×Unit)):Option R:=cond (decide (i<(list2.length:Int))) (if 0≤i∧i<(done.length:Int)then cond (!(done.getD i.toNat (false,())).1) (if 0≤i∧i<(list2.length:Int)then(uO ((IntKind.u64.wrap (rest)),(IntKind.u64.wrap ((rd (0,0,0,()) list2 i).2.2.1)),())).bind fun y1=>(zX (y1.1,y1.2.1,(IntKind.u64.wrap (all)),())).bind fun y2=>if 0≤i∧i<(out.length:Int)then if 0≤i∧i<((out.set i.toNat ((af (y2.2.1)),())).length:Int)then nx3 list2 rest all (af (left - ((out.set i.toNat ((af (y2.2.1)),())).getD i.toNat (0,())).1)) (af (i+1)) (out.set i.toNat ((af (y2.2.1)),())) done else none else none else none) (nx3 list2 rest all left (af (i+1)) out done)else none) (ru list2 left out done)
def R4{R:Type}(nx4:lK R)(ex5:yX R)(list2:List U8)(left i:Int)(out:List (Int×Unit))(done:List (Bool×Unit)):Option R:=cond (decide (i<(list2.length:Int))) (cond (decide (left>0)) (if 0≤i∧i<(done.length:Int)then cond (!(done.getD i.toNat (false,())).1) (if 0≤i∧i<(out.length:Int)then if 0≤i∧i<(out.length:Int)then nx4 list2 (af (left - 1)) (af (i+1)) (out.set i.toNat ((af ((out.getD i.toNat (0,())).1+1)),())) done else none else none) (nx4 list2 left (af (i+1)) out done)else none) (ex5 out)) (ex5 out)
def A0(lo1:lK ((List (Int×Unit))×Unit))(amount:Int)(list:List U8)(list2:List U8)(rest all:Int)(out:List (Int×Unit))(done:List (Bool×Unit)):Option ((List (Int×Unit))×Unit):=lo1 list2 rest all out done
def A1{R:Type}(nx1 ex2 ex3:lK R)(list2:List U8)(rest all next:Int)(out:List (Int×Unit))(done:List (Bool×Unit)):Option R:=cond (decide (next<0)) (ex2 list2 rest all out done) (if 0≤next∧next<(list2.length:Int)then if 0≤next∧next<(list2.length:Int)then(wQ ((rd (0,0,0,()) list2 next).2.1,all,rest,(rd (0,0,0,()) list2 next).2.2.1,())).bind fun y1=>cond (decide (y1.1>0)) (ex3 list2 rest all out done) (if 0≤next∧next<(done.length:Int)then if 0≤next∧next<(list2.length:Int)then if 0≤next∧next<(out.length:Int)then if 0≤next∧next<(list2.length:Int)then if 0≤next∧next<(list2.length:Int)then nx1 list2 (af (rest - (rd (0,0,0,()) list2 next).2.1)) (af (all - (rd (0,0,0,()) list2 next).2.2.1)) (out.set next.toNat ((rd (0,0,0,()) list2 next).2.1,())) (done.set next.toNat (true,()))else none else none else none else none else none)else none else none)
def A2(amount:Int)(list:List U8)(list2:List U8)(rest all:Int)(t4x:List (Int×Unit))(done:List (Bool×Unit)):Option ((List (Int×Unit))×Unit):=some (t4x,())
def A3(lo3:tX ((List (Int×Unit))×Unit))(amount:Int)(list:List U8)(list2:List U8)(rest all:Int)(out:List (Int×Unit))(done:List (Bool×Unit)):Option ((List (Int×Unit))×Unit):=lo3 list2 rest all rest 0 out done
def A4(lo4:lK ((List (Int×Unit))×Unit))(amount:Int)(list:List U8)(list2:List U8)(left:Int)(out:List (Int×Unit))(done:List (Bool×Unit)):Option ((List (Int×Unit))×Unit):=lo4 list2 left 0 out done
def A5(amount:Int)(list:List U8)(out:List (Int×Unit)):Option ((List (Int×Unit))×Unit):=some (out,())
def T(lo0:vZ ((List (Int×Unit))×Unit))(amount:Int)(list:List U8):Option ((List (Int×Unit))×Unit):=if 0≤(list.length:Int)∧(8:Int)*(list.length:Int)≤281474976710656∧(list.length:Int)≤9223372036854775807 then if 0≤(list.length:Int)∧(1:Int)*(list.length:Int)≤281474976710656∧(list.length:Int)≤9223372036854775807 then lo0 list amount 0 0 (List.replicate (((list.length:Int):Int)).toNat (0,())) (List.replicate (((list.length:Int):Int)).toNat (false,()))else none else none
def K0{R:Type}(k0:Nat)(K:ai R):ai R:=aY 0 (bg (fun env ob=>zrc k0 [1,1,1,1,1,1] env ob (K)) (K))
def K1{R:Type}(k0:Nat)(K:ai R):ai R:=aY 2 (bg (fun env ob=>zrc k0 [1,1,1,1,1,1,1] env ob (K)) (K))
def K2{R:Type}(k0:Nat)(K:ai R):ai R:=aY 4 (bg (fun env ob=>zrc k0 [1,1,1,1,1,1,0,0,0,0,1,1] env ob (aY 3 (K))) (aY 3 (K)))
def K3{R:Type}(k0:Nat)(K:ai R):ai R:=aY 6 (bg (fun env ob=>zrc k0 [1,1,1,1,1,1,1,1,1] env ob (K)) (K))
def K4{R:Type}(k0:Nat)(K:ai R):ai R:=aY 8 (bg (fun env ob=>zrc k0 [1,1,1,1,1,1,1,1,1,1] env ob (K)) (K))
def P1:ai R:=vP 0 [1,5,6,7,8] [1,4,5,6,7,8] (fun env ob=>iter 0 [1,5,6,7,8] [1,4,5,6,7,8] (zrc k0 [1,1,1,1,1,1,0,0,0]) k env ob K) K
def L0:vZ R:=fun list2 rest all i out done=>iter 0 [1,5,6,7,8,9] [1,5,6,7,8] (zrc k0 [1,1,1,1,1,0,1,0,0]) k [(1,.sl ct0 list2),(5,.own 0),(6,.own 1),(7,.int .i64 rest),(8,.int .i64 all),(9,.int .i64 i)] [.arr [CT.int .i64] out,.arr [CT.bool] done] K
def L1:lK R:=fun list2 rest all out done=>iter 0 [1,5,6,7,8] [1,4,5,6,7,8] (zrc k0 [1,1,1,1,1,1,0,0,0]) k [(1,.sl ct0 list2),(5,.own 0),(6,.own 1),(7,.int .i64 rest),(8,.int .i64 all)] [.arr [CT.int .i64] out,.arr [CT.bool] done] K
def L2:tX R:=fun list2 rest all next i out done=>iter 0 [1,5,6,7,8,10,11] [1,5,6,7,8,10] (zrc k0 [1,1,1,1,1,1,0,0,0,0,1,0,1,0,0]) k [(1,.sl ct0 list2),(5,.own 0),(6,.own 1),(7,.int .i64 rest),(8,.int .i64 all),(10,.int .i64 next),(11,.int .i64 i)] [.arr [CT.int .i64] out,.arr [CT.bool] done] K
def L3:tX R:=fun list2 rest all left i out done=>iter 0 [1,5,6,7,8,12,13] [1,5,6,12] (zrc k0 [1,1,1,1,1,1,1,1,0,1,0,0]) k [(1,.sl ct0 list2),(5,.own 0),(6,.own 1),(7,.int .i64 rest),(8,.int .i64 all),(12,.int .i64 left),(13,.int .i64 i)] [.arr [CT.int .i64] out,.arr [CT.bool] done] K
def L4:lK R:=fun list2 left i out done=>iter 0 [1,5,6,12,14] [5] (zrc k0 [1,1,1,1,1,1,1,1,1,0,1,0,0]) k [(1,.sl ct0 list2),(5,.own 0),(6,.own 1),(12,.int .i64 left),(14,.int .i64 i)] [.arr [CT.int .i64] out,.arr [CT.bool] done] K
def H0:lK R:=fun list2 rest all out done=>K (.exit 0) [(1,.sl ct0 list2),(5,.own 0),(6,.own 1),(7,.int .i64 rest),(8,.int .i64 all)] [.arr [CT.int .i64] out,.arr [CT.bool] done]
def H1:vZ R:=fun list2 rest all next out done=>K (.exit 4) [(1,.sl ct0 list2),(5,.own 0),(6,.own 1),(7,.int .i64 rest),(8,.int .i64 all),(10,.int .i64 next)] [.arr [CT.int .i64] out,.arr [CT.bool] done]
def H2:lK R:=fun list2 rest all t4x done=>K .ret [(1,.sl ct0 list2),(4,.own 0),(5,.own 0),(6,.own 1),(7,.int .i64 rest),(8,.int .i64 all)] [.arr [CT.int .i64] t4x,.arr [CT.bool] done]
def H3:lK R:=fun list2 rest all out done=>K (.exit 2) [(1,.sl ct0 list2),(4,.undef),(5,.own 0),(6,.own 1),(7,.int .i64 rest),(8,.int .i64 all)] [.arr [CT.int .i64] out,.arr [CT.bool] done]
def H4:QJ R:=fun list2 left out done=>K (.exit 6) [(1,.sl ct0 list2),(5,.own 0),(6,.own 1),(12,.int .i64 left)] [.arr [CT.int .i64] out,.arr [CT.bool] done]
def H5:yX R:=fun out=>K (.exit 8) [(5,.own 0)] [.arr [CT.int .i64] out]
theorem zs0:L0 k0 (k+1) K=R0 (L0 k0 k K) (H0 K):=by kernel_rfl
theorem zs1:L1 k0 (k+1) K=R1 (L2 k0 k0 (K2 k0 (P1 k0 k K))):=by kernel_rfl
theorem zs2:L2 k0 (k+1) K=R2 (L2 k0 k K) (H1 K):=by kernel_rfl
theorem Qu:L3 k0 (k+1) K=R3 (L3 k0 k K) (H4 K):=by kernel_rfl
theorem Qs:L4 k0 (k+1) K=R4 (L4 k0 k K) (H5 K):=by kernel_rfl
theorem bW:H1 (K2 k0 (P1 k0 k K))=A1 (L1 k0 k K) (H2 K) (H3 K):=by kernel_rfl
def G0{R:Type}(k0:Nat)(hx0:lK R):Nat→vZ R
 |0=>fun _ _ _ _ _ _=>none
 |k+1=>R0 (G0 k0 hx0 k) hx0
theorem aK:∀ k,L0 k0 k K=G0 k0 (H0 K) k:=bG rfl fun k ih=>by rw[zs0,G0];(try simp only[ih]);try rfl
def G2{R:Type}(k0:Nat)(hx1:vZ R):Nat→tX R
 |0=>fun _ _ _ _ _ _ _=>none
 |k+1=>R2 (G2 k0 hx1 k) hx1
theorem kV:∀ k,L2 k0 k K=G2 k0 (H1 K) k:=bG rfl fun k ih=>by rw[zs2,G2];(try simp only[ih,aK]);try rfl
def G1{R:Type}(k0:Nat)(hx2 hx3:lK R):Nat→lK R
 |0=>fun _ _ _ _ _=>none
 |k+1=>R1 (G2 k0 (A1 (G1 k0 hx2 hx3 k) hx2 hx3) k0)
theorem dO:∀ k,L1 k0 k K=G1 k0 (H2 K) (H3 K) k:=bG rfl fun k ih=>by rw[zs1,G1];(try simp only[ih,aK,kV,bW]);try rfl
def G3{R:Type}(k0:Nat)(hx4:QJ R):Nat→tX R
 |0=>fun _ _ _ _ _ _ _=>none
 |k+1=>R3 (G3 k0 hx4 k) hx4
theorem yP:∀ k,L3 k0 k K=G3 k0 (H4 K) k:=bG rfl fun k ih=>by rw[Qu,G3];(try simp only[ih,aK,kV,dO]);try rfl
def G4{R:Type}(k0:Nat)(hx5:yX R):Nat→lK R
 |0=>fun _ _ _ _ _=>none
 |k+1=>R4 (G4 k0 hx5 k) hx5
theorem Qv:∀ k,L4 k0 k K=G4 k0 (H5 K) k:=bG rfl fun k ih=>by rw[Qs,G4];(try simp only[ih,aK,kV,dO,yP]);try rfl
variable (amount:Int) (list:List U8)
def aA:ai ((List (Int×Unit))×Unit):=bV Tryz.prog [.tmp 4] KP JX (amount,list,())
theorem aS:H0 (K0 k0 (aA amount list))=A0 (L1 k0 k0 (K1 k0 (aA amount list))) amount list:=by kernel_rfl
theorem l9:H2 (K1 k0 (aA amount list))=A2 amount list:=by kernel_rfl
theorem rq:H3 (K1 k0 (aA amount list))=A3 (L3 k0 k0 (K3 k0 (aA amount list))) amount list:=by kernel_rfl
theorem Qw:H4 (K3 k0 (aA amount list))=A4 (L4 k0 k0 (K4 k0 (aA amount list))) amount list:=by kernel_rfl
theorem za5:H5 (K4 k0 (aA amount list))=A5 amount list:=by kernel_rfl
def FF:Option ((List (Int×Unit))×Unit):=T (G0 k0 (A0 (G1 k0 (A2 amount list) (A3 (G3 k0 (A4 (G4 k0 (A5 amount list) k0) amount list) k0) amount list) k0) amount list) k0) amount list
theorem aQ:bZ Tryz.prog (aP dF) ay k0 131 KP JX [] (amount,list,())=FF k0 amount list:=Eq.trans (b:=T (L0 k0 k0 (K0 k0 (aA amount list))) amount list) (by kernel_rfl) (by rw[FF];(try simp only[aK,kV,dO,yP,Qv,aS,l9,rq,Qw,za5]);try rfl)
def _root_.Go.Rv.wV:=fun x:Int×(List U8)×Unit=>FF (300+x.2.1.length) x.1 x.2.1
abbrev _root_.Go.Rv.MI:aG:=⟨KP,JX,wV,[]⟩
theorem _root_.Go.Rv.abS:aF Dr Tryz.prog 131 MI:=dh mix (.c abm (.c RX (.c abW (.c SC .nil)))) (by kernel_rfl) fun x=>⟨ay,_,aQ _ _ _⟩
end dw
end Go.Rv
end
