/- What functions come to on pure values (printed by a program of ours). -/
import Derived.Test.YtmgahpicfjpjaaaGreatEM18
set_option linter.unusedVariables false
set_option linter.unusedSimpArgs false
set_option linter.unusedSectionVars false
set_option maxRecDepth 100000
noncomputable section
namespace Go.Rv
open Go.Proofs
variable {Dr:Kn} {R:Type} (k0 k:Nat) (K:ai R)
abbrev KT:Is:=[.v false [CT.int .i64],.v false [CT.sl ct0]]
abbrev JY:Os:=[(false,[CT.sl [CT.int .i64]])]
namespace dw
def dD:Tb:=[(149,[],SY),(150,[],SX),(151,[],TG),(152,[],TF)]
def ay:Nat→List Nat×List Nat:=fun k=>if k=6 then([1,5,6,7,8,9],[1,5,6,7,8])else if k=9 then([1,5,6,7,8],[1,4,5,6,7,8])else if k=11 then([1,5,6,7,8,10,11],[1,5,6,7,8,10])else if k=24 then([1,5,6,7,8,12,13],[1,5,6,12])else if k=30 then([1,5,6,12,14],[5])else([],[])
def zrc{R:Type}(k0:Nat)(p:List Nat):Env→List Ob→ai R→Option R:=bD Tryz.prog (aP dD) 167 0 ay k0 (bQ p (cZ Tryz.prog 131))
def R0{R:Type}(nx0:vZ R)(ex0:lN R)(list2:List U8)(rest all i:Int)(out:List (Int×Unit))(done:List (Bool×Unit)):Option R:=cond (decide (i<(list2.length:Int))) (if 0≤i∧i<(list2.length:Int)then nx0 list2 rest (af (all+(rd (0,0,0,()) list2 i).2.2.1)) (af (i+1)) out done else none) (ex0 list2 rest all out done)
def R1{R:Type}(lo2:tY R)(list2:List U8)(rest all:Int)(out:List (Int×Unit))(done:List (Bool×Unit)):Option R:=lo2 list2 rest all (-1) 0 out done
def R2{R:Type}(nx2:tY R)(ex1:vZ R)(list2:List U8)(rest all next i:Int)(out:List (Int×Unit))(done:List (Bool×Unit)):Option R:=cond (decide (i<(list2.length:Int))) (if 0≤i∧i<(done.length:Int)then cond (!(done.getD i.toNat (false,())).1) (cond (decide (next<0)) (nx2 list2 rest all i (af (i+1)) out done) (if 0≤i∧i<(list2.length:Int)then if 0≤next∧next<(list2.length:Int)then(Dx ((rd (0,0,0,()) list2 i).1,(rd (0,0,0,()) list2 i).2.1,(rd (0,0,0,()) list2 i).2.2.1,(rd (0,0,0,()) list2 next).1,(rd (0,0,0,()) list2 next).2.1,(rd (0,0,0,()) list2 next).2.2.1,())).bind fun y1=>cond (decide (y1.1<0)) (nx2 list2 rest all i (af (i+1)) out done) (nx2 list2 rest all next (af (i+1)) out done)else none else none)) (nx2 list2 rest all next (af (i+1)) out done)else none) (ex1 list2 rest all next out done)
def R3{R:Type}(nx3:tY R)(ru:QH R)(list2:List U8)(rest all left i:Int)(out:List (Int×Unit))(done:List (Bool×Unit)):Option R:=cond (decide (i<(list2.length:Int))) (if 0≤i∧i<(done.length:Int)then cond (!(done.getD i.toNat (false,())).1) (if 0≤i∧i<(list2.length:Int)then(uO ((IntKind.u64.wrap (rest)),(IntKind.u64.wrap ((rd (0,0,0,()) list2 i).2.2.1)),())).bind fun y1=>(Aa (y1.1,y1.2.1,(IntKind.u64.wrap (all)),())).bind fun y2=>if 0≤i∧i<(out.length:Int)then if 0≤i∧i<((out.set i.toNat ((af (y2.2.1)),())).length:Int)then nx3 list2 rest all (af (left - ((out.set i.toNat ((af (y2.2.1)),())).getD i.toNat (0,())).1)) (af (i+1)) (out.set i.toNat ((af (y2.2.1)),())) done else none else none else none) (nx3 list2 rest all left (af (i+1)) out done)else none) (ru list2 left out done)
def R4{R:Type}(nx4:lN R)(ex5:yZ R)(list2:List U8)(left i:Int)(out:List (Int×Unit))(done:List (Bool×Unit)):Option R:=cond (decide (i<(list2.length:Int))) (cond (decide (left>0)) (if 0≤i∧i<(done.length:Int)then cond (!(done.getD i.toNat (false,())).1) (if 0≤i∧i<(out.length:Int)then if 0≤i∧i<(out.length:Int)then nx4 list2 (af (left - 1)) (af (i+1)) (out.set i.toNat ((af ((out.getD i.toNat (0,())).1+1)),())) done else none else none) (nx4 list2 left (af (i+1)) out done)else none) (ex5 out)) (ex5 out)
def A0(lo1:lN ((List (Int×Unit))×Unit))(amount:Int)(list:List U8)(list2:List U8)(rest all:Int)(out:List (Int×Unit))(done:List (Bool×Unit)):Option ((List (Int×Unit))×Unit):=lo1 list2 rest all out done
def A1{R:Type}(nx1 ex2 ex3:lN R)(list2:List U8)(rest all next:Int)(out:List (Int×Unit))(done:List (Bool×Unit)):Option R:=cond (decide (next<0)) (ex2 list2 rest all out done) (if 0≤next∧next<(list2.length:Int)then if 0≤next∧next<(list2.length:Int)then(wQ ((rd (0,0,0,()) list2 next).2.1,all,rest,(rd (0,0,0,()) list2 next).2.2.1,())).bind fun y1=>cond (decide (y1.1>0)) (ex3 list2 rest all out done) (if 0≤next∧next<(done.length:Int)then if 0≤next∧next<(list2.length:Int)then if 0≤next∧next<(out.length:Int)then if 0≤next∧next<(list2.length:Int)then if 0≤next∧next<(list2.length:Int)then nx1 list2 (af (rest - (rd (0,0,0,()) list2 next).2.1)) (af (all - (rd (0,0,0,()) list2 next).2.2.1)) (out.set next.toNat ((rd (0,0,0,()) list2 next).2.1,())) (done.set next.toNat (true,()))else none else none else none else none else none)else none else none)
def A2(amount:Int)(list:List U8)(list2:List U8)(rest all:Int)(t4x:List (Int×Unit))(done:List (Bool×Unit)):Option ((List (Int×Unit))×Unit):=some (t4x,())
def A3(lo3:tY ((List (Int×Unit))×Unit))(amount:Int)(list:List U8)(list2:List U8)(rest all:Int)(out:List (Int×Unit))(done:List (Bool×Unit)):Option ((List (Int×Unit))×Unit):=lo3 list2 rest all rest 0 out done
def A4(lo4:lN ((List (Int×Unit))×Unit))(amount:Int)(list:List U8)(list2:List U8)(left:Int)(out:List (Int×Unit))(done:List (Bool×Unit)):Option ((List (Int×Unit))×Unit):=lo4 list2 left 0 out done
def A5(amount:Int)(list:List U8)(out:List (Int×Unit)):Option ((List (Int×Unit))×Unit):=some (out,())
def T(lo0:vZ ((List (Int×Unit))×Unit))(amount:Int)(list:List U8):Option ((List (Int×Unit))×Unit):=if 0≤(list.length:Int)∧(8:Int)*(list.length:Int)≤281474976710656∧(list.length:Int)≤9223372036854775807 then if 0≤(list.length:Int)∧(1:Int)*(list.length:Int)≤281474976710656∧(list.length:Int)≤9223372036854775807 then lo0 list amount 0 0 (List.replicate (((list.length:Int):Int)).toNat (0,())) (List.replicate (((list.length:Int):Int)).toNat (false,()))else none else none
def K0{R:Type}(k0:Nat)(K:ai R):ai R:=aY 0 (bg (fun env ob=>zrc k0 [1,1,1,1,1,1] env ob (K)) (K))
def K1{R:Type}(k0:Nat)(K:ai R):ai R:=aY 2 (bg (fun env ob=>zrc k0 [1,1,1,1,1,1,1] env ob (K)) (K))
def K2{R:Type}(k0:Nat)(K:ai R):ai R:=aY 4 (bg (fun env ob=>zrc k0 [1,1,1,1,1,1,0,0,0,0,1,1] env ob (aY 3 (K))) (aY 3 (K)))
def K3{R:Type}(k0:Nat)(K:ai R):ai R:=aY 6 (bg (fun env ob=>zrc k0 [1,1,1,1,1,1,1,1,1] env ob (K)) (K))
def K4{R:Type}(k0:Nat)(K:ai R):ai R:=aY 8 (bg (fun env ob=>zrc k0 [1,1,1,1,1,1,1,1,1,1] env ob (K)) (K))
def P1:ai R:=vP 0 [1,5,6,7,8] [1,4,5,6,7,8] (fun env ob=>iter 0 [1,5,6,7,8] [1,4,5,6,7,8] (zrc k0 [1,1,1,1,1,1,0,0,0]) k env ob K) K
def L0:vZ R:=fun list2 rest all i out done=>iter 0 [1,5,6,7,8,9] [1,5,6,7,8] (zrc k0 [1,1,1,1,1,0,1,0,0]) k [(1,.sl ct0 list2),(5,.own 0),(6,.own 1),(7,.int .i64 rest),(8,.int .i64 all),(9,.int .i64 i)] [.arr [CT.int .i64] out,.arr [CT.bool] done] K
def L1:lN R:=fun list2 rest all out done=>iter 0 [1,5,6,7,8] [1,4,5,6,7,8] (zrc k0 [1,1,1,1,1,1,0,0,0]) k [(1,.sl ct0 list2),(5,.own 0),(6,.own 1),(7,.int .i64 rest),(8,.int .i64 all)] [.arr [CT.int .i64] out,.arr [CT.bool] done] K
def L2:tY R:=fun list2 rest all next i out done=>iter 0 [1,5,6,7,8,10,11] [1,5,6,7,8,10] (zrc k0 [1,1,1,1,1,1,0,0,0,0,1,0,1,0,0]) k [(1,.sl ct0 list2),(5,.own 0),(6,.own 1),(7,.int .i64 rest),(8,.int .i64 all),(10,.int .i64 next),(11,.int .i64 i)] [.arr [CT.int .i64] out,.arr [CT.bool] done] K
def L3:tY R:=fun list2 rest all left i out done=>iter 0 [1,5,6,7,8,12,13] [1,5,6,12] (zrc k0 [1,1,1,1,1,1,1,1,0,1,0,0]) k [(1,.sl ct0 list2),(5,.own 0),(6,.own 1),(7,.int .i64 rest),(8,.int .i64 all),(12,.int .i64 left),(13,.int .i64 i)] [.arr [CT.int .i64] out,.arr [CT.bool] done] K
def L4:lN R:=fun list2 left i out done=>iter 0 [1,5,6,12,14] [5] (zrc k0 [1,1,1,1,1,1,1,1,1,0,1,0,0]) k [(1,.sl ct0 list2),(5,.own 0),(6,.own 1),(12,.int .i64 left),(14,.int .i64 i)] [.arr [CT.int .i64] out,.arr [CT.bool] done] K
def H0:lN R:=fun list2 rest all out done=>K (.exit 0) [(1,.sl ct0 list2),(5,.own 0),(6,.own 1),(7,.int .i64 rest),(8,.int .i64 all)] [.arr [CT.int .i64] out,.arr [CT.bool] done]
def H1:vZ R:=fun list2 rest all next out done=>K (.exit 4) [(1,.sl ct0 list2),(5,.own 0),(6,.own 1),(7,.int .i64 rest),(8,.int .i64 all),(10,.int .i64 next)] [.arr [CT.int .i64] out,.arr [CT.bool] done]
def H2:lN R:=fun list2 rest all t4x done=>K .ret [(1,.sl ct0 list2),(4,.own 0),(5,.own 0),(6,.own 1),(7,.int .i64 rest),(8,.int .i64 all)] [.arr [CT.int .i64] t4x,.arr [CT.bool] done]
def H3:lN R:=fun list2 rest all out done=>K (.exit 2) [(1,.sl ct0 list2),(4,.undef),(5,.own 0),(6,.own 1),(7,.int .i64 rest),(8,.int .i64 all)] [.arr [CT.int .i64] out,.arr [CT.bool] done]
def H4:QH R:=fun list2 left out done=>K (.exit 6) [(1,.sl ct0 list2),(5,.own 0),(6,.own 1),(12,.int .i64 left)] [.arr [CT.int .i64] out,.arr [CT.bool] done]
def H5:yZ R:=fun out=>K (.exit 8) [(5,.own 0)] [.arr [CT.int .i64] out]
theorem zs0:L0 k0 (k+1) K=R0 (L0 k0 k K) (H0 K):=by kernel_rfl
theorem zs1:L1 k0 (k+1) K=R1 (L2 k0 k0 (K2 k0 (P1 k0 k K))):=by kernel_rfl
theorem zs2:L2 k0 (k+1) K=R2 (L2 k0 k K) (H1 K):=by kernel_rfl
theorem Qs:L3 k0 (k+1) K=R3 (L3 k0 k K) (H4 K):=by kernel_rfl
theorem Qr:L4 k0 (k+1) K=R4 (L4 k0 k K) (H5 K):=by kernel_rfl
theorem bU:H1 (K2 k0 (P1 k0 k K))=A1 (L1 k0 k K) (H2 K) (H3 K):=by kernel_rfl
def G0{R:Type}(k0:Nat)(hx0:lN R):Nat→vZ R
 |0=>fun _ _ _ _ _ _=>none
 |k+1=>R0 (G0 k0 hx0 k) hx0
theorem aK:∀ k,L0 k0 k K=G0 k0 (H0 K) k:=bG rfl fun k ih=>by rw[zs0,G0];(try simp only[ih]);try rfl
def G2{R:Type}(k0:Nat)(hx1:vZ R):Nat→tY R
 |0=>fun _ _ _ _ _ _ _=>none
 |k+1=>R2 (G2 k0 hx1 k) hx1
theorem kV:∀ k,L2 k0 k K=G2 k0 (H1 K) k:=bG rfl fun k ih=>by rw[zs2,G2];(try simp only[ih,aK]);try rfl
def G1{R:Type}(k0:Nat)(hx2 hx3:lN R):Nat→lN R
 |0=>fun _ _ _ _ _=>none
 |k+1=>R1 (G2 k0 (A1 (G1 k0 hx2 hx3 k) hx2 hx3) k0)
theorem dO:∀ k,L1 k0 k K=G1 k0 (H2 K) (H3 K) k:=bG rfl fun k ih=>by rw[zs1,G1];(try simp only[ih,aK,kV,bU]);try rfl
def G3{R:Type}(k0:Nat)(hx4:QH R):Nat→tY R
 |0=>fun _ _ _ _ _ _ _=>none
 |k+1=>R3 (G3 k0 hx4 k) hx4
theorem yR:∀ k,L3 k0 k K=G3 k0 (H4 K) k:=bG rfl fun k ih=>by rw[Qs,G3];(try simp only[ih,aK,kV,dO]);try rfl
def G4{R:Type}(k0:Nat)(hx5:yZ R):Nat→lN R
 |0=>fun _ _ _ _ _=>none
 |k+1=>R4 (G4 k0 hx5 k) hx5
theorem Qu:∀ k,L4 k0 k K=G4 k0 (H5 K) k:=bG rfl fun k ih=>by rw[Qr,G4];(try simp only[ih,aK,kV,dO,yR]);try rfl
variable (amount:Int) (list:List U8)
def aA:ai ((List (Int×Unit))×Unit):=bW Tryz.prog [.tmp 4] KT JY (amount,list,())
theorem aS:H0 (K0 k0 (aA amount list))=A0 (L1 k0 k0 (K1 k0 (aA amount list))) amount list:=by kernel_rfl
theorem mr:H2 (K1 k0 (aA amount list))=A2 amount list:=by kernel_rfl
theorem rq:H3 (K1 k0 (aA amount list))=A3 (L3 k0 k0 (K3 k0 (aA amount list))) amount list:=by kernel_rfl
theorem Qv:H4 (K3 k0 (aA amount list))=A4 (L4 k0 k0 (K4 k0 (aA amount list))) amount list:=by kernel_rfl
theorem za5:H5 (K4 k0 (aA amount list))=A5 amount list:=by kernel_rfl
def FF:Option ((List (Int×Unit))×Unit):=T (G0 k0 (A0 (G1 k0 (A2 amount list) (A3 (G3 k0 (A4 (G4 k0 (A5 amount list) k0) amount list) k0) amount list) k0) amount list) k0) amount list
theorem aQ:bZ Tryz.prog (aP dD) ay k0 131 KT JY [] (amount,list,())=FF k0 amount list:=Eq.trans (b:=T (L0 k0 k0 (K0 k0 (aA amount list))) amount list) (by kernel_rfl) (by rw[FF];(try simp only[aK,kV,dO,yR,Qu,aS,mr,rq,Qv,za5]);try rfl)
def _root_.Go.Rv.wV:=fun x:Int×(List U8)×Unit=>FF (300+x.2.1.length) x.1 x.2.1
abbrev _root_.Go.Rv.MK:aG:=⟨KT,JY,wV,[]⟩
theorem _root_.Go.Rv.abY:aF Dr Tryz.prog 131 MK:=dh mix (.c abu (.c RY (.c ab3 (.c SE .nil)))) (by kernel_rfl) fun x=>⟨ay,_,aQ _ _ _⟩
end dw
abbrev LJ:Is:=[.v true eH]
abbrev KI:Os:=[(false,[CT.sl [CT.int .i64]]),(false,[CT.sl [CT.int .i64]])]
namespace gI
def ay:Nat→List Nat×List Nat:=fun k=>if k=4 then([1,4,5,6],[4,5])else if k=14 then([1,4,5,6,9,11,12],[1,4,5,6])else([],[])
def zrc{R:Type}(k0:Nat)(p:List Nat):Env→List Ob→ai R→Option R:=bD Tryz.prog (aP [(130,[],MJ),(131,[],MK)]) 87 0 ay k0 (bQ p (cZ Tryz.prog 102))
def R0{R:Type}(ex0:QG R)(lo1:Gu R)(g f:Int)(f3 f4:List U7)(groups members:List (Int×Unit)):Option R:=cond (decide (g<(f3.length:Int))) (cond (decide (g≥0)) (if 0≤g∧g<(f3.length:Int)then if 0≤g∧g<(groups.length:Int)then(zZ (f,f3,f4,(rd (0,0,0,0,()) f3 g).1,())).bind fun y1=>(wV ((groups.getD g.toNat (0,())).1,y1.2.1,())).bind fun y2=>lo1 g 0 f f3 f4 groups members y1.1 y2.1 else none else none) ((zZ (f,f3,f4,0,())).bind fun y3=>(wV (f,y3.2.1,())).bind fun y4=>lo1 g 0 f f3 f4 groups members y3.1 y4.1)) (ex0 groups members)
def R1{R:Type}(nx1:Gu R)(ex1:vY R)(g i f:Int)(f3 f4:List U7)(groups members:List (Int×Unit))(kids:List U9)(parts:List (Int×Unit)):Option R:=cond (decide (i<(kids.length:Int))) (if 0≤i∧i<(kids.length:Int)then cond (decide ((kids.getD i.toNat (0,0,())).1≥0)) (if 0≤i∧i<(kids.length:Int)then if 0≤i∧i<(parts.length:Int)then if 0≤(kids.getD i.toNat (0,0,())).1∧(kids.getD i.toNat (0,0,())).1<(groups.length:Int)then nx1 g (af (i+1)) f f3 f4 (groups.set (((kids.getD i.toNat (0,0,())).1).toNat) ((parts.getD i.toNat (0,())).1,())) members kids parts else none else none else none) (if 0≤i∧i<(kids.length:Int)then if 0≤i∧i<(parts.length:Int)then if 0≤(kids.getD i.toNat (0,0,())).2.1∧(kids.getD i.toNat (0,0,())).2.1<(members.length:Int)then nx1 g (af (i+1)) f f3 f4 groups (members.set (((kids.getD i.toNat (0,0,())).2.1).toNat) ((parts.getD i.toNat (0,())).1,())) kids parts else none else none else none)else none) (ex1 g f f3 f4 groups members)
def A0(f0:Int)(f1 f2:List U7)(groups members:List (Int×Unit)):Option ((List (Int×Unit))×(List (Int×Unit))×Unit):=some (groups,members,())
def A1{R:Type}(nx0:vY R)(g f:Int)(f3 f4:List U7)(groups members:List (Int×Unit)):Option R:=nx0 (af (g+1)) f f3 f4 groups members
def T(lo0:vY ((List (Int×Unit))×(List (Int×Unit))×Unit))(f0:Int)(f1 f2:List U7):Option ((List (Int×Unit))×(List (Int×Unit))×Unit):=if 0≤(f1.length:Int)∧(8:Int)*(f1.length:Int)≤281474976710656∧(f1.length:Int)≤9223372036854775807 then if 0≤(f2.length:Int)∧(8:Int)*(f2.length:Int)≤281474976710656∧(f2.length:Int)≤9223372036854775807 then lo0 (-1) f0 f1 f2 (List.replicate (((f1.length:Int):Int)).toNat (0,())) (List.replicate (((f2.length:Int):Int)).toNat (0,()))else none else none
def K0{R:Type}(k0:Nat)(K:ai R):ai R:=aY 0 (bg (fun env ob=>zrc k0 [1,1,1,1] env ob (K)) (K))
def K1{R:Type}(k0:Nat)(K:ai R):ai R:=aY 2 (aY 1 (bg (fun env ob=>zrc k0 [1,1,1,0,1,0,0,1,1] env ob (K)) (K)))
def P0:ai R:=vP 0 [1,4,5,6] [4,5] (fun env ob=>iter 0 [1,4,5,6] [4,5] (zrc k0 [1,1,1,0,1,0,0]) k env ob K) K
def L0:vY R:=fun g f f3 f4 groups members=>iter 0 [1,4,5,6] [4,5] (zrc k0 [1,1,1,0,1,0,0]) k [(1,.ptr 0 0 0 0),(4,.own 1),(5,.own 2),(6,.int .i64 g)] [.box [.int .i64 f,.sl aC f3,.sl aC f4],.arr [CT.int .i64] groups,.arr [CT.int .i64] members] K
def L1:Gu R:=fun g i f f3 f4 groups members kids parts=>iter 0 [1,4,5,6,9,11,12] [1,4,5,6] (zrc k0 [1,1,1,0,1,0,0,1,0,0,1,1,1,1,1,1,0,0]) k [(1,.ptr 0 0 0 0),(4,.own 1),(5,.own 2),(6,.int .i64 g),(9,.own 3),(11,.own 4),(12,.int .i64 i)] [.box [.int .i64 f,.sl aC f3,.sl aC f4],.arr [CT.int .i64] groups,.arr [CT.int .i64] members,.arr eG kids,.arr [CT.int .i64] parts] K
def H0:QG R:=fun groups members=>K (.exit 0) [(4,.own 0),(5,.own 1)] [.arr [CT.int .i64] groups,.arr [CT.int .i64] members]
def H1:vY R:=fun g f f3 f4 groups members=>K (.exit 2) [(1,.ptr 0 0 0 0),(4,.own 1),(5,.own 2),(6,.int .i64 g)] [.box [.int .i64 f,.sl aC f3,.sl aC f4],.arr [CT.int .i64] groups,.arr [CT.int .i64] members]
theorem zs0:L0 k0 (k+1) K=R0 (H0 K) (L1 k0 k0 (K1 k0 (P0 k0 k K))):=by kernel_rfl
theorem zs1:L1 k0 (k+1) K=R1 (L1 k0 k K) (H1 K):=by kernel_rfl
theorem bU:H1 (K1 k0 (P0 k0 k K))=A1 (L0 k0 k K):=by kernel_rfl
def G1{R:Type}(k0:Nat)(hx1:vY R):Nat→Gu R
 |0=>fun _ _ _ _ _ _ _ _ _=>none
 |k+1=>R1 (G1 k0 hx1 k) hx1
theorem dO:∀ k,L1 k0 k K=G1 k0 (H1 K) k:=bG rfl fun k ih=>by rw[zs1,G1];(try simp only[ih]);try rfl
def G0{R:Type}(k0:Nat)(hx0:QG R):Nat→vY R
 |0=>fun _ _ _ _ _ _=>none
 |k+1=>R0 hx0 (G1 k0 (A1 (G0 k0 hx0 k)) k0)
theorem aK:∀ k,L0 k0 k K=G0 k0 (H0 K) k:=bG rfl fun k ih=>by rw[zs0,G0];(try simp only[ih,dO,bU]);try rfl
variable (f0:Int) (f1 f2:List U7)
def aA:ai ((List (Int×Unit))×(List (Int×Unit))×Unit):=bW Tryz.prog [.tmp 2,.tmp 3] LJ KI (f0,f1,f2,())
theorem aS:H0 (K0 k0 (aA f0 f1 f2))=A0 f0 f1 f2:=by kernel_rfl
def FF:Option ((List (Int×Unit))×(List (Int×Unit))×Unit):=T (G0 k0 (A0 f0 f1 f2) k0) f0 f1 f2
theorem aQ:bZ Tryz.prog (aP [(130,[],MJ),(131,[],MK)]) ay k0 102 LJ KI [] (f0,f1,f2,())=FF k0 f0 f1 f2:=Eq.trans (b:=T (L0 k0 k0 (K0 k0 (aA f0 f1 f2))) f0 f1 f2) (by kernel_rfl) (by rw[FF];(try simp only[dO,aK,aS]);try rfl)
def _root_.Go.Rv.Eb:=fun x:U3=>FF (300+x.2.1.length+x.2.2.1.length) x.1 x.2.1 x.2.2.1
abbrev _root_.Go.Rv.Nc:aG:=⟨LJ,KI,Eb,[]⟩
theorem _root_.Go.Rv.acD:aF Dr Tryz.prog 102 Nc:=dh mix (.c abX (.c abY .nil)) (by kernel_rfl) fun x=>⟨ay,_,aQ _ _ _ _⟩
end gI
abbrev Jm:Is:=[.v true eH]
abbrev II:Os:=[(false,[CT.sl eG])]
namespace mO
def ay:Nat→List Nat×List Nat:=fun k=>if k=6 then([1,3,5,6],[3])else([],[])
def zrc{R:Type}(k0:Nat)(p:List Nat):Env→List Ob→ai R→Option R:=bD Tryz.prog (aP [(58,[],Dk),(102,[],Nc)]) 39 0 ay k0 (bQ p (cZ Tryz.prog 65))
def R0{R:Type}(nx0:Gt R)(ex0:QF R)(i f:Int)(f3 f4:List U7)(out:List U9)(members:List (Int×Unit)):Option R:=cond (decide (i<(f4.length:Int))) (if 0≤i∧i<(f4.length:Int)then if 0≤i∧i<(members.length:Int)then if out.length+[((rd (0,0,0,0,()) f4 i).1,(members.getD i.toNat (0,())).1,())].length≤maxRow then nx0 (af (i+1)) f f3 f4 (out++[((rd (0,0,0,0,()) f4 i).1,(members.getD i.toNat (0,())).1,())]) members else none else none else none) (ex0 out)
def A0(f0:Int)(f1 f2:List U7)(out:List U9):Option ((List U9)×Unit):=some (out,())
def T(lo0:Gt ((List U9)×Unit))(f0:Int)(f1 f2:List U7):Option ((List U9)×Unit):=(zI (f0,f1,f2,())).bind fun y1=>cond (!y1.1) (some (([]:List U9),())) ((Eb (f0,f1,f2,())).bind fun y2=>lo0 0 f0 f1 f2 ([]:List U9) y2.2.1)
def K0{R:Type}(k0:Nat)(K:ai R):ai R:=aY 0 (bg (fun env ob=>zrc k0 [1,1,1,1,1] env ob (K)) (K))
def L0:Gt R:=fun i f f3 f4 out members=>iter 0 [1,3,5,6] [3] (zrc k0 [1,1,1,1,0,1,0,0]) k [(1,.ptr 0 0 0 0),(3,.own 1),(5,.own 2),(6,.int .i64 i)] [.box [.int .i64 f,.sl aC f3,.sl aC f4],.arr eG out,.arr [CT.int .i64] members] K
def H0:QF R:=fun out=>K (.exit 0) [(3,.own 0)] [.arr eG out]
theorem zs0:L0 k0 (k+1) K=R0 (L0 k0 k K) (H0 K):=by kernel_rfl
def G0{R:Type}(k0:Nat)(hx0:QF R):Nat→Gt R
 |0=>fun _ _ _ _ _ _=>none
 |k+1=>R0 (G0 k0 hx0 k) hx0
theorem aK:∀ k,L0 k0 k K=G0 k0 (H0 K) k:=bG rfl fun k ih=>by rw[zs0,G0];(try simp only[ih]);try rfl
variable (f0:Int) (f1 f2:List U7)
def aA:ai ((List U9)×Unit):=bW Tryz.prog [.tmp 2] Jm II (f0,f1,f2,())
theorem aS:H0 (K0 k0 (aA f0 f1 f2))=A0 f0 f1 f2:=by kernel_rfl
def FF:Option ((List U9)×Unit):=T (G0 k0 (A0 f0 f1 f2) k0) f0 f1 f2
theorem aQ:bZ Tryz.prog (aP [(58,[],Dk),(102,[],Nc)]) ay k0 65 Jm II [] (f0,f1,f2,())=FF k0 f0 f1 f2:=Eq.trans (b:=T (L0 k0 k0 (K0 k0 (aA f0 f1 f2))) f0 f1 f2) (by kernel_rfl) (by rw[FF];(try simp only[aK,aS]);try rfl)
def _root_.Go.Rv.wJ:=fun x:U3=>FF (300+x.2.1.length+x.2.2.1.length) x.1 x.2.1 x.2.2.1
abbrev _root_.Go.Rv.RS:aG:=⟨Jm,II,wJ,[]⟩
theorem _root_.Go.Rv.aaw:aF Dr Tryz.prog 65 RS:=dh mix (.c J7 (.c acD .nil)) (by kernel_rfl) fun x=>⟨ay,_,aQ _ _ _ _⟩
end mO
def UD.T(a b:Int):Option (Int×Unit):=cond (decide (a>b)) (some (a,())) (some (b,()))
def Nj:=fun x:U9=>UD.T x.1 x.2.1
abbrev ada:aG:=⟨[.v false [CT.int .i64],.v false [CT.int .i64]],[(false,[CT.int .i64])],Nj,[]⟩
theorem acE:aF Dr Tryz.prog 103 ada:=aW mix .nil (by kernel_rfl) fun x=>by kernel_rfl
abbrev IX:Is:=[.v false [CT.sl ct0],.v false [CT.int .i64],.v false [CT.int .i64]]
abbrev Ip:Os:=[(false,[CT.int .i64])]
namespace mG
def ay:Nat→List Nat×List Nat:=fun k=>if k=5 then([0,1,2,7,8],[7])else([],[])
def zrc{R:Type}(k0:Nat)(p:List Nat):Env→List Ob→ai R→Option R:=bD Tryz.prog (aP [(59,[],wH)]) 43 0 ay k0 (bQ p (cZ Tryz.prog 104))
def R0{R:Type}(nx0:uF R)(ex0:Y2 R)(list2:List U8)(now2 id2 sum i:Int):Option R:=cond (decide (i<(list2.length:Int))) (if 0≤i∧i<(list2.length:Int)then cond (decide ((rd (0,0,0,()) list2 i).2.2.1>now2)) (if 0≤i∧i<(list2.length:Int)then cond ((rd (0,0,0,()) list2 i).1 != id2) (if 0≤i∧i<(list2.length:Int)then nx0 list2 now2 id2 (af (sum+(rd (0,0,0,()) list2 i).2.1)) (af (i+1))else none) (nx0 list2 now2 id2 sum (af (i+1)))else none) (nx0 list2 now2 id2 sum (af (i+1)))else none) (ex0 sum)
def A0(list:List U8)(now id:Int)(sum:Int):Option (Int×Unit):=some (sum,())
def T(lo0:uF (Int×Unit))(list:List U8)(now id:Int):Option (Int×Unit):=(wI (list,())).bind fun y1=>cond (!y1.1) (some (0,())) (lo0 list now id 0 0)
def K0{R:Type}(k0:Nat)(K:ai R):ai R:=aY 0 (bg (fun env ob=>zrc k0 [1,1,1,1] env ob (K)) (K))
def L0:uF R:=fun list2 now2 id2 sum i=>iter 0 [0,1,2,7,8] [7] (zrc k0 [1,1,1,0,1,0,0]) k [(0,.sl ct0 list2),(1,.int .i64 now2),(2,.int .i64 id2),(7,.int .i64 sum),(8,.int .i64 i)] [] K
def H0:Y2 R:=fun sum=>K (.exit 0) [(7,.int .i64 sum)] []
theorem zs0:L0 k0 (k+1) K=R0 (L0 k0 k K) (H0 K):=by kernel_rfl
def G0{R:Type}(k0:Nat)(hx0:Y2 R):Nat→uF R
 |0=>fun _ _ _ _ _=>none
 |k+1=>R0 (G0 k0 hx0 k) hx0
theorem aK:∀ k,L0 k0 k K=G0 k0 (H0 K) k:=bG rfl fun k ih=>by rw[zs0,G0];(try simp only[ih]);try rfl
variable (list:List U8) (now id:Int)
def aA:ai (Int×Unit):=bW Tryz.prog [.tmp 6] IX Ip (list,now,id,())
theorem aS:H0 (K0 k0 (aA list now id))=A0 list now id:=by kernel_rfl
def FF:Option (Int×Unit):=T (G0 k0 (A0 list now id) k0) list now id
theorem aQ:bZ Tryz.prog (aP [(59,[],wH)]) ay k0 104 IX Ip [] (list,now,id,())=FF k0 list now id:=Eq.trans (b:=T (L0 k0 k0 (K0 k0 (aA list now id))) list now id) (by kernel_rfl) (by rw[FF];(try simp only[aK,aS]);try rfl)
def _root_.Go.Rv.JO:=fun x:(List U8)×U9=>FF (300+x.1.length) x.1 x.2.1 x.2.2.1
abbrev _root_.Go.Rv.aaK:aG:=⟨IX,Ip,JO,[]⟩
theorem _root_.Go.Rv.aai:aF Dr Tryz.prog 104 aaK:=dh mix (.c CQ .nil) (by kernel_rfl) fun x=>⟨ay,_,aQ _ _ _ _⟩
end mG
def Tm.T(list:List U8)(now id cap:Int):Option (Int×Unit):=(wI (list,())).bind fun y1=>cond (!y1.1) (some (0,())) ((dY (cap,())).bind fun y2=>cond (!y2.1) (some (0,())) ((JO (list,now,id,())).bind fun y3=>(Nj (0,(af (cap - y3.1)),())).bind fun y4=>some (y4.1,())))
def Dp:=fun x:(List U8)×U8=>Tm.T x.1 x.2.1 x.2.2.1 x.2.2.2.1
abbrev Sr:aG:=⟨[.v false [CT.sl ct0],.v false [CT.int .i64],.v false [CT.int .i64],.v false [CT.int .i64]],[(false,[CT.int .i64])],Dp,[]⟩
theorem aaU:aF Dr Tryz.prog 67 Sr:=aW mix (.c CQ (.c wO (.c acE (.c aai .nil)))) (by kernel_rfl) fun x=>by kernel_rfl
abbrev Kr:Is:=[.v false [CT.sl ct0],.v true ct0]
abbrev Jz:Os:=[(false,[CT.sl ct0])]
namespace jV
def ay:Nat→List Nat×List Nat:=fun k=>if k=9 then([0,3,5,6,7,8],[3,5,6,7])else([],[])
def zrc{R:Type}(k0:Nat)(p:List Nat):Env→List Ob→ai R→Option R:=bD Tryz.prog (aP [(59,[],wH),(101,[],zS)]) 74 0 ay k0 (bQ p (cZ Tryz.prog 68))
def R0{R:Type}(nx0:Gs R)(ex0:QE R)(list2:List U8)(done:Bool)(i l l3 l4:Int)(same out:List U8):Option R:=cond (decide (i<(list2.length:Int))) (cond (!done) (if 0≤i∧i<(list2.length:Int)then cond (decide ((rd (0,0,0,()) list2 i).1≥l)) (if out.length+[(l,l3,l4,())].length≤maxRow then if 0≤i∧i<(list2.length:Int)then cond ((rd (0,0,0,()) list2 i).1 != l) (if 0≤i∧i<(list2.length:Int)then if(out++[(l,l3,l4,())]).length+[((rd (0,0,0,()) list2 i).1,(rd (0,0,0,()) list2 i).2.1,(rd (0,0,0,()) list2 i).2.2.1,())].length≤maxRow then nx0 list2 true (af (i+1)) l l3 l4 same ((out++[(l,l3,l4,())])++[((rd (0,0,0,()) list2 i).1,(rd (0,0,0,()) list2 i).2.1,(rd (0,0,0,()) list2 i).2.2.1,())])else none else none) (nx0 list2 true (af (i+1)) l l3 l4 same (out++[(l,l3,l4,())]))else none else none) (if 0≤i∧i<(list2.length:Int)then cond ((rd (0,0,0,()) list2 i).1 != l) (if 0≤i∧i<(list2.length:Int)then if out.length+[((rd (0,0,0,()) list2 i).1,(rd (0,0,0,()) list2 i).2.1,(rd (0,0,0,()) list2 i).2.2.1,())].length≤maxRow then nx0 list2 done (af (i+1)) l l3 l4 same (out++[((rd (0,0,0,()) list2 i).1,(rd (0,0,0,()) list2 i).2.1,(rd (0,0,0,()) list2 i).2.2.1,())])else none else none) (nx0 list2 done (af (i+1)) l l3 l4 same out)else none)else none) (if 0≤i∧i<(list2.length:Int)then cond ((rd (0,0,0,()) list2 i).1 != l) (if 0≤i∧i<(list2.length:Int)then if out.length+[((rd (0,0,0,()) list2 i).1,(rd (0,0,0,()) list2 i).2.1,(rd (0,0,0,()) list2 i).2.2.1,())].length≤maxRow then nx0 list2 done (af (i+1)) l l3 l4 same (out++[((rd (0,0,0,()) list2 i).1,(rd (0,0,0,()) list2 i).2.1,(rd (0,0,0,()) list2 i).2.2.1,())])else none else none) (nx0 list2 done (af (i+1)) l l3 l4 same out)else none)) (ex0 done l l3 l4 same out)
def A0(list:List U8)(l0 l1 l2:Int)(done:Bool)(l l3 l4:Int)(same out:List U8):Option ((List U8)×Unit):=cond (!done) (if out.length+[(l,l3,l4,())].length≤maxRow then cond (decide (((out++[(l,l3,l4,())]).length:Int)>60)) (some (same,())) (some ((out++[(l,l3,l4,())]),()))else none) (cond (decide ((out.length:Int)>60)) (some (same,())) (some (out,())))
def T(lo0:Gs ((List U8)×Unit))(list:List U8)(l0 l1 l2:Int):Option ((List U8)×Unit):=cond (decide ((list.length:Int)>400)) (some (([]:List U8),())) (if([]:List U8).length+list.length≤maxRow then(wI (list,())).bind fun y1=>cond (!y1.1) (some ((([]:List U8)++list),())) ((zT (l0,l1,l2,())).bind fun y2=>cond (!y2.1) (some ((([]:List U8)++list),())) (lo0 list false 0 l0 l1 l2 (([]:List U8)++list) ([]:List U8)))else none)
def K0{R:Type}(k0:Nat)(K:ai R):ai R:=aY 0 (bg (fun env ob=>zrc k0 [1,1,1,1,1,1,1] env ob (K)) (K))
def L0:Gs R:=fun list2 done i l l3 l4 same out=>iter 0 [0,3,5,6,7,8] [3,5,6,7] (zrc k0 [1,1,1,1,1,1,0,1,0,0]) k [(0,.sl ct0 list2),(3,.ptr 0 0 0 0),(5,.own 1),(6,.own 2),(7,.bool done),(8,.int .i64 i)] [.box [.int .i64 l,.int .i64 l3,.int .i64 l4],.arr ct0 same,.arr ct0 out] K
def H0:QE R:=fun done l l3 l4 same out=>K (.exit 0) [(3,.ptr 0 0 0 0),(5,.own 1),(6,.own 2),(7,.bool done)] [.box [.int .i64 l,.int .i64 l3,.int .i64 l4],.arr ct0 same,.arr ct0 out]
theorem zs0:L0 k0 (k+1) K=R0 (L0 k0 k K) (H0 K):=by kernel_rfl
def G0{R:Type}(k0:Nat)(hx0:QE R):Nat→Gs R
 |0=>fun _ _ _ _ _ _ _ _=>none
 |k+1=>R0 (G0 k0 hx0 k) hx0
theorem aK:∀ k,L0 k0 k K=G0 k0 (H0 K) k:=bG rfl fun k ih=>by rw[zs0,G0];(try simp only[ih]);try rfl
variable (list:List U8) (l0 l1 l2:Int)
def aA:ai ((List U8)×Unit):=bW Tryz.prog [.tmp 4] Kr Jz (list,l0,l1,l2,())
theorem aS:H0 (K0 k0 (aA list l0 l1 l2))=A0 list l0 l1 l2:=by kernel_rfl
def FF:Option ((List U8)×Unit):=T (G0 k0 (A0 list l0 l1 l2) k0) list l0 l1 l2
theorem aQ:bZ Tryz.prog (aP [(59,[],wH),(101,[],zS)]) ay k0 68 Kr Jz [] (list,l0,l1,l2,())=FF k0 list l0 l1 l2:=Eq.trans (b:=T (L0 k0 k0 (K0 k0 (aA list l0 l1 l2))) list l0 l1 l2) (by kernel_rfl) (by rw[FF];(try simp only[aK,aS]);try rfl)
def _root_.Go.Rv.zU:=fun x:(List U8)×U8=>FF (300+x.1.length) x.1 x.2.1 x.2.2.1 x.2.2.2.1
abbrev _root_.Go.Rv.S9:aG:=⟨Kr,Jz,zU,[]⟩
theorem _root_.Go.Rv.abv:aF Dr Tryz.prog 68 S9:=dh mix (.c CQ (.c RX .nil)) (by kernel_rfl) fun x=>⟨ay,_,aQ _ _ _ _ _⟩
end jV
abbrev LG:Is:=[.v true gV,.v true dJ]
abbrev KG:Os:=[(true,Qz)]
namespace jf
def dD:Tb:=[(32,[],LU),(34,[],Dj),(36,[],LX),(38,[],uN),(64,[],wP),(65,[],RS),(66,[],D8),(67,[],Sr),(68,[],S9)]
def ay:Nat→List Nat×List Nat:=fun k=>if k=16 then([2,3,4,5,8,9,10],[2,3,4,5,8])else([],[])
def zrc{R:Type}(k0:Nat)(p:List Nat):Env→List Ob→ai R→Option R:=bD Tryz.prog (aP dD) 132 0 ay k0 (bQ p (cZ Tryz.prog 33))
def R0{R:Type}(nx0:Gq R)(ex0:QD R)(share i s s7 s8 s9:Int)(s10 s11:List U7)(s12:List U8)(o o5 o6 o7 o8 t4x t4x2 t4x3 t4x4 t4x5 t4x6 t4x7 out out2 out3 out4:Int)(parts:List U9)(o52 o62:List U7)(o72:List U8):Option R:=cond (decide (i<(parts.length:Int))) (if 0≤i∧i<(parts.length:Int)then cond ((parts.getD i.toNat (0,0,())).1==o5) (if 0≤i∧i<(parts.length:Int)then nx0 ((parts.getD i.toNat (0,0,())).2.1) (af (i+1)) s s7 s8 s9 s10 s11 s12 o o5 o6 o7 o8 t4x t4x2 t4x3 t4x4 t4x5 t4x6 t4x7 out out2 out3 out4 parts o52 o62 o72 else none) (nx0 share (af (i+1)) s s7 s8 s9 s10 s11 s12 o o5 o6 o7 o8 t4x t4x2 t4x3 t4x4 t4x5 t4x6 t4x7 out out2 out3 out4 parts o52 o62 o72)else none) (ex0 share s s7 s8 s9 s10 s11 s12 o o5 o6 o7 o8 t4x t4x2 t4x3 t4x4 t4x5 t4x6 t4x7 out out2 out3 out4 o52 o62 o72)
def A0(s0 s1 s2 s3:Int)(s4 s5:List U7)(s6:List U8)(o0 o1 o2 o3 o4:Int)(share s s7 s8 s9:Int)(s10 s11:List U7)(s12:List U8)(o o5 o6 o7 o8 t4x t4x2 t4x3 t4x4 t4x5 t4x6 t4x7 out out2 out3 out4:Int)(o42 o52:List U7)(o62:List U8):Option (U0):=(Dp (s12,s8,o5,s9,())).bind fun y1=>(uS (share,y1.1,())).bind fun y2=>(zU (s12,o5,y2.1,(af (s8+s)),())).bind fun y3=>some (out,out2,out3,out4,o42,o52,y3.1,y2.1,(af (s8+s)),0,())
def T(lo0:Gq (U0))(s0 s1 s2 s3:Int)(s4 s5:List U7)(s6:List U8)(o0 o1 o2 o3 o4:Int):Option (U0):=cond (decide (s2<(af (s1+s0)))) ((lU (7,())).bind fun y1=>some (y1.1,y1.2.1,y1.2.2.1,y1.2.2.2.1,y1.2.2.2.2.1,y1.2.2.2.2.2.1,y1.2.2.2.2.2.2.1,y1.2.2.2.2.2.2.2.1,y1.2.2.2.2.2.2.2.2.1,y1.2.2.2.2.2.2.2.2.2.1,())) (cond (o2 != 0) ((jG (s3,s4,s5,o2,())).bind fun y2=>cond (decide (y2.1<0)) ((lU (4,())).bind fun y3=>some (y3.1,y3.2.1,y3.2.2.1,y3.2.2.2.1,y3.2.2.2.2.1,y3.2.2.2.2.2.1,y3.2.2.2.2.2.2.1,y3.2.2.2.2.2.2.2.1,y3.2.2.2.2.2.2.2.2.1,y3.2.2.2.2.2.2.2.2.2.1,())) ((oh (s0,s1,s2,s3,s4,s5,s6,())).bind fun y4=>(qy (s3,s4,s5,o1,())).bind fun y5=>cond (decide (y5.1<0)) ((jT (s3,s4,s5,1,o1,o2,o3,o4,())).bind fun y6=>cond (y6.2.2.2.2.1 != 0) ((lU (y6.2.2.2.2.1,())).bind fun y7=>some (y7.1,y7.2.1,y7.2.2.1,y7.2.2.2.1,y7.2.2.2.2.1,y7.2.2.2.2.2.1,y7.2.2.2.2.2.2.1,y7.2.2.2.2.2.2.2.1,y7.2.2.2.2.2.2.2.2.1,y7.2.2.2.2.2.2.2.2.2.1,())) ((wJ (y6.1,y6.2.1,y6.2.2.1,())).bind fun y8=>lo0 0 0 s0 s1 s2 s3 s4 s5 s6 o0 o1 o2 o3 o4 0 0 0 0 0 0 0 y4.1 y4.2.1 y4.2.2.1 y6.1 y8.1 y6.2.1 y6.2.2.1 y4.2.2.2.2.2.2.1)) (if 0≤y5.1∧y5.1<(y4.2.2.2.2.2.1.length:Int)then(wJ (y4.2.2.2.1,y4.2.2.2.2.1,(y4.2.2.2.2.2.1.set ((y5.1).toNat) (o1,o2,o3,o4,())),())).bind fun y9=>lo0 0 0 s0 s1 s2 s3 s4 s5 s6 o0 o1 o2 o3 o4 0 0 0 0 0 0 0 y4.1 y4.2.1 y4.2.2.1 y4.2.2.2.1 y9.1 y4.2.2.2.2.1 (y4.2.2.2.2.2.1.set ((y5.1).toNat) (o1,o2,o3,o4,())) y4.2.2.2.2.2.2.1 else none))) ((oh (s0,s1,s2,s3,s4,s5,s6,())).bind fun y10=>(qy (s3,s4,s5,o1,())).bind fun y11=>cond (decide (y11.1<0)) ((jT (s3,s4,s5,1,o1,o2,o3,o4,())).bind fun y12=>cond (y12.2.2.2.2.1 != 0) ((lU (y12.2.2.2.2.1,())).bind fun y13=>some (y13.1,y13.2.1,y13.2.2.1,y13.2.2.2.1,y13.2.2.2.2.1,y13.2.2.2.2.2.1,y13.2.2.2.2.2.2.1,y13.2.2.2.2.2.2.2.1,y13.2.2.2.2.2.2.2.2.1,y13.2.2.2.2.2.2.2.2.2.1,())) ((wJ (y12.1,y12.2.1,y12.2.2.1,())).bind fun y14=>lo0 0 0 s0 s1 s2 s3 s4 s5 s6 o0 o1 o2 o3 o4 0 0 0 0 0 0 0 y10.1 y10.2.1 y10.2.2.1 y12.1 y14.1 y12.2.1 y12.2.2.1 y10.2.2.2.2.2.2.1)) (if 0≤y11.1∧y11.1<(y10.2.2.2.2.2.1.length:Int)then(wJ (y10.2.2.2.1,y10.2.2.2.2.1,(y10.2.2.2.2.2.1.set ((y11.1).toNat) (o1,o2,o3,o4,())),())).bind fun y15=>lo0 0 0 s0 s1 s2 s3 s4 s5 s6 o0 o1 o2 o3 o4 0 0 0 0 0 0 0 y10.1 y10.2.1 y10.2.2.1 y10.2.2.2.1 y15.1 y10.2.2.2.2.1 (y10.2.2.2.2.2.1.set ((y11.1).toNat) (o1,o2,o3,o4,())) y10.2.2.2.2.2.2.1 else none)))
def K0{R:Type}(k0:Nat)(K:ai R):ai R:=aY 0 (bg (fun env ob=>zrc k0 [1,1,1,1,1,1,1,1,1] env ob (K)) (K))
def L0:Gq R:=fun share i s s7 s8 s9 s10 s11 s12 o o5 o6 o7 o8 t4x t4x2 t4x3 t4x4 t4x5 t4x6 t4x7 out out2 out3 out4 parts o52 o62 o72=>iter 0 [2,3,4,5,8,9,10] [2,3,4,5,8] (zrc k0 [1,1,1,1,1,1,1,1,0,1,0,0]) k [(2,.ptr 0 0 0 0),(3,.ptr 1 0 0 0),(4,.ptr 2 0 0 0),(5,.ptr 3 0 0 0),(8,.int .i64 share),(9,.own 4),(10,.int .i64 i)] [.box [.int .i64 s,.int .i64 s7,.int .i64 s8,.int .i64 s9,.sl aC s10,.sl aC s11,.sl ct0 s12],.box [.int .i64 o,.int .i64 o5,.int .i64 o6,.int .i64 o7,.int .i64 o8],.box [.int .i64 t4x,.int .i64 t4x2,.int .i64 t4x3,.int .i64 t4x4,.nils,.nils,.nils,.int .i64 t4x5,.int .i64 t4x6,.int .i64 t4x7],.box [.int .i64 out,.int .i64 out2,.int .i64 out3,.int .i64 out4,.own 5,.own 6,.own 7],.arr eG parts,.arr aC o52,.arr aC o62,.arr ct0 o72] K
def H0:QD R:=fun share s s7 s8 s9 s10 s11 s12 o o5 o6 o7 o8 t4x t4x2 t4x3 t4x4 t4x5 t4x6 t4x7 out out2 out3 out4 o42 o52 o62=>K (.exit 0) [(2,.ptr 0 0 0 0),(3,.ptr 1 0 0 0),(4,.ptr 2 0 0 0),(5,.ptr 3 0 0 0),(8,.int .i64 share)] [.box [.int .i64 s,.int .i64 s7,.int .i64 s8,.int .i64 s9,.sl aC s10,.sl aC s11,.sl ct0 s12],.box [.int .i64 o,.int .i64 o5,.int .i64 o6,.int .i64 o7,.int .i64 o8],.box [.int .i64 t4x,.int .i64 t4x2,.int .i64 t4x3,.int .i64 t4x4,.nils,.nils,.nils,.int .i64 t4x5,.int .i64 t4x6,.int .i64 t4x7],.box [.int .i64 out,.int .i64 out2,.int .i64 out3,.int .i64 out4,.own 4,.own 5,.own 6],.arr aC o42,.arr aC o52,.arr ct0 o62]
theorem zs0:L0 k0 (k+1) K=R0 (L0 k0 k K) (H0 K):=by kernel_rfl
def G0{R:Type}(k0:Nat)(hx0:QD R):Nat→Gq R
 |0=>fun _ _ _ _ _ _ _ _ _ _ _ _ _ _ _ _ _ _ _ _ _ _ _ _ _ _ _ _ _=>none
 |k+1=>R0 (G0 k0 hx0 k) hx0
theorem aK:∀ k,L0 k0 k K=G0 k0 (H0 K) k:=bG rfl fun k ih=>by rw[zs0,G0];(try simp only[ih]);try rfl
variable (s0 s1 s2 s3:Int) (s4 s5:List U7) (s6:List U8) (o0 o1 o2 o3 o4:Int)
def aA:ai (U0):=bW Tryz.prog [.cell 4 40] LG KG (s0,s1,s2,s3,s4,s5,s6,o0,o1,o2,o3,o4,())
theorem aS:H0 (K0 k0 (aA s0 s1 s2 s3 s4 s5 s6 o0 o1 o2 o3 o4))=A0 s0 s1 s2 s3 s4 s5 s6 o0 o1 o2 o3 o4:=by kernel_rfl
def FF:Option (U0):=T (G0 k0 (A0 s0 s1 s2 s3 s4 s5 s6 o0 o1 o2 o3 o4) k0) s0 s1 s2 s3 s4 s5 s6 o0 o1 o2 o3 o4
theorem aQ:bZ Tryz.prog (aP dD) ay k0 33 LG KG [] (s0,s1,s2,s3,s4,s5,s6,o0,o1,o2,o3,o4,())=FF k0 s0 s1 s2 s3 s4 s5 s6 o0 o1 o2 o3 o4:=Eq.trans (b:=T (L0 k0 k0 (K0 k0 (aA s0 s1 s2 s3 s4 s5 s6 o0 o1 o2 o3 o4))) s0 s1 s2 s3 s4 s5 s6 o0 o1 o2 o3 o4) (by kernel_rfl) (by rw[FF];(try simp only[aK,aS]);try rfl)
def _root_.Go.Rv.D9:=fun x:Int×Int×Int×Int×(List U7)×(List U7)×(List U8)×U5=>FF (300+x.2.2.2.2.1.length+x.2.2.2.2.2.1.length+x.2.2.2.2.2.2.1.length) x.1 x.2.1 x.2.2.1 x.2.2.2.1 x.2.2.2.2.1 x.2.2.2.2.2.1 x.2.2.2.2.2.2.1 x.2.2.2.2.2.2.2.1 x.2.2.2.2.2.2.2.2.1 x.2.2.2.2.2.2.2.2.2.1 x.2.2.2.2.2.2.2.2.2.2.1 x.2.2.2.2.2.2.2.2.2.2.2.1
abbrev _root_.Go.Rv.Uc:aG:=⟨LG,KG,D9,[]⟩
theorem _root_.Go.Rv.acB:aF Dr Tryz.prog 33 Uc:=dh mix (.c RV (.c CZ (.c RZ (.c zO (.c wM (.c aaw (.c Tq (.c aaU (.c abv .nil))))))))) (by kernel_rfl) fun x=>⟨ay,_,aQ _ _ _ _ _ _ _ _ _ _ _ _ _⟩
end jf
abbrev LK:Is:=[.v false [CT.sl [CT.int .i64]],.v false [CT.int .i64]]
abbrev KJ:Os:=[(false,[CT.bool])]
namespace oq
def ay:Nat→List Nat×List Nat:=fun k=>if k=2 then([0,1,5],[4])else([],[])
def zrc{R:Type}(k0:Nat)(p:List Nat):Env→List Ob→ai R→Option R:=bD Tryz.prog (aP []) 18 0 ay k0 (bQ p (cZ Tryz.prog 69))
def R0{R:Type}(nx0:Gp R)(ex0:fM R)(ex1:dF R)(l2:List (Int×Unit))(n2 i:Int):Option R:=cond (decide (i<(l2.length:Int))) (if 0≤i∧i<(l2.length:Int)then cond ((rd (0,()) l2 i).1==n2) (ex0 true) (nx0 l2 n2 (af (i+1)))else none) (ex1 ())
def A0(l:List (Int×Unit))(n:Int)(t4x:Bool):Option (Bool×Unit):=some (t4x,())
def A1(l:List (Int×Unit))(n:Int)(_u:Unit):Option (Bool×Unit):=some (false,())
def T(lo0:Gp (Bool×Unit))(l:List (Int×Unit))(n:Int):Option (Bool×Unit):=lo0 l n 0
def K0{R:Type}(k0:Nat)(K:ai R):ai R:=aY 0 (bg (fun env ob=>zrc k0 [1,1] env ob (K)) (K))
def L0:Gp R:=fun l2 n2 i=>iter 0 [0,1,5] [4] (zrc k0 [1,0,1,0,0]) k [(0,.sl [CT.int .i64] l2),(1,.int .i64 n2),(5,.int .i64 i)] [] K
def H0:fM R:=fun t4x=>K .ret [(4,.bool t4x)] []
def H1:dF R:=fun _=>K (.exit 0) [(4,.undef)] []
theorem zs0:L0 k0 (k+1) K=R0 (L0 k0 k K) (H0 K) (H1 K):=by kernel_rfl
def G0{R:Type}(k0:Nat)(hx0:fM R)(hx1:dF R):Nat→Gp R
 |0=>fun _ _ _=>none
 |k+1=>R0 (G0 k0 hx0 hx1 k) hx0 hx1
theorem aK:∀ k,L0 k0 k K=G0 k0 (H0 K) (H1 K) k:=bG rfl fun k ih=>by rw[zs0,G0];(try simp only[ih]);try rfl
variable (l:List (Int×Unit)) (n:Int)
def aA:ai (Bool×Unit):=bW Tryz.prog [.tmp 4] LK KJ (l,n,())
theorem aS:H0 (K0 k0 (aA l n))=A0 l n:=by kernel_rfl
theorem bU:H1 (K0 k0 (aA l n))=A1 l n:=by kernel_rfl
def FF:Option (Bool×Unit):=T (G0 k0 (A0 l n) (A1 l n) k0) l n
theorem aQ:bZ Tryz.prog (aP []) ay k0 69 LK KJ [] (l,n,())=FF k0 l n:=Eq.trans (b:=T (L0 k0 k0 (K0 k0 (aA l n))) l n) (by kernel_rfl) (by rw[FF];(try simp only[aK,aS,bU]);try rfl)
def _root_.Go.Rv.Nk:=fun x:(List (Int×Unit))×Int×Unit=>FF (300+x.1.length) x.1 x.2.1
abbrev _root_.Go.Rv.Nh:aG:=⟨LK,KJ,Nk,[]⟩
theorem _root_.Go.Rv.acF:aF Dr Tryz.prog 69 Nh:=dh mix .nil (by kernel_rfl) fun x=>⟨ay,_,aQ _ _ _⟩
end oq
abbrev Jl:Is:=[.v true gV,.v false [CT.sl [CT.int .i64]]]
abbrev IG:Os:=[(true,gV)]
namespace oW
def ay:Nat→List Nat×List Nat:=fun k=>if k=5 then([1,2,4,5,6],[4,5])else([],[])
def zrc{R:Type}(k0:Nat)(p:List Nat):Env→List Ob→ai R→Option R:=bD Tryz.prog (aP [(38,[],uN),(69,[],Nh)]) 54 0 ay k0 (bQ p (cZ Tryz.prog 35))
def R0{R:Type}(nx0:Gn R)(ex0:QC R)(gone2:List (Int×Unit))(i s s7 s8 s9:Int)(s10 s11:List U7)(s12:List U8)(t4x t4x2 t4x3 t4x4 out out2 out3 out4:Int)(o3 o4:List U7)(o5:List U8):Option R:=cond (decide (i<(s12.length:Int))) (if 0≤i∧i<(s12.length:Int)then(Nk (gone2,(rd (0,0,0,()) s12 i).1,())).bind fun y1=>cond (!y1.1) (if 0≤i∧i<(s12.length:Int)then if o5.length+[((rd (0,0,0,()) s12 i).1,(rd (0,0,0,()) s12 i).2.1,(rd (0,0,0,()) s12 i).2.2.1,())].length≤maxRow then if 0≤i∧i<(s11.length:Int)then if o4.length+[((rd (0,0,0,0,()) s11 i).1,(rd (0,0,0,0,()) s11 i).2.1,(rd (0,0,0,0,()) s11 i).2.2.1,(rd (0,0,0,0,()) s11 i).2.2.2.1,())].length≤maxRow then nx0 gone2 (af (i+1)) s s7 s8 s9 s10 s11 s12 t4x t4x2 t4x3 t4x4 out out2 out3 out4 o3 (o4++[((rd (0,0,0,0,()) s11 i).1,(rd (0,0,0,0,()) s11 i).2.1,(rd (0,0,0,0,()) s11 i).2.2.1,(rd (0,0,0,0,()) s11 i).2.2.2.1,())]) (o5++[((rd (0,0,0,()) s12 i).1,(rd (0,0,0,()) s12 i).2.1,(rd (0,0,0,()) s12 i).2.2.1,())])else none else none else none else none) (nx0 gone2 (af (i+1)) s s7 s8 s9 s10 s11 s12 t4x t4x2 t4x3 t4x4 out out2 out3 out4 o3 o4 o5)else none) (ex0 t4x t4x2 t4x3 t4x4 out out2 out3 out4 o3 o4 o5)
def A0(s0 s1 s2 s3:Int)(s4 s5:List U7)(s6:List U8)(gone:List (Int×Unit))(t4x t4x2 t4x3 t4x4 out out2 out3 out4:Int)(o2 o3:List U7)(o4:List U8):Option (U1):=some (out,out2,out3,out4,o2,o3,o4,())
def T(lo0:Gn (U1))(s0 s1 s2 s3:Int)(s4 s5:List U7)(s6:List U8)(gone:List (Int×Unit)):Option (U1):=(oh (s0,s1,s2,s3,s4,s5,s6,())).bind fun y1=>lo0 gone 0 s0 s1 s2 s3 s4 s5 s6 0 0 0 0 y1.1 y1.2.1 y1.2.2.1 y1.2.2.2.1 y1.2.2.2.2.1 ([]:List U7) ([]:List U8)
def K0{R:Type}(k0:Nat)(K:ai R):ai R:=aY 0 (bg (fun env ob=>zrc k0 [1,1,1,1,1] env ob (K)) (K))
def L0:Gn R:=fun gone2 i s s7 s8 s9 s10 s11 s12 t4x t4x2 t4x3 t4x4 out out2 out3 out4 o3 o4 o5=>iter 0 [1,2,4,5,6] [4,5] (zrc k0 [1,1,1,1,0,1,0,0]) k [(1,.sl [CT.int .i64] gone2),(2,.ptr 0 0 0 0),(4,.ptr 1 0 0 0),(5,.ptr 2 0 0 0),(6,.int .i64 i)] [.box [.int .i64 s,.int .i64 s7,.int .i64 s8,.int .i64 s9,.sl aC s10,.sl aC s11,.sl ct0 s12],.box [.int .i64 t4x,.int .i64 t4x2,.int .i64 t4x3,.int .i64 t4x4,.nils,.nils,.nils],.box [.int .i64 out,.int .i64 out2,.int .i64 out3,.int .i64 out4,.own 3,.own 4,.own 5],.arr aC o3,.arr aC o4,.arr ct0 o5] K
def H0:QC R:=fun t4x t4x2 t4x3 t4x4 out out2 out3 out4 o2 o3 o4=>K (.exit 0) [(4,.ptr 0 0 0 0),(5,.ptr 1 0 0 0)] [.box [.int .i64 t4x,.int .i64 t4x2,.int .i64 t4x3,.int .i64 t4x4,.nils,.nils,.nils],.box [.int .i64 out,.int .i64 out2,.int .i64 out3,.int .i64 out4,.own 2,.own 3,.own 4],.arr aC o2,.arr aC o3,.arr ct0 o4]
theorem zs0:L0 k0 (k+1) K=R0 (L0 k0 k K) (H0 K):=by kernel_rfl
def G0{R:Type}(k0:Nat)(hx0:QC R):Nat→Gn R
 |0=>fun _ _ _ _ _ _ _ _ _ _ _ _ _ _ _ _ _ _ _ _=>none
 |k+1=>R0 (G0 k0 hx0 k) hx0
theorem aK:∀ k,L0 k0 k K=G0 k0 (H0 K) k:=bG rfl fun k ih=>by rw[zs0,G0];(try simp only[ih]);try rfl
variable (s0 s1 s2 s3:Int) (s4 s5:List U7) (s6:List U8) (gone:List (Int×Unit))
def aA:ai (U1):=bW Tryz.prog [.cell 4 38] Jl IG (s0,s1,s2,s3,s4,s5,s6,gone,())
theorem aS:H0 (K0 k0 (aA s0 s1 s2 s3 s4 s5 s6 gone))=A0 s0 s1 s2 s3 s4 s5 s6 gone:=by kernel_rfl
def FF:Option (U1):=T (G0 k0 (A0 s0 s1 s2 s3 s4 s5 s6 gone) k0) s0 s1 s2 s3 s4 s5 s6 gone
theorem aQ:bZ Tryz.prog (aP [(38,[],uN),(69,[],Nh)]) ay k0 35 Jl IG [] (s0,s1,s2,s3,s4,s5,s6,gone,())=FF k0 s0 s1 s2 s3 s4 s5 s6 gone:=Eq.trans (b:=T (L0 k0 k0 (K0 k0 (aA s0 s1 s2 s3 s4 s5 s6 gone))) s0 s1 s2 s3 s4 s5 s6 gone) (by kernel_rfl) (by rw[FF];(try simp only[aK,aS]);try rfl)
def _root_.Go.Rv.zD:=fun x:Int×Int×Int×Int×(List U7)×(List U7)×(List U8)×(List (Int×Unit))×Unit=>FF (300+x.2.2.2.2.1.length+x.2.2.2.2.2.1.length+x.2.2.2.2.2.2.1.length+x.2.2.2.2.2.2.2.1.length) x.1 x.2.1 x.2.2.1 x.2.2.2.1 x.2.2.2.2.1 x.2.2.2.2.2.1 x.2.2.2.2.2.2.1 x.2.2.2.2.2.2.2.1
abbrev _root_.Go.Rv.RQ:aG:=⟨Jl,IG,zD,[]⟩
theorem _root_.Go.Rv.aav:aF Dr Tryz.prog 35 RQ:=dh mix (.c zO (.c acF .nil)) (by kernel_rfl) fun x=>⟨ay,_,aQ _ _ _ _ _ _ _ _ _⟩
end oW
abbrev Kq:Is:=[.v true gV,.v true dJ]
abbrev Jy:Os:=[(true,Qz)]
namespace iR
def dD:Tb:=[(30,[],RD),(31,[],Uz),(32,[],LU),(33,[],Uc),(34,[],Dj),(35,[],RQ),(36,[],LX),(37,[],TA),(38,[],uN)]
def ay:Nat→List Nat×List Nat:=fun k=>if k=15 then([2,4,5,6],[2,4,5])else if k=24 then([2,4,5,8],[2,4,5])else([],[])
def zrc{R:Type}(k0:Nat)(p:List Nat):Env→List Ob→ai R→Option R:=bD Tryz.prog (aP dD) 129 0 ay k0 (bQ p (cZ Tryz.prog 7))
def R0{R:Type}(nx0:vX R)(ex0:yX R)(i s s7 s8 s9:Int)(s10 s11:List U7)(s12:List U8)(t4x t4x2 t4x3 t4x4 t4x5 t4x6 t4x7:Int)(gone:List (Int×Unit)):Option R:=cond (decide (i<(s12.length:Int))) (if 0≤i∧i<(s12.length:Int)then cond (decide ((rd (0,0,0,()) s12 i).2.2.1≤(af (s8+1)))) (if 0≤i∧i<(s12.length:Int)then if gone.length+[((rd (0,0,0,()) s12 i).1,())].length≤maxRow then nx0 (af (i+1)) s s7 s8 s9 s10 s11 s12 t4x t4x2 t4x3 t4x4 t4x5 t4x6 t4x7 (gone++[((rd (0,0,0,()) s12 i).1,())])else none else none) (nx0 (af (i+1)) s s7 s8 s9 s10 s11 s12 t4x t4x2 t4x3 t4x4 t4x5 t4x6 t4x7 gone)else none) (ex0 s s7 s8 s9 s10 s11 s12 t4x t4x2 t4x3 t4x4 t4x5 t4x6 t4x7 gone)
def R1{R:Type}(nx1:vX R)(ex1:yX R)(i s s7 s8 s9:Int)(s10 s11:List U7)(s12:List U8)(t4x t4x2 t4x3 t4x4 t4x5 t4x6 t4x7:Int)(gone:List (Int×Unit)):Option R:=cond (decide (i<(s12.length:Int))) (if 0≤i∧i<(s12.length:Int)then if gone.length+[((rd (0,0,0,()) s12 i).1,())].length≤maxRow then nx1 (af (i+1)) s s7 s8 s9 s10 s11 s12 t4x t4x2 t4x3 t4x4 t4x5 t4x6 t4x7 (gone++[((rd (0,0,0,()) s12 i).1,())])else none else none) (ex1 s s7 s8 s9 s10 s11 s12 t4x t4x2 t4x3 t4x4 t4x5 t4x6 t4x7 gone)
def A0(s0 s1 s2 s3:Int)(s4 s5:List U7)(s6:List U8)(o0 o1 o2 o3 o4:Int)(s s7 s8 s9:Int)(s10 s11:List U7)(s12:List U8)(t4x t4x2 t4x3 t4x4 t4x5 t4x6 t4x7:Int)(gone:List (Int×Unit)):Option (U0):=(zD (s,s7,s8,s9,s10,s11,s12,gone,())).bind fun y1=>some (y1.1,y1.2.1,(af (s8+1)),y1.2.2.2.1,y1.2.2.2.2.1,y1.2.2.2.2.2.1,y1.2.2.2.2.2.2.1,0,0,0,())
def A1(s0 s1 s2 s3:Int)(s4 s5:List U7)(s6:List U8)(o0 o1 o2 o3 o4:Int)(s s7 s8 s9:Int)(s10 s11:List U7)(s12:List U8)(t4x t4x2 t4x3 t4x4 t4x5 t4x6 t4x7:Int)(gone:List (Int×Unit)):Option (U0):=(zD (s,s7,s8,s9,s10,s11,s12,gone,())).bind fun y1=>some (y1.1,s8,y1.2.2.1,y1.2.2.2.1,y1.2.2.2.2.1,y1.2.2.2.2.2.1,y1.2.2.2.2.2.2.1,0,0,0,())
def T(lo0 lo1:vX (U0))(s0 s1 s2 s3:Int)(s4 s5:List U7)(s6:List U8)(o0 o1 o2 o3 o4:Int):Option (U0):=(CW (s0,s1,s2,s3,s4,s5,s6,())).bind fun y1=>cond (!y1.1) ((lU (1,())).bind fun y2=>some (y2.1,y2.2.1,y2.2.2.1,y2.2.2.2.1,y2.2.2.2.2.1,y2.2.2.2.2.2.1,y2.2.2.2.2.2.2.1,y2.2.2.2.2.2.2.2.1,y2.2.2.2.2.2.2.2.2.1,y2.2.2.2.2.2.2.2.2.2.1,())) ((Ej (o0,o1,o2,o3,o4,())).bind fun y3=>cond (!y3.1) ((lU (1,())).bind fun y4=>some (y4.1,y4.2.1,y4.2.2.1,y4.2.2.2.1,y4.2.2.2.2.1,y4.2.2.2.2.2.1,y4.2.2.2.2.2.2.1,y4.2.2.2.2.2.2.2.1,y4.2.2.2.2.2.2.2.2.1,y4.2.2.2.2.2.2.2.2.2.1,())) (cond (o0==1) ((D9 (s0,s1,s2,s3,s4,s5,s6,o0,o1,o2,o3,o4,())).bind fun y5=>some (y5.1,y5.2.1,y5.2.2.1,y5.2.2.2.1,y5.2.2.2.2.1,y5.2.2.2.2.2.1,y5.2.2.2.2.2.2.1,y5.2.2.2.2.2.2.2.1,y5.2.2.2.2.2.2.2.2.1,y5.2.2.2.2.2.2.2.2.2.1,())) (cond (o0==2) ((qy (s3,s4,s5,o1,())).bind fun y6=>cond (decide (y6.1<0)) ((lU (4,())).bind fun y7=>some (y7.1,y7.2.1,y7.2.2.1,y7.2.2.2.1,y7.2.2.2.2.1,y7.2.2.2.2.2.1,y7.2.2.2.2.2.2.1,y7.2.2.2.2.2.2.2.1,y7.2.2.2.2.2.2.2.2.1,y7.2.2.2.2.2.2.2.2.2.1,())) ((zD (s0,s1,s2,s3,s4,s5,s6,[(o1,())],())).bind fun y8=>some (y8.1,y8.2.1,y8.2.2.1,y8.2.2.2.1,y8.2.2.2.2.1,y8.2.2.2.2.2.1,y8.2.2.2.2.2.2.1,0,0,0,()))) (cond (o0==4) (cond (s2==999000) ((lU (9,())).bind fun y9=>some (y9.1,y9.2.1,y9.2.2.1,y9.2.2.2.1,y9.2.2.2.2.1,y9.2.2.2.2.2.1,y9.2.2.2.2.2.2.1,y9.2.2.2.2.2.2.2.1,y9.2.2.2.2.2.2.2.2.1,y9.2.2.2.2.2.2.2.2.2.1,())) (lo0 0 s0 s1 s2 s3 s4 s5 s6 0 0 0 0 0 0 0 ([]:List (Int×Unit)))) (cond (o0==5) (lo1 0 s0 s1 s2 s3 s4 s5 s6 0 0 0 0 0 0 0 ([]:List (Int×Unit))) ((o9 (o0,o1,o2,o3,o4,())).bind fun y10=>(jT (s3,s4,s5,y10.1,y10.2.1,y10.2.2.1,y10.2.2.2.1,y10.2.2.2.2.1,())).bind fun y11=>cond (y11.2.2.2.2.1 != 0) ((lU (y11.2.2.2.2.1,())).bind fun y12=>some (y12.1,y12.2.1,y12.2.2.1,y12.2.2.2.1,y12.2.2.2.2.1,y12.2.2.2.2.2.1,y12.2.2.2.2.2.2.1,y12.2.2.2.2.2.2.2.1,y12.2.2.2.2.2.2.2.2.1,y12.2.2.2.2.2.2.2.2.2.1,())) ((oh (s0,s1,s2,s3,s4,s5,s6,())).bind fun y13=>some (y13.1,y13.2.1,y13.2.2.1,y11.1,y11.2.1,y11.2.2.1,y13.2.2.2.2.2.2.1,0,0,0,()))))))))
def K0{R:Type}(k0:Nat)(K:ai R):ai R:=aY 1 (bg (fun env ob=>zrc k0 [1,1,1,0,1,0,1,1,1,1,1,0,1,1] env ob (aY 0 (bg (fun env ob=>zrc k0 [1,1,1,1] env ob (K)) (K)))) (aY 0 (bg (fun env ob=>zrc k0 [1,1,1,1] env ob (K)) (K))))
def K1{R:Type}(k0:Nat)(K:ai R):ai R:=aY 3 (bg (fun env ob=>zrc k0 [1,1,1,0,1,0,1,1,1,1,1,1,1,0,1] env ob (aY 0 (bg (fun env ob=>zrc k0 [1,1,1,1] env ob (K)) (K)))) (aY 0 (bg (fun env ob=>zrc k0 [1,1,1,1] env ob (K)) (K))))
def L0:vX R:=fun i s s7 s8 s9 s10 s11 s12 t4x t4x2 t4x3 t4x4 t4x5 t4x6 t4x7 gone=>iter 0 [2,4,5,6] [2,4,5] (zrc k0 [1,1,1,0,1,0,1,1,1,1,1,0,1,0,1,0,0]) k [(2,.ptr 0 0 0 0),(4,.ptr 1 0 0 0),(5,.own 2),(6,.int .i64 i)] [.box [.int .i64 s,.int .i64 s7,.int .i64 s8,.int .i64 s9,.sl aC s10,.sl aC s11,.sl ct0 s12],.box [.int .i64 t4x,.int .i64 t4x2,.int .i64 t4x3,.int .i64 t4x4,.nils,.nils,.nils,.int .i64 t4x5,.int .i64 t4x6,.int .i64 t4x7],.arr [CT.int .i64] gone] K
def L1:vX R:=fun i s s7 s8 s9 s10 s11 s12 t4x t4x2 t4x3 t4x4 t4x5 t4x6 t4x7 gone=>iter 0 [2,4,5,8] [2,4,5] (zrc k0 [1,1,1,0,1,0,1,1,1,1,1,1,1,0,0,1,0,0]) k [(2,.ptr 0 0 0 0),(4,.ptr 1 0 0 0),(5,.own 2),(8,.int .i64 i)] [.box [.int .i64 s,.int .i64 s7,.int .i64 s8,.int .i64 s9,.sl aC s10,.sl aC s11,.sl ct0 s12],.box [.int .i64 t4x,.int .i64 t4x2,.int .i64 t4x3,.int .i64 t4x4,.nils,.nils,.nils,.int .i64 t4x5,.int .i64 t4x6,.int .i64 t4x7],.arr [CT.int .i64] gone] K
def H0:yX R:=fun s s7 s8 s9 s10 s11 s12 t4x t4x2 t4x3 t4x4 t4x5 t4x6 t4x7 gone=>K (.exit 1) [(2,.ptr 0 0 0 0),(4,.ptr 1 0 0 0),(5,.own 2)] [.box [.int .i64 s,.int .i64 s7,.int .i64 s8,.int .i64 s9,.sl aC s10,.sl aC s11,.sl ct0 s12],.box [.int .i64 t4x,.int .i64 t4x2,.int .i64 t4x3,.int .i64 t4x4,.nils,.nils,.nils,.int .i64 t4x5,.int .i64 t4x6,.int .i64 t4x7],.arr [CT.int .i64] gone]
def H1:yX R:=fun s s7 s8 s9 s10 s11 s12 t4x t4x2 t4x3 t4x4 t4x5 t4x6 t4x7 gone=>K (.exit 3) [(2,.ptr 0 0 0 0),(4,.ptr 1 0 0 0),(5,.own 2)] [.box [.int .i64 s,.int .i64 s7,.int .i64 s8,.int .i64 s9,.sl aC s10,.sl aC s11,.sl ct0 s12],.box [.int .i64 t4x,.int .i64 t4x2,.int .i64 t4x3,.int .i64 t4x4,.nils,.nils,.nils,.int .i64 t4x5,.int .i64 t4x6,.int .i64 t4x7],.arr [CT.int .i64] gone]
theorem zs0:L0 k0 (k+1) K=R0 (L0 k0 k K) (H0 K):=by kernel_rfl
theorem zs1:L1 k0 (k+1) K=R1 (L1 k0 k K) (H1 K):=by kernel_rfl
def G0{R:Type}(k0:Nat)(hx0:yX R):Nat→vX R
 |0=>fun _ _ _ _ _ _ _ _ _ _ _ _ _ _ _ _=>none
 |k+1=>R0 (G0 k0 hx0 k) hx0
theorem aK:∀ k,L0 k0 k K=G0 k0 (H0 K) k:=bG rfl fun k ih=>by rw[zs0,G0];(try simp only[ih]);try rfl
def G1{R:Type}(k0:Nat)(hx1:yX R):Nat→vX R
 |0=>fun _ _ _ _ _ _ _ _ _ _ _ _ _ _ _ _=>none
 |k+1=>R1 (G1 k0 hx1 k) hx1
theorem dO:∀ k,L1 k0 k K=G1 k0 (H1 K) k:=bG rfl fun k ih=>by rw[zs1,G1];(try simp only[ih,aK]);try rfl
variable (s0 s1 s2 s3:Int) (s4 s5:List U7) (s6:List U8) (o0 o1 o2 o3 o4:Int)
def aA:ai (U0):=bW Tryz.prog [.cell 4 40] Kq Jy (s0,s1,s2,s3,s4,s5,s6,o0,o1,o2,o3,o4,())
theorem aS:H0 (K0 k0 (aA s0 s1 s2 s3 s4 s5 s6 o0 o1 o2 o3 o4))=A0 s0 s1 s2 s3 s4 s5 s6 o0 o1 o2 o3 o4:=by kernel_rfl
theorem bU:H1 (K1 k0 (aA s0 s1 s2 s3 s4 s5 s6 o0 o1 o2 o3 o4))=A1 s0 s1 s2 s3 s4 s5 s6 o0 o1 o2 o3 o4:=by kernel_rfl
def FF:Option (U0):=T (G0 k0 (A0 s0 s1 s2 s3 s4 s5 s6 o0 o1 o2 o3 o4) k0) (G1 k0 (A1 s0 s1 s2 s3 s4 s5 s6 o0 o1 o2 o3 o4) k0) s0 s1 s2 s3 s4 s5 s6 o0 o1 o2 o3 o4
theorem aQ:bZ Tryz.prog (aP dD) ay k0 7 Kq Jy [] (s0,s1,s2,s3,s4,s5,s6,o0,o1,o2,o3,o4,())=FF k0 s0 s1 s2 s3 s4 s5 s6 o0 o1 o2 o3 o4:=Eq.trans (b:=T (L0 k0 k0 (K0 k0 (aA s0 s1 s2 s3 s4 s5 s6 o0 o1 o2 o3 o4))) (L1 k0 k0 (K1 k0 (aA s0 s1 s2 s3 s4 s5 s6 o0 o1 o2 o3 o4))) s0 s1 s2 s3 s4 s5 s6 o0 o1 o2 o3 o4) (by kernel_rfl) (by rw[FF];(try simp only[aK,dO,aS,bU]);try rfl)
def _root_.Go.Rv.rE:=fun x:Int×Int×Int×Int×(List U7)×(List U7)×(List U8)×U5=>FF (300+x.2.2.2.2.1.length+x.2.2.2.2.2.1.length+x.2.2.2.2.2.2.1.length) x.1 x.2.1 x.2.2.1 x.2.2.2.1 x.2.2.2.2.1 x.2.2.2.2.2.1 x.2.2.2.2.2.2.1 x.2.2.2.2.2.2.2.1 x.2.2.2.2.2.2.2.2.1 x.2.2.2.2.2.2.2.2.2.1 x.2.2.2.2.2.2.2.2.2.2.1 x.2.2.2.2.2.2.2.2.2.2.2.1
abbrev _root_.Go.Rv.LW:aG:=⟨Kq,Jy,rE,[]⟩
theorem _root_.Go.Rv.abt:aF Dr Tryz.prog 7 LW:=dh mix (.c Ro (.c ac2 (.c RV (.c acB (.c CZ (.c aav (.c RZ (.c SC (.c zO .nil))))))))) (by kernel_rfl) fun x=>⟨ay,_,aQ _ _ _ _ _ _ _ _ _ _ _ _ _⟩
end iR
abbrev LH:Is:=[.v true gV,.v false [CT.sl dJ]]
abbrev KH:Os:=[(false,[CT.sl ct0]),(true,gV)]
namespace qC
def ay:Nat→List Nat×List Nat:=fun k=>if k=4 then([1,5,6,7,8],[5,6,7])else([],[])
def zrc{R:Type}(k0:Nat)(p:List Nat):Env→List Ob→ai R→Option R:=bD Tryz.prog (aP [(7,[],LW),(38,[],uN)]) 42 0 ay k0 (bQ p (cZ Tryz.prog 49))
def R0{R:Type}(nx0:Gm R)(ex0:QB R)(list2:List U5)(i t5x t5x2 t5x3 t5x4:Int)(out:List U8)(now now2 now3 now4:Int)(o3 o4:List U7)(o5:List U8):Option R:=cond (decide (i<(list2.length:Int))) (if 0≤i∧i<(list2.length:Int)then(rE (now,now2,now3,now4,o3,o4,o5,(rd (0,0,0,0,0,()) list2 i).1,(rd (0,0,0,0,0,()) list2 i).2.1,(rd (0,0,0,0,0,()) list2 i).2.2.1,(rd (0,0,0,0,0,()) list2 i).2.2.2.1,(rd (0,0,0,0,0,()) list2 i).2.2.2.2.1,())).bind fun y1=>if out.length+[(y1.2.2.2.2.2.2.2.1,y1.2.2.2.2.2.2.2.2.1,y1.2.2.2.2.2.2.2.2.2.1,())].length≤maxRow then cond (y1.2.2.2.2.2.2.2.2.2.1==0) (nx0 list2 (af (i+1)) t5x t5x2 t5x3 t5x4 (out++[(y1.2.2.2.2.2.2.2.1,y1.2.2.2.2.2.2.2.2.1,y1.2.2.2.2.2.2.2.2.2.1,())]) y1.1 y1.2.1 y1.2.2.1 y1.2.2.2.1 y1.2.2.2.2.1 y1.2.2.2.2.2.1 y1.2.2.2.2.2.2.1) (nx0 list2 (af (i+1)) t5x t5x2 t5x3 t5x4 (out++[(y1.2.2.2.2.2.2.2.1,y1.2.2.2.2.2.2.2.2.1,y1.2.2.2.2.2.2.2.2.2.1,())]) now now2 now3 now4 o3 o4 o5)else none else none) (ex0 t5x t5x2 t5x3 t5x4 out now now2 now3 now4 o3 o4 o5)
def A0(s0 s1 s2 s3:Int)(s4 s5:List U7)(s6:List U8)(list:List U5)(t5x t5x2 t5x3 t5x4:Int)(out:List U8)(now now2 now3 now4:Int)(o3 o4:List U7)(o5:List U8):Option ((List U8)×U1):=some (out,now,now2,now3,now4,o3,o4,o5,())
def T(lo0:Gm ((List U8)×U1))(s0 s1 s2 s3:Int)(s4 s5:List U7)(s6:List U8)(list:List U5):Option ((List U8)×U1):=(oh (s0,s1,s2,s3,s4,s5,s6,())).bind fun y1=>lo0 list 0 0 0 0 0 ([]:List U8) y1.1 y1.2.1 y1.2.2.1 y1.2.2.2.1 y1.2.2.2.2.1 y1.2.2.2.2.2.1 y1.2.2.2.2.2.2.1
def K0{R:Type}(k0:Nat)(K:ai R):ai R:=aY 0 (bg (fun env ob=>zrc k0 [1,1,1,1] env ob (K)) (K))
def L0:Gm R:=fun list2 i t5x t5x2 t5x3 t5x4 out now now2 now3 now4 o3 o4 o5=>iter 0 [1,5,6,7,8] [5,6,7] (zrc k0 [1,1,1,0,1,0,0]) k [(1,.sl dJ list2),(5,.ptr 0 0 0 0),(6,.own 1),(7,.ptr 2 0 0 0),(8,.int .i64 i)] [.box [.int .i64 t5x,.int .i64 t5x2,.int .i64 t5x3,.int .i64 t5x4,.nils,.nils,.nils],.arr ct0 out,.box [.int .i64 now,.int .i64 now2,.int .i64 now3,.int .i64 now4,.own 3,.own 4,.own 5],.arr aC o3,.arr aC o4,.arr ct0 o5] K
def H0:QB R:=fun t5x t5x2 t5x3 t5x4 out now now2 now3 now4 o3 o4 o5=>K (.exit 0) [(5,.ptr 0 0 0 0),(6,.own 1),(7,.ptr 2 0 0 0)] [.box [.int .i64 t5x,.int .i64 t5x2,.int .i64 t5x3,.int .i64 t5x4,.nils,.nils,.nils],.arr ct0 out,.box [.int .i64 now,.int .i64 now2,.int .i64 now3,.int .i64 now4,.own 3,.own 4,.own 5],.arr aC o3,.arr aC o4,.arr ct0 o5]
theorem zs0:L0 k0 (k+1) K=R0 (L0 k0 k K) (H0 K):=by kernel_rfl
def G0{R:Type}(k0:Nat)(hx0:QB R):Nat→Gm R
 |0=>fun _ _ _ _ _ _ _ _ _ _ _ _ _ _=>none
 |k+1=>R0 (G0 k0 hx0 k) hx0
theorem aK:∀ k,L0 k0 k K=G0 k0 (H0 K) k:=bG rfl fun k ih=>by rw[zs0,G0];(try simp only[ih]);try rfl
variable (s0 s1 s2 s3:Int) (s4 s5:List U7) (s6:List U8) (list:List U5)
def aA:ai ((List U8)×U1):=bW Tryz.prog [.tmp 4,.cell 5 38] LH KH (s0,s1,s2,s3,s4,s5,s6,list,())
theorem aS:H0 (K0 k0 (aA s0 s1 s2 s3 s4 s5 s6 list))=A0 s0 s1 s2 s3 s4 s5 s6 list:=by kernel_rfl
def FF:Option ((List U8)×U1):=T (G0 k0 (A0 s0 s1 s2 s3 s4 s5 s6 list) k0) s0 s1 s2 s3 s4 s5 s6 list
theorem aQ:bZ Tryz.prog (aP [(7,[],LW),(38,[],uN)]) ay k0 49 LH KH [] (s0,s1,s2,s3,s4,s5,s6,list,())=FF k0 s0 s1 s2 s3 s4 s5 s6 list:=Eq.trans (b:=T (L0 k0 k0 (K0 k0 (aA s0 s1 s2 s3 s4 s5 s6 list))) s0 s1 s2 s3 s4 s5 s6 list) (by kernel_rfl) (by rw[FF];(try simp only[aK,aS]);try rfl)
def _root_.Go.Rv.Ea:=fun x:Int×Int×Int×Int×(List U7)×(List U7)×(List U8)×(List U5)×Unit=>FF (300+x.2.2.2.2.1.length+x.2.2.2.2.2.1.length+x.2.2.2.2.2.2.1.length+x.2.2.2.2.2.2.2.1.length) x.1 x.2.1 x.2.2.1 x.2.2.2.1 x.2.2.2.2.1 x.2.2.2.2.2.1 x.2.2.2.2.2.2.1 x.2.2.2.2.2.2.2.1
abbrev _root_.Go.Rv.ac9:aG:=⟨LH,KH,Ea,[]⟩
theorem _root_.Go.Rv.acC:aF Dr Tryz.prog 49 ac9:=dh mix (.c abt (.c zO .nil)) (by kernel_rfl) fun x=>⟨ay,_,aQ _ _ _ _ _ _ _ _ _⟩
end qC
def Me.T(s0 s1 s2 s3:Int)(s4 s5:List U7)(s6:List U8)(list:List U5):Option (U1):=cond (decide ((list.length:Int)>400)) (some (0,0,0,0,[],[],[],())) ((CW (s0,s1,s2,s3,s4,s5,s6,())).bind fun y1=>cond (!y1.1) ((oh (s0,s1,s2,s3,s4,s5,s6,())).bind fun y2=>some (y2.1,y2.2.1,y2.2.2.1,y2.2.2.2.1,y2.2.2.2.2.1,y2.2.2.2.2.2.1,y2.2.2.2.2.2.2.1,())) (cond (decide ((list.length:Int)>300)) ((oh (s0,s1,s2,s3,s4,s5,s6,())).bind fun y3=>some (y3.1,y3.2.1,y3.2.2.1,y3.2.2.2.1,y3.2.2.2.2.1,y3.2.2.2.2.2.1,y3.2.2.2.2.2.2.1,())) ((Ea (s0,s1,s2,s3,s4,s5,s6,list,())).bind fun y4=>some (y4.2.1,y4.2.2.1,y4.2.2.2.1,y4.2.2.2.2.1,y4.2.2.2.2.2.1,y4.2.2.2.2.2.2.1,y4.2.2.2.2.2.2.2.1,()))))
def Dn:=fun x:Int×Int×Int×Int×(List U7)×(List U7)×(List U8)×(List U5)×Unit=>Me.T x.1 x.2.1 x.2.2.1 x.2.2.2.1 x.2.2.2.2.1 x.2.2.2.2.2.1 x.2.2.2.2.2.2.1 x.2.2.2.2.2.2.2.1
abbrev abM:aG:=⟨[.v true gV,.v false [CT.sl dJ]],[(true,gV)],Dn,[]⟩
theorem aaT:aF Dr Tryz.prog 25 abM:=aW mix (.c Ro (.c zO (.c acC .nil))) (by kernel_rfl) fun x=>by kernel_rfl
def XL.T(n low high:Int):Option (Bool×Unit):=cond (decide (low≤n)) (some ((decide (n≤high)),())) (some (false,()))
def nH:=fun x:U8=>XL.T x.1 x.2.1 x.2.2.1
abbrev V5:aG:=⟨[.v false [CT.int .i64],.v false [CT.int .i64],.v false [CT.int .i64]],[(false,[CT.bool])],nH,[]⟩
theorem Ak:aF Dr Tryz.prog 78 V5:=aW mix .nil (by kernel_rfl) fun x=>by kernel_rfl
def EL.T(n:Int):Option (Bool×Unit):=(nH (n,1,1000000,())).bind fun y1=>some (y1.1,())
def gu:=fun x:Int×Unit=>EL.T x.1
abbrev UW:aG:=⟨[.v false [CT.int .i64]],[(false,[CT.bool])],gu,[]⟩
theorem Ei:aF Dr Tryz.prog 81 UW:=aW mix (.c Ak .nil) (by kernel_rfl) fun x=>by kernel_rfl
def Eo.T(n:Int):Option (Bool×Unit):=(nH (n,0,1125899906842624,())).bind fun y1=>some (y1.1,())
def je:=fun x:Int×Unit=>Eo.T x.1
abbrev Ue:aG:=⟨[.v false [CT.int .i64]],[(false,[CT.bool])],je,[]⟩
theorem DK:aF Dr Tryz.prog 82 Ue:=aW mix (.c Ak .nil) (by kernel_rfl) fun x=>by kernel_rfl
def D6.T(n:Int):Option (Bool×Unit):=(nH (n,1,1073741824,())).bind fun y1=>some (y1.1,())
def jU:=fun x:Int×Unit=>D6.T x.1
abbrev Tc:aG:=⟨[.v false [CT.int .i64]],[(false,[CT.bool])],jU,[]⟩
theorem KO:aF Dr Tryz.prog 83 Tc:=aW mix (.c Ak .nil) (by kernel_rfl) fun x=>by kernel_rfl
abbrev JK:Is:=[.v true eH]
abbrev Jk:Os:=[(false,[CT.bool])]
namespace iI
def dD:Tb:=[(81,[],UW),(82,[],Ue),(83,[],Tc),(107,[],Rl)]
def ay:Nat→List Nat×List Nat:=fun k=>if k=4 then([1,25,26,27],[1,2])else if k=11 then([1,78,79,80],[2])else([],[])
def zrc{R:Type}(k0:Nat)(p:List Nat):Env→List Ob→ai R→Option R:=bD Tryz.prog (aP dD) 125 0 ay k0 (bQ p (cZ Tryz.prog 79))
def R0{R:Type}(nx0:tX R)(ex0:zi R)(ex1:zh R)(t25x:List U7)(t26x t27x f:Int)(f3 f4:List U7):Option R:=cond (decide (t27x<t26x)) (if 0≤t27x∧t27x<(t25x.length:Int)then if 0≤t27x∧t27x≤(f3.length:Int)then(gu ((rd (0,0,0,0,()) t25x t27x).1,())).bind fun y1=>cond (!y1.1) (ex0 false f f3 f4) (cond (decide (t27x>0)) (if 0≤(af (t27x - 1))∧(af (t27x - 1))<(f3.length:Int)then cond (decide ((rd (0,0,0,0,()) f3 (af (t27x - 1))).1≥(rd (0,0,0,0,()) t25x t27x).1)) (ex0 false f f3 f4) ((mF (0,(f3.take (t27x.toNat)),[],(rd (0,0,0,0,()) t25x t27x).2.1,())).bind fun y2=>cond (!y2.1) (ex0 false f f3 f4) ((je ((rd (0,0,0,0,()) t25x t27x).2.2.1,())).bind fun y3=>cond (!y3.1) (ex0 false f f3 f4) ((jU ((rd (0,0,0,0,()) t25x t27x).2.2.2.1,())).bind fun y4=>cond (!y4.1) (ex0 false f f3 f4) (nx0 t25x t26x (af (t27x+1)) f f3 f4))))else none) ((mF (0,(f3.take (t27x.toNat)),[],(rd (0,0,0,0,()) t25x t27x).2.1,())).bind fun y5=>cond (!y5.1) (ex0 false f f3 f4) ((je ((rd (0,0,0,0,()) t25x t27x).2.2.1,())).bind fun y6=>cond (!y6.1) (ex0 false f f3 f4) ((jU ((rd (0,0,0,0,()) t25x t27x).2.2.2.1,())).bind fun y7=>cond (!y7.1) (ex0 false f f3 f4) (nx0 t25x t26x (af (t27x+1)) f f3 f4)))))else none else none) (ex1 f f3 f4)
def R1{R:Type}(nx1:tX R)(ex2:fM R)(ex3:dF R)(t78x:List U7)(t79x t80x f:Int)(f3 f4:List U7):Option R:=cond (decide (t80x<t79x)) (if 0≤t80x∧t80x<(t78x.length:Int)then(gu ((rd (0,0,0,0,()) t78x t80x).1,())).bind fun y1=>cond (!y1.1) (ex2 false) (cond (decide (t80x>0)) (if 0≤(af (t80x - 1))∧(af (t80x - 1))<(f4.length:Int)then cond (decide ((rd (0,0,0,0,()) f4 (af (t80x - 1))).1≥(rd (0,0,0,0,()) t78x t80x).1)) (ex2 false) ((mF (f,f3,f4,(rd (0,0,0,0,()) t78x t80x).2.1,())).bind fun y2=>cond (!y2.1) (ex2 false) ((je ((rd (0,0,0,0,()) t78x t80x).2.2.1,())).bind fun y3=>cond (!y3.1) (ex2 false) ((jU ((rd (0,0,0,0,()) t78x t80x).2.2.2.1,())).bind fun y4=>cond (!y4.1) (ex2 false) (nx1 t78x t79x (af (t80x+1)) f f3 f4))))else none) ((mF (f,f3,f4,(rd (0,0,0,0,()) t78x t80x).2.1,())).bind fun y5=>cond (!y5.1) (ex2 false) ((je ((rd (0,0,0,0,()) t78x t80x).2.2.1,())).bind fun y6=>cond (!y6.1) (ex2 false) ((jU ((rd (0,0,0,0,()) t78x t80x).2.2.2.1,())).bind fun y7=>cond (!y7.1) (ex2 false) (nx1 t78x t79x (af (t80x+1)) f f3 f4)))))else none) (ex3 ())
def A0(f0:Int)(f1 f2:List U7)(t2x:Bool)(f:Int)(f3 f4:List U7):Option (Bool×Unit):=some (t2x,())
def A1(lo1:tX (Bool×Unit))(f0:Int)(f1 f2:List U7)(f:Int)(f3 f4:List U7):Option (Bool×Unit):=lo1 f4 (f4.length:Int) 0 f f3 f4
def A2(f0:Int)(f1 f2:List U7)(t2x:Bool):Option (Bool×Unit):=some (t2x,())
def A3(f0:Int)(f1 f2:List U7)(_u:Unit):Option (Bool×Unit):=some (true,())
def T(lo0:tX (Bool×Unit))(f0:Int)(f1 f2:List U7):Option (Bool×Unit):=(je (f0,())).bind fun y1=>cond (!y1.1) (some (false,())) (cond (decide ((f1.length:Int)>30)) (some (false,())) (cond (decide ((f2.length:Int)>60)) (some (false,())) (lo0 f1 (f1.length:Int) 0 f0 f1 f2)))
def K0{R:Type}(k0:Nat)(K:ai R):ai R:=aY 0 (bg (fun env ob=>zrc k0 [1,1,1] env ob (K)) (K))
def K1{R:Type}(k0:Nat)(K:ai R):ai R:=aY 2 (bg (fun env ob=>zrc k0 [1,1,1,1] env ob (K)) (K))
def L0:tX R:=fun t25x t26x t27x f f3 f4=>iter 0 [1,25,26,27] [1,2] (zrc k0 [1,1,0,1,0,0]) k [(1,.ptr 0 0 0 0),(25,.sl aC t25x),(26,.int .i64 t26x),(27,.int .i64 t27x)] [.box [.int .i64 f,.sl aC f3,.sl aC f4]] K
def L1:tX R:=fun t78x t79x t80x f f3 f4=>iter 0 [1,78,79,80] [2] (zrc k0 [1,1,1,0,1,0,0]) k [(1,.ptr 0 0 0 0),(78,.sl aC t78x),(79,.int .i64 t79x),(80,.int .i64 t80x)] [.box [.int .i64 f,.sl aC f3,.sl aC f4]] K
def H0:zi R:=fun t2x f f3 f4=>K .ret [(1,.ptr 0 0 0 0),(2,.bool t2x)] [.box [.int .i64 f,.sl aC f3,.sl aC f4]]
def H1:zh R:=fun f f3 f4=>K (.exit 0) [(1,.ptr 0 0 0 0),(2,.undef)] [.box [.int .i64 f,.sl aC f3,.sl aC f4]]
def H2:fM R:=fun t2x=>K .ret [(2,.bool t2x)] []
def H3:dF R:=fun _=>K (.exit 2) [(2,.undef)] []
theorem zs0:L0 k0 (k+1) K=R0 (L0 k0 k K) (H0 K) (H1 K):=by kernel_rfl
theorem zs1:L1 k0 (k+1) K=R1 (L1 k0 k K) (H2 K) (H3 K):=by kernel_rfl
def G0{R:Type}(k0:Nat)(hx0:zi R)(hx1:zh R):Nat→tX R
 |0=>fun _ _ _ _ _ _=>none
 |k+1=>R0 (G0 k0 hx0 hx1 k) hx0 hx1
theorem aK:∀ k,L0 k0 k K=G0 k0 (H0 K) (H1 K) k:=bG rfl fun k ih=>by rw[zs0,G0];(try simp only[ih]);try rfl
def G1{R:Type}(k0:Nat)(hx2:fM R)(hx3:dF R):Nat→tX R
 |0=>fun _ _ _ _ _ _=>none
 |k+1=>R1 (G1 k0 hx2 hx3 k) hx2 hx3
theorem dO:∀ k,L1 k0 k K=G1 k0 (H2 K) (H3 K) k:=bG rfl fun k ih=>by rw[zs1,G1];(try simp only[ih,aK]);try rfl
variable (f0:Int) (f1 f2:List U7)
def aA:ai (Bool×Unit):=bW Tryz.prog [.tmp 2] JK Jk (f0,f1,f2,())
theorem aS:H0 (K0 k0 (aA f0 f1 f2))=A0 f0 f1 f2:=by kernel_rfl
theorem bU:H1 (K0 k0 (aA f0 f1 f2))=A1 (L1 k0 k0 (K1 k0 (aA f0 f1 f2))) f0 f1 f2:=by kernel_rfl
theorem mr:H2 (K1 k0 (aA f0 f1 f2))=A2 f0 f1 f2:=by kernel_rfl
theorem rq:H3 (K1 k0 (aA f0 f1 f2))=A3 f0 f1 f2:=by kernel_rfl
def FF:Option (Bool×Unit):=T (G0 k0 (A0 f0 f1 f2) (A1 (G1 k0 (A2 f0 f1 f2) (A3 f0 f1 f2) k0) f0 f1 f2) k0) f0 f1 f2
theorem aQ:bZ Tryz.prog (aP dD) ay k0 79 JK Jk [] (f0,f1,f2,())=FF k0 f0 f1 f2:=Eq.trans (b:=T (L0 k0 k0 (K0 k0 (aA f0 f1 f2))) f0 f1 f2) (by kernel_rfl) (by rw[FF];(try simp only[aK,dO,aS,bU,mr,rq]);try rfl)
def _root_.Go.Rv.Lp:=fun x:U3=>FF (300+x.2.1.length+x.2.2.1.length) x.1 x.2.1 x.2.2.1
abbrev _root_.Go.Rv.SA:aG:=⟨JK,Jk,Lp,[]⟩
theorem _root_.Go.Rv.aa6:aF Dr Tryz.prog 79 SA:=dh mix (.c Ei (.c DK (.c KO (.c CJ .nil)))) (by kernel_rfl) fun x=>⟨ay,_,aQ _ _ _ _⟩
end iI
def UO.T(n:Int):Option (Bool×Unit):=(nH (n,0,1000000,())).bind fun y1=>some (y1.1,())
def Eg:=fun x:Int×Unit=>UO.T x.1
abbrev adh:aG:=⟨[.v false [CT.int .i64]],[(false,[CT.bool])],Eg,[]⟩
theorem acL:aF Dr Tryz.prog 132 adh:=aW mix (.c Ak .nil) (by kernel_rfl) fun x=>by kernel_rfl
def Rx.T(l0 l1 l2:Int):Option (Bool×Unit):=(gu (l0,())).bind fun y1=>cond y1.1 ((je (l1,())).bind fun y2=>cond y2.1 ((Eg (l2,())).bind fun y3=>some (y3.1,())) (some (false,()))) (some (false,()))
def CP:=fun x:U8=>Rx.T x.1 x.2.1 x.2.2.1
abbrev Jb:aG:=⟨[.v true ct0],[(false,[CT.bool])],CP,[]⟩
theorem Z9:aF Dr Tryz.prog 108 Jb:=aW mix (.c Ei (.c DK (.c acL .nil))) (by kernel_rfl) fun x=>by kernel_rfl
abbrev I9:Is:=[.v false [CT.sl ct0]]
abbrev Iy:Os:=[(false,[CT.bool])]
namespace jS
def ay:Nat→List Nat×List Nat:=fun k=>if k=2 then([0,5,6,7],[0,2])else([],[])
def zrc{R:Type}(k0:Nat)(p:List Nat):Env→List Ob→ai R→Option R:=bD Tryz.prog (aP [(108,[],Jb)]) 34 0 ay k0 (bQ p (cZ Tryz.prog 80))
def R0{R:Type}(nx0:Gl R)(ex0:QA R)(ex1:zl R)(list2 t5x:List U8)(t6x t7x:Int):Option R:=cond (decide (t7x<t6x)) (if 0≤t7x∧t7x<(t5x.length:Int)then(CP ((rd (0,0,0,()) t5x t7x).1,(rd (0,0,0,()) t5x t7x).2.1,(rd (0,0,0,()) t5x t7x).2.2.1,())).bind fun y1=>cond (!y1.1) (ex0 list2 false) (cond (decide (t7x>0)) (if 0≤(af (t7x - 1))∧(af (t7x - 1))<(list2.length:Int)then cond (decide ((rd (0,0,0,()) list2 (af (t7x - 1))).1≥(rd (0,0,0,()) t5x t7x).1)) (ex0 list2 false) (nx0 list2 t5x t6x (af (t7x+1)))else none) (nx0 list2 t5x t6x (af (t7x+1))))else none) (ex1 list2)
def A0(list:List U8)(list2:List U8)(t2x:Bool):Option (Bool×Unit):=some (t2x,())
def A1(list:List U8)(list2:List U8):Option (Bool×Unit):=some ((decide ((list2.length:Int)≤60)),())
def T(lo0:Gl (Bool×Unit))(list:List U8):Option (Bool×Unit):=lo0 list list (list.length:Int) 0
def K0{R:Type}(k0:Nat)(K:ai R):ai R:=aY 0 (bg (fun env ob=>zrc k0 [1,1] env ob (K)) (K))
def L0:Gl R:=fun list2 t5x t6x t7x=>iter 0 [0,5,6,7] [0,2] (zrc k0 [1,0,1,0,0]) k [(0,.sl ct0 list2),(5,.sl ct0 t5x),(6,.int .i64 t6x),(7,.int .i64 t7x)] [] K
def H0:QA R:=fun list2 t2x=>K .ret [(0,.sl ct0 list2),(2,.bool t2x)] []
def H1:zl R:=fun list2=>K (.exit 0) [(0,.sl ct0 list2),(2,.undef)] []
theorem zs0:L0 k0 (k+1) K=R0 (L0 k0 k K) (H0 K) (H1 K):=by kernel_rfl
def G0{R:Type}(k0:Nat)(hx0:QA R)(hx1:zl R):Nat→Gl R
 |0=>fun _ _ _ _=>none
 |k+1=>R0 (G0 k0 hx0 hx1 k) hx0 hx1
theorem aK:∀ k,L0 k0 k K=G0 k0 (H0 K) (H1 K) k:=bG rfl fun k ih=>by rw[zs0,G0];(try simp only[ih]);try rfl
variable (list:List U8)
def aA:ai (Bool×Unit):=bW Tryz.prog [.tmp 2] I9 Iy (list,())
theorem aS:H0 (K0 k0 (aA list))=A0 list:=by kernel_rfl
theorem bU:H1 (K0 k0 (aA list))=A1 list:=by kernel_rfl
def FF:Option (Bool×Unit):=T (G0 k0 (A0 list) (A1 list) k0) list
theorem aQ:bZ Tryz.prog (aP [(108,[],Jb)]) ay k0 80 I9 Iy [] (list,())=FF k0 list:=Eq.trans (b:=T (L0 k0 k0 (K0 k0 (aA list))) list) (by kernel_rfl) (by rw[FF];(try simp only[aK,aS,bU]);try rfl)
def _root_.Go.Rv.JS:=fun x:(List U8)×Unit=>FF (300+x.1.length) x.1
abbrev _root_.Go.Rv.RG:aG:=⟨I9,Iy,JS,[]⟩
theorem _root_.Go.Rv.aan:aF Dr Tryz.prog 80 RG:=dh mix (.c Z9 .nil) (by kernel_rfl) fun x=>⟨ay,_,aQ _ _⟩
end jS
abbrev I8:Is:=[.v true gV]
abbrev Iw:Os:=[(false,[CT.bool])]
namespace kE
def dD:Tb:=[(78,[],V5),(79,[],SA),(80,[],RG)]
def ay:Nat→List Nat×List Nat:=fun k=>if k=4 then([1,46,47,48],[2])else([],[])
def zrc{R:Type}(k0:Nat)(p:List Nat):Env→List Ob→ai R→Option R:=bD Tryz.prog (aP dD) 78 0 ay k0 (bQ p (cZ Tryz.prog 41))
def R0{R:Type}(nx0:Gj R)(ex0:fM R)(ex1:dF R)(t46x:List U8)(t47x t48x s s7 s8 s9:Int)(s10 s11:List U7)(s12:List U8):Option R:=cond (decide (t48x<t47x)) (if 0≤t48x∧t48x<(t46x.length:Int)then if 0≤t48x∧t48x<(s11.length:Int)then cond ((rd (0,0,0,()) t46x t48x).1 != (rd (0,0,0,0,()) s11 t48x).1) (ex0 false) ((nH ((rd (0,0,0,()) t46x t48x).2.2.1,(af (s8+1)),(af (s8+s)),())).bind fun y1=>cond (!y1.1) (ex0 false) (nx0 t46x t47x (af (t48x+1)) s s7 s8 s9 s10 s11 s12))else none else none) (ex1 ())
def A0(s0 s1 s2 s3:Int)(s4 s5:List U7)(s6:List U8)(t2x:Bool):Option (Bool×Unit):=some (t2x,())
def A1(s0 s1 s2 s3:Int)(s4 s5:List U7)(s6:List U8)(_u:Unit):Option (Bool×Unit):=some (true,())
def T(lo0:Gj (Bool×Unit))(s0 s1 s2 s3:Int)(s4 s5:List U7)(s6:List U8):Option (Bool×Unit):=(nH (s0,1,1000,())).bind fun y1=>cond (!y1.1) (some (false,())) ((nH (s2,0,999000,())).bind fun y2=>cond (!y2.1) (some (false,())) ((nH (s1,0,s2,())).bind fun y3=>cond (!y3.1) (some (false,())) ((Lp (s3,s4,s5,())).bind fun y4=>cond (!y4.1) (some (false,())) ((JS (s6,())).bind fun y5=>cond (!y5.1) (some (false,())) (cond ((s6.length:Int) != (s5.length:Int)) (some (false,())) (lo0 s6 (s6.length:Int) 0 s0 s1 s2 s3 s4 s5 s6))))))
def K0{R:Type}(k0:Nat)(K:ai R):ai R:=aY 0 (bg (fun env ob=>zrc k0 [1,1,1] env ob (K)) (K))
def L0:Gj R:=fun t46x t47x t48x s s7 s8 s9 s10 s11 s12=>iter 0 [1,46,47,48] [2] (zrc k0 [1,1,0,1,0,0]) k [(1,.ptr 0 0 0 0),(46,.sl ct0 t46x),(47,.int .i64 t47x),(48,.int .i64 t48x)] [.box [.int .i64 s,.int .i64 s7,.int .i64 s8,.int .i64 s9,.sl aC s10,.sl aC s11,.sl ct0 s12]] K
def H0:fM R:=fun t2x=>K .ret [(2,.bool t2x)] []
def H1:dF R:=fun _=>K (.exit 0) [(2,.undef)] []
theorem zs0:L0 k0 (k+1) K=R0 (L0 k0 k K) (H0 K) (H1 K):=by kernel_rfl
def G0{R:Type}(k0:Nat)(hx0:fM R)(hx1:dF R):Nat→Gj R
 |0=>fun _ _ _ _ _ _ _ _ _ _=>none
 |k+1=>R0 (G0 k0 hx0 hx1 k) hx0 hx1
theorem aK:∀ k,L0 k0 k K=G0 k0 (H0 K) (H1 K) k:=bG rfl fun k ih=>by rw[zs0,G0];(try simp only[ih]);try rfl
variable (s0 s1 s2 s3:Int) (s4 s5:List U7) (s6:List U8)
def aA:ai (Bool×Unit):=bW Tryz.prog [.tmp 2] I8 Iw (s0,s1,s2,s3,s4,s5,s6,())
theorem aS:H0 (K0 k0 (aA s0 s1 s2 s3 s4 s5 s6))=A0 s0 s1 s2 s3 s4 s5 s6:=by kernel_rfl
theorem bU:H1 (K0 k0 (aA s0 s1 s2 s3 s4 s5 s6))=A1 s0 s1 s2 s3 s4 s5 s6:=by kernel_rfl
def FF:Option (Bool×Unit):=T (G0 k0 (A0 s0 s1 s2 s3 s4 s5 s6) (A1 s0 s1 s2 s3 s4 s5 s6) k0) s0 s1 s2 s3 s4 s5 s6
theorem aQ:bZ Tryz.prog (aP dD) ay k0 41 I8 Iw [] (s0,s1,s2,s3,s4,s5,s6,())=FF k0 s0 s1 s2 s3 s4 s5 s6:=Eq.trans (b:=T (L0 k0 k0 (K0 k0 (aA s0 s1 s2 s3 s4 s5 s6))) s0 s1 s2 s3 s4 s5 s6) (by kernel_rfl) (by rw[FF];(try simp only[aK,aS,bU]);try rfl)
def _root_.Go.Rv.JR:=fun x:U1=>FF (300+x.2.2.2.2.1.length+x.2.2.2.2.2.1.length+x.2.2.2.2.2.2.1.length) x.1 x.2.1 x.2.2.1 x.2.2.2.1 x.2.2.2.2.1 x.2.2.2.2.2.1 x.2.2.2.2.2.2.1
abbrev _root_.Go.Rv.aaO:aG:=⟨I8,Iw,JR,[]⟩
theorem _root_.Go.Rv.aam:aF Dr Tryz.prog 41 aaO:=dh mix (.c Ak (.c aa6 (.c aan .nil))) (by kernel_rfl) fun x=>⟨ay,_,aQ _ _ _ _ _ _ _ _⟩
end kE
def Ii.T(s:List U7):Option ((List U7)×Unit):=if s.length=0 then(@ite _ (some ([],())=if([]:List U7).length+s.length≤maxRow then some ((([]:List U7)++s),())else none) (Classical.propDecidable _) (if([]:List U7).length+s.length≤maxRow then some ((([]:List U7)++s),())else none) none)else if([]:List U7).length+s.length≤maxRow then some ((([]:List U7)++s),())else none
def Ig:=fun x:(List U7)×Unit=>Ii.T x.1
abbrev ZU:aG:=⟨[.v false [CT.sl aC]],[(false,[CT.sl aC])],Ig,[]⟩
theorem ZR:aF Dr Tryz.prog 110 ZU:=aW mix .nil (by kernel_rfl) fun x=>by kernel_rfl
def Ic.T(s:List U7):Option ((List U7)×Unit):=if s.length=0 then(@ite _ (some ([],())=if([]:List U7).length+s.length≤maxRow then some ((([]:List U7)++s),())else none) (Classical.propDecidable _) (if([]:List U7).length+s.length≤maxRow then some ((([]:List U7)++s),())else none) none)else if([]:List U7).length+s.length≤maxRow then some ((([]:List U7)++s),())else none
def Ia:=fun x:(List U7)×Unit=>Ic.T x.1
abbrev ZQ:aG:=⟨[.v false [CT.sl aC]],[(false,[CT.sl aC])],Ia,[]⟩
theorem ZJ:aF Dr Tryz.prog 111 ZQ:=aW mix .nil (by kernel_rfl) fun x=>by kernel_rfl
def La.T(f0:Int)(f1 f2:List U7):Option (U3):=(Ig (f1,())).bind fun y1=>(Ia (f2,())).bind fun y2=>some (f0,y1.1,y2.1,())
def JU:=fun x:U3=>La.T x.1 x.2.1 x.2.2.1
abbrev aaQ:aG:=⟨[.v true eH],[(true,eH)],JU,[]⟩
theorem aap:aF Dr Tryz.prog 86 aaQ:=aW mix (.c ZR (.c ZJ .nil)) (by kernel_rfl) fun x=>by kernel_rfl
def JL.T(s0 s1 s2 s3:Int)(s4 s5:List U7)(s6:List U8):Option (U1):=(JU (s3,s4,s5,())).bind fun y1=>(Cj (s6,())).bind fun y2=>some (s0,s1,s2,y1.1,y1.2.1,y1.2.2.1,y2.1,())
def Jd:=fun x:U1=>JL.T x.1 x.2.1 x.2.2.1 x.2.2.2.1 x.2.2.2.2.1 x.2.2.2.2.2.1 x.2.2.2.2.2.2.1
abbrev aag:aG:=⟨[.v true gV],[(true,gV)],Jd,[]⟩
theorem Z8:aF Dr Tryz.prog 43 aag:=aW mix (.c aap (.c Rf .nil)) (by kernel_rfl) fun x=>by kernel_rfl
def zY.T(e0 e1 e2 e3 e4:Int):Option (Bool×Unit):=cond (e2==0) (cond (e0==1) ((je (e3,())).bind fun y1=>(jU (e4,())).bind fun y2=>(gu (e1,())).bind fun y3=>cond y3.1 (cond y1.1 (some (y2.1,())) (some (false,()))) (cond (e0==8) (cond (e1==0) (cond y1.1 (some (y2.1,())) (some (false,()))) (some (false,()))) (some (false,())))) (cond (e0==6) ((je (e3,())).bind fun y4=>(jU (e4,())).bind fun y5=>(gu (e1,())).bind fun y6=>cond y6.1 (cond y4.1 (some (y5.1,())) (some (false,()))) (cond (e0==8) (cond (e1==0) (cond y4.1 (some (y5.1,())) (some (false,()))) (some (false,()))) (some (false,())))) (cond (e0==3) ((je (e3,())).bind fun y7=>(gu (e1,())).bind fun y8=>cond y8.1 (cond (e2==0) (cond y7.1 (some ((e4==0),())) (some (false,()))) (some (false,()))) (cond (e0==8) (cond (e1==0) (cond (e2==0) (cond y7.1 (some ((e4==0),())) (some (false,()))) (some (false,()))) (some (false,()))) (some (false,())))) (cond (e0==8) ((je (e3,())).bind fun y9=>(gu (e1,())).bind fun y10=>cond y10.1 (cond (e2==0) (cond y9.1 (some ((e4==0),())) (some (false,()))) (some (false,()))) (cond (e0==8) (cond (e1==0) (cond (e2==0) (cond y9.1 (some ((e4==0),())) (some (false,()))) (some (false,()))) (some (false,()))) (some (false,())))) (cond (e0==4) ((jU (e3,())).bind fun y11=>(gu (e1,())).bind fun y12=>cond y12.1 (cond (e2==0) (cond y11.1 (some ((e4==0),())) (some (false,()))) (some (false,()))) (cond (e0==8) (cond (e1==0) (cond (e2==0) (cond y11.1 (some ((e4==0),())) (some (false,()))) (some (false,()))) (some (false,()))) (some (false,())))) (cond (e0==5) ((gu (e1,())).bind fun y13=>cond y13.1 (cond (e3==0) (some ((e4==0),())) (some (false,()))) (cond (e0==8) (cond (e1==0) (cond (e3==0) (some ((e4==0),())) (some (false,()))) (some (false,()))) (some (false,())))) (cond (e0==2) ((gu (e1,())).bind fun y14=>cond y14.1 (cond (e2==0) (cond (e3==0) (some ((e4==0),())) (some (false,()))) (some (false,()))) (cond (e0==8) (cond (e1==0) (cond (e2==0) (cond (e3==0) (some ((e4==0),())) (some (false,()))) (some (false,()))) (some (false,()))) (some (false,())))) (cond (e0==7) ((gu (e1,())).bind fun y15=>cond y15.1 (cond (e2==0) (cond (e3==0) (some ((e4==0),())) (some (false,()))) (some (false,()))) (cond (e0==8) (cond (e1==0) (cond (e2==0) (cond (e3==0) (some ((e4==0),())) (some (false,()))) (some (false,()))) (some (false,()))) (some (false,())))) (some (false,())))))))))) ((gu (e2,())).bind fun y16=>cond (e0==1) ((je (e3,())).bind fun y17=>(jU (e4,())).bind fun y18=>(gu (e1,())).bind fun y19=>cond y19.1 (cond y16.1 (cond y17.1 (some (y18.1,())) (some (false,()))) (some (false,()))) (cond (e0==8) (cond (e1==0) (cond y16.1 (cond y17.1 (some (y18.1,())) (some (false,()))) (some (false,()))) (some (false,()))) (some (false,())))) (cond (e0==6) ((je (e3,())).bind fun y20=>(jU (e4,())).bind fun y21=>(gu (e1,())).bind fun y22=>cond y22.1 (cond y16.1 (cond y20.1 (some (y21.1,())) (some (false,()))) (some (false,()))) (cond (e0==8) (cond (e1==0) (cond y16.1 (cond y20.1 (some (y21.1,())) (some (false,()))) (some (false,()))) (some (false,()))) (some (false,())))) (cond (e0==3) ((je (e3,())).bind fun y23=>(gu (e1,())).bind fun y24=>cond y24.1 (cond (e2==0) (cond y23.1 (some ((e4==0),())) (some (false,()))) (some (false,()))) (cond (e0==8) (cond (e1==0) (cond (e2==0) (cond y23.1 (some ((e4==0),())) (some (false,()))) (some (false,()))) (some (false,()))) (some (false,())))) (cond (e0==8) ((je (e3,())).bind fun y25=>(gu (e1,())).bind fun y26=>cond y26.1 (cond (e2==0) (cond y25.1 (some ((e4==0),())) (some (false,()))) (some (false,()))) (cond (e0==8) (cond (e1==0) (cond (e2==0) (cond y25.1 (some ((e4==0),())) (some (false,()))) (some (false,()))) (some (false,()))) (some (false,())))) (cond (e0==4) ((jU (e3,())).bind fun y27=>(gu (e1,())).bind fun y28=>cond y28.1 (cond (e2==0) (cond y27.1 (some ((e4==0),())) (some (false,()))) (some (false,()))) (cond (e0==8) (cond (e1==0) (cond (e2==0) (cond y27.1 (some ((e4==0),())) (some (false,()))) (some (false,()))) (some (false,()))) (some (false,())))) (cond (e0==5) ((gu (e1,())).bind fun y29=>cond y29.1 (cond y16.1 (cond (e3==0) (some ((e4==0),())) (some (false,()))) (some (false,()))) (cond (e0==8) (cond (e1==0) (cond y16.1 (cond (e3==0) (some ((e4==0),())) (some (false,()))) (some (false,()))) (some (false,()))) (some (false,())))) (cond (e0==2) ((gu (e1,())).bind fun y30=>cond y30.1 (cond (e2==0) (cond (e3==0) (some ((e4==0),())) (some (false,()))) (some (false,()))) (cond (e0==8) (cond (e1==0) (cond (e2==0) (cond (e3==0) (some ((e4==0),())) (some (false,()))) (some (false,()))) (some (false,()))) (some (false,())))) (cond (e0==7) ((gu (e1,())).bind fun y31=>cond y31.1 (cond (e2==0) (cond (e3==0) (some ((e4==0),())) (some (false,()))) (some (false,()))) (cond (e0==8) (cond (e1==0) (cond (e2==0) (cond (e3==0) (some ((e4==0),())) (some (false,()))) (some (false,()))) (some (false,()))) (some (false,())))) (some (false,()))))))))))
def oV:=fun x:U5=>zY.T x.1 x.2.1 x.2.2.1 x.2.2.2.1 x.2.2.2.2.1
abbrev abT:aG:=⟨[.v true dJ],[(false,[CT.bool])],oV,[]⟩
theorem aa7:aF Dr Tryz.prog 109 abT:=aW mix (.c Ei (.c DK (.c KO .nil))) (by kernel_rfl) fun x=>by kernel_rfl
def UQ.T(e0 e1 e2 e3 e4:Int):Option (Bool×Unit):=(oV (e0,e1,e2,e3,e4,())).bind fun y1=>cond y1.1 (cond (e0 != 6) (some (true,())) (some ((decide (e2<e1)),()))) (some (false,()))
def Nl:=fun x:U5=>UQ.T x.1 x.2.1 x.2.2.1 x.2.2.2.1 x.2.2.2.2.1
abbrev adi:aG:=⟨[.v true dJ],[(false,[CT.bool])],Nl,[]⟩
theorem acM:aF Dr Tryz.prog 84 adi:=aW mix (.c aa7 .nil) (by kernel_rfl) fun x=>by kernel_rfl
def Uy.T(o0 o1 o2 o3 o4:Int):Option (Bool×Unit):=cond (o0==1) ((gu (o1,())).bind fun y1=>cond y1.1 (cond (o2==0) ((je (o3,())).bind fun y2=>cond y2.1 ((jU (o4,())).bind fun y3=>some (y3.1,())) (some (false,()))) ((gu (o2,())).bind fun y4=>cond y4.1 ((je (o3,())).bind fun y5=>cond y5.1 ((jU (o4,())).bind fun y6=>some (y6.1,())) (some (false,()))) (some (false,())))) (some (false,()))) (cond (o0==2) ((gu (o1,())).bind fun y7=>cond y7.1 (some (((o0==2)&&((o1==o1)&&((o2==0)&&((o3==0)&&((o4==0)&&true))))),())) (some (false,()))) (cond (o0==4) (some (((o0==o0)&&((o1==0)&&((o2==0)&&((o3==0)&&((o4==0)&&true))))),())) (cond (o0==5) (some (((o0==o0)&&((o1==0)&&((o2==0)&&((o3==0)&&((o4==0)&&true))))),())) ((mY (o0,o1,o2,o3,o4,())).bind fun y8=>(Nl (y8.1,y8.2.1,y8.2.2.1,y8.2.2.2.1,y8.2.2.2.2.1,())).bind fun y9=>some (y9.1,())))))
def Ac:=fun x:U5=>Uy.T x.1 x.2.1 x.2.2.1 x.2.2.2.1 x.2.2.2.2.1
abbrev TK:aG:=⟨[.v true dJ],[(false,[CT.bool])],Ac,[]⟩
theorem acg:aF Dr Tryz.prog 42 TK:=aW mix (.c Ei (.c DK (.c KO (.c acM (.c SH .nil))))) (by kernel_rfl) fun x=>by kernel_rfl
abbrev I7:Is:=[.m gV,.v false [CT.sl dJ]]
abbrev Iu:Os:=[(false,[CT.sl ct0])]
namespace lS
def dD:Tb:=[(42,[],TK),(44,[],⟨Rw,Rn,oU,[]⟩)]
def ay:Nat→List Nat×List Nat:=fun k=>if k=3 then([0,5,9,10,11],[5])else([],[])
def zrc{R:Type}(k0:Nat)(p:List Nat):Env→List Ob→ai R→Option R:=bD Tryz.prog (aP dD) 29 4 ay k0 (bQ p (cZ Tryz.prog 50))
def R0{R:Type}(nx1:Gi R)(nx0:Gg R)(ex0:Gf R)(t9x:List U5)(t10x t11x s s7 s8 s9:Int)(o1 o2:List U7)(o3 out:List U8):Option R:=cond (decide (t11x<t10x)) (if 0≤t11x∧t11x<(t9x.length:Int)then(Ac ((rd (0,0,0,0,0,()) t9x t11x).1,(rd (0,0,0,0,0,()) t9x t11x).2.1,(rd (0,0,0,0,0,()) t9x t11x).2.2.1,(rd (0,0,0,0,0,()) t9x t11x).2.2.2.1,(rd (0,0,0,0,0,()) t9x t11x).2.2.2.2.1,())).bind fun y1=>cond y1.1 ((oU (s,s7,s8,s9,o1,o2,o3,(rd (0,0,0,0,0,()) t9x t11x).1,(rd (0,0,0,0,0,()) t9x t11x).2.1,(rd (0,0,0,0,0,()) t9x t11x).2.2.1,(rd (0,0,0,0,0,()) t9x t11x).2.2.2.1,(rd (0,0,0,0,0,()) t9x t11x).2.2.2.2.1,())).bind fun y2=>if out.length+[(y2.1,y2.2.1,y2.2.2.1,())].length≤maxRow then nx1 t9x t10x (af (t11x+1)) y2.2.2.2.1 y2.2.2.2.2.1 y2.2.2.2.2.2.1 y2.2.2.2.2.2.2.1 (out++[(y2.1,y2.2.1,y2.2.2.1,())]) y2.2.2.2.2.2.2.2.1 y2.2.2.2.2.2.2.2.2.1 y2.2.2.2.2.2.2.2.2.2.1 else none) (if out.length+[(0,0,1,())].length≤maxRow then nx0 t9x t10x (af (t11x+1)) s s7 s8 s9 o1 o2 o3 (out++[(0,0,1,())])else none)else none) (ex0 s s7 s8 s9 o1 o2 o3 out)
def R1{R:Type}(nx1:Gi R)(ex1:F6 R)(t9x:List U5)(t10x t11x s s7 s8 s9:Int)(out:List U8)(o5 o6:List U7)(o7:List U8):Option R:=cond (decide (t11x<t10x)) (if 0≤t11x∧t11x<(t9x.length:Int)then(Ac ((rd (0,0,0,0,0,()) t9x t11x).1,(rd (0,0,0,0,0,()) t9x t11x).2.1,(rd (0,0,0,0,0,()) t9x t11x).2.2.1,(rd (0,0,0,0,0,()) t9x t11x).2.2.2.1,(rd (0,0,0,0,0,()) t9x t11x).2.2.2.2.1,())).bind fun y1=>cond y1.1 ((oU (s,s7,s8,s9,o5,o6,o7,(rd (0,0,0,0,0,()) t9x t11x).1,(rd (0,0,0,0,0,()) t9x t11x).2.1,(rd (0,0,0,0,0,()) t9x t11x).2.2.1,(rd (0,0,0,0,0,()) t9x t11x).2.2.2.1,(rd (0,0,0,0,0,()) t9x t11x).2.2.2.2.1,())).bind fun y2=>if out.length+[(y2.1,y2.2.1,y2.2.2.1,())].length≤maxRow then nx1 t9x t10x (af (t11x+1)) y2.2.2.2.1 y2.2.2.2.2.1 y2.2.2.2.2.2.1 y2.2.2.2.2.2.2.1 (out++[(y2.1,y2.2.1,y2.2.2.1,())]) y2.2.2.2.2.2.2.2.1 y2.2.2.2.2.2.2.2.2.1 y2.2.2.2.2.2.2.2.2.2.1 else none) (if out.length+[(0,0,1,())].length≤maxRow then nx1 t9x t10x (af (t11x+1)) s s7 s8 s9 (out++[(0,0,1,())]) o5 o6 o7 else none)else none) (ex1 s s7 s8 s9 out o5 o6 o7)
def A0(s0 s1 s2 s3:Int)(s4 s5:List U7)(s6:List U8)(list:List U5)(o0 o02 o03 o04:Int)(o1 o2:List U7)(o3 out:List U8):Option ((List U8)×U1):=some (out,o0,o02,o03,o04,o1,o2,o3,())
def A1(s0 s1 s2 s3:Int)(s4 s5:List U7)(s6:List U8)(list:List U5)(o0 o02 o03 o04:Int)(out:List U8)(o5 o6:List U7)(o7:List U8):Option ((List U8)×U1):=some (out,o0,o02,o03,o04,o5,o6,o7,())
def T(lo0:Gg ((List U8)×U1))(s0 s1 s2 s3:Int)(s4 s5:List U7)(s6:List U8)(list:List U5):Option ((List U8)×U1):=lo0 list (list.length:Int) 0 s0 s1 s2 s3 s4 s5 s6 ([]:List U8)
def K0{R:Type}(k0:Nat)(K:ai R):ai R:=aY 0 (bg (fun env ob=>zrc k0 [1,1,1] env ob (K)) (K))
def L0:Gg R:=fun t9x t10x t11x s s7 s8 s9 o1 o2 o3 out=>iter 4 [0,5,9,10,11] [5] (zrc k0 [1,1,0,1,0,0]) k [(0,.ptr 0 0 0 0),(5,.own 4),(9,.sl dJ t9x),(10,.int .i64 t10x),(11,.int .i64 t11x)] [.box [.int .i64 s,.int .i64 s7,.int .i64 s8,.int .i64 s9,.own 1,.own 2,.own 3],.arr aC o1,.arr aC o2,.arr ct0 o3,.arr ct0 out] K
def L1:Gi R:=fun t9x t10x t11x s s7 s8 s9 out o5 o6 o7=>iter 4 [0,5,9,10,11] [5] (zrc k0 [1,1,0,1,0,0]) k [(0,.ptr 0 0 0 0),(5,.own 4),(9,.sl dJ t9x),(10,.int .i64 t10x),(11,.int .i64 t11x)] [.box [.int .i64 s,.int .i64 s7,.int .i64 s8,.int .i64 s9,.own 5,.own 6,.own 7],.dead,.dead,.dead,.arr ct0 out,.arr aC o5,.arr aC o6,.arr ct0 o7] K
def H0:Gf R:=fun o0 o02 o03 o04 o1 o2 o3 out=>K (.exit 0) [(5,.own 4)] [.box [.int .i64 o0,.int .i64 o02,.int .i64 o03,.int .i64 o04,.own 1,.own 2,.own 3],.arr aC o1,.arr aC o2,.arr ct0 o3,.arr ct0 out]
def H1:F6 R:=fun o0 o02 o03 o04 out o5 o6 o7=>K (.exit 0) [(5,.own 4)] [.box [.int .i64 o0,.int .i64 o02,.int .i64 o03,.int .i64 o04,.own 5,.own 6,.own 7],.dead,.dead,.dead,.arr ct0 out,.arr aC o5,.arr aC o6,.arr ct0 o7]
theorem zs0:L0 k0 (k+1) K=R0 (L1 k0 k K) (L0 k0 k K) (H0 K):=by kernel_rfl
theorem zs1:L1 k0 (k+1) K=R1 (L1 k0 k K) (H1 K):=by kernel_rfl
def G1{R:Type}(k0:Nat)(hx0:Gf R)(hx1:F6 R):Nat→Gi R
 |0=>fun _ _ _ _ _ _ _ _ _ _ _=>none
 |k+1=>R1 (G1 k0 hx0 hx1 k) hx1
theorem dO:∀ k,L1 k0 k K=G1 k0 (H0 K) (H1 K) k:=bG rfl fun k ih=>by rw[zs1,G1];(try simp only[ih]);try rfl
def G0{R:Type}(k0:Nat)(hx0:Gf R)(hx1:F6 R):Nat→Gg R
 |0=>fun _ _ _ _ _ _ _ _ _ _ _=>none
 |k+1=>R0 (G1 k0 hx0 hx1 k) (G0 k0 hx0 hx1 k) hx0
theorem aK:∀ k,L0 k0 k K=G0 k0 (H0 K) (H1 K) k:=bG rfl fun k ih=>by rw[zs0,G0];(try simp only[ih,dO]);try rfl
variable (s0 s1 s2 s3:Int) (s4 s5:List U7) (s6:List U8) (list:List U5)
def aA:ai ((List U8)×U1):=bW Tryz.prog [.tmp 4] I7 Iu (s0,s1,s2,s3,s4,s5,s6,list,())
theorem aS:H0 (K0 k0 (aA s0 s1 s2 s3 s4 s5 s6 list))=A0 s0 s1 s2 s3 s4 s5 s6 list:=by kernel_rfl
theorem bU:H1 (K0 k0 (aA s0 s1 s2 s3 s4 s5 s6 list))=A1 s0 s1 s2 s3 s4 s5 s6 list:=by kernel_rfl
def FF:Option ((List U8)×U1):=T (G0 k0 (A0 s0 s1 s2 s3 s4 s5 s6 list) (A1 s0 s1 s2 s3 s4 s5 s6 list) k0) s0 s1 s2 s3 s4 s5 s6 list
theorem aQ:bZ Tryz.prog (aP dD) ay k0 50 I7 Iu [] (s0,s1,s2,s3,s4,s5,s6,list,())=FF k0 s0 s1 s2 s3 s4 s5 s6 list:=Eq.trans (b:=T (L0 k0 k0 (K0 k0 (aA s0 s1 s2 s3 s4 s5 s6 list))) s0 s1 s2 s3 s4 s5 s6 list) (by kernel_rfl) (by rw[FF];(try simp only[dO,aK,aS,bU]);try rfl)
def _root_.Go.Rv.CX:=fun x:Int×Int×Int×Int×(List U7)×(List U7)×(List U8)×(List U5)×Unit=>FF (300+x.2.2.2.2.1.length+x.2.2.2.2.2.1.length+x.2.2.2.2.2.2.1.length+x.2.2.2.2.2.2.2.1.length) x.1 x.2.1 x.2.2.1 x.2.2.2.1 x.2.2.2.2.1 x.2.2.2.2.2.1 x.2.2.2.2.2.2.1 x.2.2.2.2.2.2.2.1
abbrev _root_.Go.Rv.aaN:aG:=⟨I7,Iu,CX,[]⟩
theorem _root_.Go.Rv.aal:aF KN Tryz.prog 50 aaN:=dh mix (.c acg (.c RJ .nil)) (by kernel_rfl) fun x=>⟨ay,_,aQ _ _ _ _ _ _ _ _ _⟩
end lS
def MI.T(s0 s1 s2 s3:Int)(s4 s5:List U7)(s6:List U8)(list:List U5):Option (U1):=cond (decide ((list.length:Int)>400)) (some (0,0,0,0,[],[],[],())) ((Jd (s0,s1,s2,s3,s4,s5,s6,())).bind fun y1=>(JR (s0,s1,s2,s3,s4,s5,s6,())).bind fun y2=>cond y2.1 (cond (decide ((list.length:Int)≤300)) ((CX (y1.1,y1.2.1,y1.2.2.1,y1.2.2.2.1,y1.2.2.2.2.1,y1.2.2.2.2.2.1,y1.2.2.2.2.2.2.1,list,())).bind fun y3=>some (y3.2.1,y3.2.2.1,y3.2.2.2.1,y3.2.2.2.2.1,y3.2.2.2.2.2.1,y3.2.2.2.2.2.2.1,y3.2.2.2.2.2.2.2.1,())) (some (y1.1,y1.2.1,y1.2.2.1,y1.2.2.2.1,y1.2.2.2.2.1,y1.2.2.2.2.2.1,y1.2.2.2.2.2.2.1,()))) (some (y1.1,y1.2.1,y1.2.2.1,y1.2.2.2.1,y1.2.2.2.2.1,y1.2.2.2.2.2.1,y1.2.2.2.2.2.2.1,())))
def zK:=fun x:Int×Int×Int×Int×(List U7)×(List U7)×(List U8)×(List U5)×Unit=>MI.T x.1 x.2.1 x.2.2.1 x.2.2.2.1 x.2.2.2.2.1 x.2.2.2.2.2.1 x.2.2.2.2.2.2.1 x.2.2.2.2.2.2.2.1
abbrev abS:aG:=⟨[.v true gV,.v false [CT.sl dJ]],[(true,gV)],zK,[]⟩
theorem aa0:aF KN Tryz.prog 26 abS:=aW mix (.c aam (.c Z8 (.c aal .nil))) (by kernel_rfl) fun x=>by kernel_rfl
abbrev Js:Is:=[.v false [CT.sl aC],.v false [CT.int .i64]]
abbrev IU:Os:=[(false,[CT.int .i64])]
namespace lg
def ay:Nat→List Nat×List Nat:=fun k=>if k=2 then([0,1,5],[1,4])else([],[])
def zrc{R:Type}(k0:Nat)(p:List Nat):Env→List Ob→ai R→Option R:=bD Tryz.prog (aP []) 49 0 ay k0 (bQ p (cZ Tryz.prog 99))
def R0{R:Type}(nx0:tC R)(ex0:Y1 R)(ex1:Y2 R)(a2:List U7)(kx i:Int):Option R:=cond (decide (i<(a2.length:Int))) (if 0≤i∧i<(a2.length:Int)then cond ((rd (0,0,0,0,()) a2 i).1 != kx) (ex0 kx (-1)) (if 0≤i∧i<(a2.length:Int)then cond ((rd (0,0,0,0,()) a2 i).2.1 != (af (kx+1))) (ex0 (af (kx+1)) (-1)) (if 0≤i∧i<(a2.length:Int)then cond ((rd (0,0,0,0,()) a2 i).2.2.1 != (af ((af (kx+1))+1))) (ex0 (af ((af (kx+1))+1)) (-1)) (if 0≤i∧i<(a2.length:Int)then cond ((rd (0,0,0,0,()) a2 i).2.2.2.1 != (af ((af ((af (kx+1))+1))+1))) (ex0 (af ((af ((af (kx+1))+1))+1)) (-1)) (nx0 a2 (af ((af ((af ((af (kx+1))+1))+1))+1)) (af (i+1)))else none)else none)else none)else none) (ex1 kx)
def A0(a:List U7)(ak:Int)(kx t4x:Int):Option (Int×Unit):=some (t4x,())
def A1(a:List U7)(ak:Int)(kx:Int):Option (Int×Unit):=some (kx,())
def T(lo0:tC (Int×Unit))(a:List U7)(ak:Int):Option (Int×Unit):=lo0 a ak 0
def K0{R:Type}(k0:Nat)(K:ai R):ai R:=aY 0 (bg (fun env ob=>zrc k0 [1,1] env ob (K)) (K))
def L0:tC R:=fun a2 kx i=>iter 0 [0,1,5] [1,4] (zrc k0 [1,0,1,0,0]) k [(0,.sl aC a2),(1,.int .i64 kx),(5,.int .i64 i)] [] K
def H0:Y1 R:=fun kx t4x=>K .ret [(1,.int .i64 kx),(4,.int .i64 t4x)] []
def H1:Y2 R:=fun kx=>K (.exit 0) [(1,.int .i64 kx),(4,.undef)] []
theorem zs0:L0 k0 (k+1) K=R0 (L0 k0 k K) (H0 K) (H1 K):=by kernel_rfl
def G0{R:Type}(k0:Nat)(hx0:Y1 R)(hx1:Y2 R):Nat→tC R
 |0=>fun _ _ _=>none
 |k+1=>R0 (G0 k0 hx0 hx1 k) hx0 hx1
theorem aK:∀ k,L0 k0 k K=G0 k0 (H0 K) (H1 K) k:=bG rfl fun k ih=>by rw[zs0,G0];(try simp only[ih]);try rfl
variable (a:List U7) (ak:Int)
def aA:ai (Int×Unit):=bW Tryz.prog [.tmp 4] Js IU (a,ak,())
theorem aS:H0 (K0 k0 (aA a ak))=A0 a ak:=by kernel_rfl
theorem bU:H1 (K0 k0 (aA a ak))=A1 a ak:=by kernel_rfl
def FF:Option (Int×Unit):=T (G0 k0 (A0 a ak) (A1 a ak) k0) a ak
theorem aQ:bZ Tryz.prog (aP []) ay k0 99 Js IU [] (a,ak,())=FF k0 a ak:=Eq.trans (b:=T (L0 k0 k0 (K0 k0 (aA a ak))) a ak) (by kernel_rfl) (by rw[FF];(try simp only[aK,aS,bU]);try rfl)
def _root_.Go.Rv.KE:=fun x:(List U7)×Int×Unit=>FF (300+x.1.length) x.1 x.2.1
abbrev _root_.Go.Rv.abj:aG:=⟨Js,IU,KE,[]⟩
theorem _root_.Go.Rv.aaF:aF Dr Tryz.prog 99 abj:=dh mix .nil (by kernel_rfl) fun x=>⟨ay,_,aQ _ _ _⟩
end lg
abbrev IZ:Is:=[.v false [CT.sl aC],.v false [CT.int .i64]]
abbrev Ir:Os:=[(false,[CT.int .i64])]
namespace kY
def ay:Nat→List Nat×List Nat:=fun k=>if k=2 then([0,1,5],[1,4])else([],[])
def zrc{R:Type}(k0:Nat)(p:List Nat):Env→List Ob→ai R→Option R:=bD Tryz.prog (aP []) 49 0 ay k0 (bQ p (cZ Tryz.prog 100))
def R0{R:Type}(nx0:tC R)(ex0:Y1 R)(ex1:Y2 R)(a2:List U7)(kx i:Int):Option R:=cond (decide (i<(a2.length:Int))) (if 0≤i∧i<(a2.length:Int)then cond ((rd (0,0,0,0,()) a2 i).1 != kx) (ex0 kx (-1)) (if 0≤i∧i<(a2.length:Int)then cond ((rd (0,0,0,0,()) a2 i).2.1 != (af (kx+1))) (ex0 (af (kx+1)) (-1)) (if 0≤i∧i<(a2.length:Int)then cond ((rd (0,0,0,0,()) a2 i).2.2.1 != (af ((af (kx+1))+1))) (ex0 (af ((af (kx+1))+1)) (-1)) (if 0≤i∧i<(a2.length:Int)then cond ((rd (0,0,0,0,()) a2 i).2.2.2.1 != (af ((af ((af (kx+1))+1))+1))) (ex0 (af ((af ((af (kx+1))+1))+1)) (-1)) (nx0 a2 (af ((af ((af ((af (kx+1))+1))+1))+1)) (af (i+1)))else none)else none)else none)else none) (ex1 kx)
def A0(a:List U7)(ak:Int)(kx t4x:Int):Option (Int×Unit):=some (t4x,())
def A1(a:List U7)(ak:Int)(kx:Int):Option (Int×Unit):=some (kx,())
def T(lo0:tC (Int×Unit))(a:List U7)(ak:Int):Option (Int×Unit):=lo0 a ak 0
def K0{R:Type}(k0:Nat)(K:ai R):ai R:=aY 0 (bg (fun env ob=>zrc k0 [1,1] env ob (K)) (K))
def L0:tC R:=fun a2 kx i=>iter 0 [0,1,5] [1,4] (zrc k0 [1,0,1,0,0]) k [(0,.sl aC a2),(1,.int .i64 kx),(5,.int .i64 i)] [] K
def H0:Y1 R:=fun kx t4x=>K .ret [(1,.int .i64 kx),(4,.int .i64 t4x)] []
def H1:Y2 R:=fun kx=>K (.exit 0) [(1,.int .i64 kx),(4,.undef)] []
theorem zs0:L0 k0 (k+1) K=R0 (L0 k0 k K) (H0 K) (H1 K):=by kernel_rfl
def G0{R:Type}(k0:Nat)(hx0:Y1 R)(hx1:Y2 R):Nat→tC R
 |0=>fun _ _ _=>none
 |k+1=>R0 (G0 k0 hx0 hx1 k) hx0 hx1
theorem aK:∀ k,L0 k0 k K=G0 k0 (H0 K) (H1 K) k:=bG rfl fun k ih=>by rw[zs0,G0];(try simp only[ih]);try rfl
variable (a:List U7) (ak:Int)
def aA:ai (Int×Unit):=bW Tryz.prog [.tmp 4] IZ Ir (a,ak,())
theorem aS:H0 (K0 k0 (aA a ak))=A0 a ak:=by kernel_rfl
theorem bU:H1 (K0 k0 (aA a ak))=A1 a ak:=by kernel_rfl
def FF:Option (Int×Unit):=T (G0 k0 (A0 a ak) (A1 a ak) k0) a ak
theorem aQ:bZ Tryz.prog (aP []) ay k0 100 IZ Ir [] (a,ak,())=FF k0 a ak:=Eq.trans (b:=T (L0 k0 k0 (K0 k0 (aA a ak))) a ak) (by kernel_rfl) (by rw[FF];(try simp only[aK,aS,bU]);try rfl)
def _root_.Go.Rv.JQ:=fun x:(List U7)×Int×Unit=>FF (300+x.1.length) x.1 x.2.1
abbrev _root_.Go.Rv.aaM:aG:=⟨IZ,Ir,JQ,[]⟩
theorem _root_.Go.Rv.aak:aF Dr Tryz.prog 100 aaM:=dh mix .nil (by kernel_rfl) fun x=>⟨ay,_,aQ _ _ _⟩
end kY
def TW.T(a0:Int)(a1 a2:List U7)(ak:Int):Option (Int×Unit):=(KE (a1,ak,())).bind fun y1=>cond (decide (y1.1<0)) (some ((-1),())) ((JQ (a2,y1.1,())).bind fun y2=>cond (decide (y2.1<0)) (some ((-1),())) (some (y2.1,())))
def DI:=fun x:Int×(List U7)×(List U7)×Int×Unit=>TW.T x.1 x.2.1 x.2.2.1 x.2.2.2.1
abbrev acu:aG:=⟨[.v true eH,.v false [CT.int .i64]],[(false,[CT.int .i64])],DI,[]⟩
theorem abE:aF Dr Tryz.prog 53 acu:=aW mix (.c aaF (.c aak .nil)) (by kernel_rfl) fun x=>by kernel_rfl
abbrev Jr:Is:=[.v false [CT.sl ct0],.v false [CT.int .i64]]
abbrev IQ:Os:=[(false,[CT.int .i64])]
namespace kZ
def ay:Nat→List Nat×List Nat:=fun k=>if k=2 then([0,1,5],[1,4])else([],[])
def zrc{R:Type}(k0:Nat)(p:List Nat):Env→List Ob→ai R→Option R:=bD Tryz.prog (aP []) 40 0 ay k0 (bQ p (cZ Tryz.prog 54))
def R0{R:Type}(nx0:F5 R)(ex0:Y1 R)(ex1:Y2 R)(a2:List U8)(kx i:Int):Option R:=cond (decide (i<(a2.length:Int))) (if 0≤i∧i<(a2.length:Int)then cond ((rd (0,0,0,()) a2 i).1 != kx) (ex0 kx (-1)) (if 0≤i∧i<(a2.length:Int)then cond ((rd (0,0,0,()) a2 i).2.1 != (af (kx+1))) (ex0 (af (kx+1)) (-1)) (if 0≤i∧i<(a2.length:Int)then cond ((rd (0,0,0,()) a2 i).2.2.1 != (af ((af (kx+1))+1))) (ex0 (af ((af (kx+1))+1)) (-1)) (nx0 a2 (af ((af ((af (kx+1))+1))+1)) (af (i+1)))else none)else none)else none) (ex1 kx)
def A0(a:List U8)(ak:Int)(kx t4x:Int):Option (Int×Unit):=some (t4x,())
def A1(a:List U8)(ak:Int)(kx:Int):Option (Int×Unit):=some (kx,())
def T(lo0:F5 (Int×Unit))(a:List U8)(ak:Int):Option (Int×Unit):=lo0 a ak 0
def K0{R:Type}(k0:Nat)(K:ai R):ai R:=aY 0 (bg (fun env ob=>zrc k0 [1,1] env ob (K)) (K))
def L0:F5 R:=fun a2 kx i=>iter 0 [0,1,5] [1,4] (zrc k0 [1,0,1,0,0]) k [(0,.sl ct0 a2),(1,.int .i64 kx),(5,.int .i64 i)] [] K
def H0:Y1 R:=fun kx t4x=>K .ret [(1,.int .i64 kx),(4,.int .i64 t4x)] []
def H1:Y2 R:=fun kx=>K (.exit 0) [(1,.int .i64 kx),(4,.undef)] []
theorem zs0:L0 k0 (k+1) K=R0 (L0 k0 k K) (H0 K) (H1 K):=by kernel_rfl
def G0{R:Type}(k0:Nat)(hx0:Y1 R)(hx1:Y2 R):Nat→F5 R
 |0=>fun _ _ _=>none
 |k+1=>R0 (G0 k0 hx0 hx1 k) hx0 hx1
theorem aK:∀ k,L0 k0 k K=G0 k0 (H0 K) (H1 K) k:=bG rfl fun k ih=>by rw[zs0,G0];(try simp only[ih]);try rfl
variable (a:List U8) (ak:Int)
def aA:ai (Int×Unit):=bW Tryz.prog [.tmp 4] Jr IQ (a,ak,())
theorem aS:H0 (K0 k0 (aA a ak))=A0 a ak:=by kernel_rfl
theorem bU:H1 (K0 k0 (aA a ak))=A1 a ak:=by kernel_rfl
def FF:Option (Int×Unit):=T (G0 k0 (A0 a ak) (A1 a ak) k0) a ak
theorem aQ:bZ Tryz.prog (aP []) ay k0 54 Jr IQ [] (a,ak,())=FF k0 a ak:=Eq.trans (b:=T (L0 k0 k0 (K0 k0 (aA a ak))) a ak) (by kernel_rfl) (by rw[FF];(try simp only[aK,aS,bU]);try rfl)
def _root_.Go.Rv.KD:=fun x:(List U8)×Int×Unit=>FF (300+x.1.length) x.1 x.2.1
abbrev _root_.Go.Rv.abh:aG:=⟨Jr,IQ,KD,[]⟩
theorem _root_.Go.Rv.aaE:aF Dr Tryz.prog 54 abh:=dh mix .nil (by kernel_rfl) fun x=>⟨ay,_,aQ _ _ _⟩
end kZ
def SL.T(a0 a1 a2 a3:Int)(a4 a5:List U7)(a6:List U8)(ak:Int):Option (Int×Unit):=(DI (a3,a4,a5,ak,())).bind fun y1=>cond (decide (y1.1<0)) (some ((-1),())) ((KD (a6,y1.1,())).bind fun y2=>cond (decide (y2.1<0)) (some ((-1),())) (some (y2.1,())))
def zG:=fun x:Int×Int×Int×Int×(List U7)×(List U7)×(List U8)×Int×Unit=>SL.T x.1 x.2.1 x.2.2.1 x.2.2.2.1 x.2.2.2.2.1 x.2.2.2.2.2.1 x.2.2.2.2.2.2.1 x.2.2.2.2.2.2.2.1
abbrev abg:aG:=⟨[.v true gV,.v false [CT.int .i64]],[(false,[CT.int .i64])],zG,[]⟩
theorem aaD:aF Dr Tryz.prog 27 abg:=aW mix (.c abE (.c aaE .nil)) (by kernel_rfl) fun x=>by kernel_rfl
abbrev Ik:Is:=[.v true gV,.v false [CT.sl dJ]]
abbrev ZY:Os:=[(false,[CT.bool])]
def Rj.T(aS0 aS1 aS2 aS3:Int)(aS4 aS5:List U7)(aS6:List U8)(aList:List U5):Option (Bool×Unit):=(Dy (aS0,aS1,aS2,aS3,aS4,aS5,aS6,1048576,())).bind fun y1=>cond (decide (y1.1<0)) (some (true,())) ((Em (aList,y1.1,())).bind fun y2=>cond (decide (y2.1<0)) (some (true,())) ((uK (aS0,aS1,aS2,aS3,aS4,aS5,aS6,())).bind fun y3=>(xg (aList,())).bind fun y4=>(Dn (y3.1,y3.2.1,y3.2.2.1,y3.2.2.2.1,y3.2.2.2.2.1,y3.2.2.2.2.2.1,y3.2.2.2.2.2.2.1,y4.1,())).bind fun y5=>(uK (aS0,aS1,aS2,aS3,aS4,aS5,aS6,())).bind fun y6=>(xg (aList,())).bind fun y7=>(zK (y6.1,y6.2.1,y6.2.2.1,y6.2.2.2.1,y6.2.2.2.2.1,y6.2.2.2.2.2.1,y6.2.2.2.2.2.2.1,y7.1,())).bind fun y8=>(uM (y8.1,y8.2.1,y8.2.2.1,y8.2.2.2.1,y8.2.2.2.2.1,y8.2.2.2.2.2.1,y8.2.2.2.2.2.2.1,y5.1,y5.2.1,y5.2.2.1,y5.2.2.2.1,y5.2.2.2.2.1,y5.2.2.2.2.2.1,y5.2.2.2.2.2.2.1,())).bind fun y9=>cond (!y9.1) (some (false,())) ((uK (aS0,aS1,aS2,aS3,aS4,aS5,aS6,())).bind fun y10=>(uM (y6.1,y6.2.1,y6.2.2.1,y6.2.2.2.1,y6.2.2.2.2.1,y6.2.2.2.2.2.1,y6.2.2.2.2.2.2.1,y10.1,y10.2.1,y10.2.2.1,y10.2.2.2.1,y10.2.2.2.2.1,y10.2.2.2.2.2.1,y10.2.2.2.2.2.2.1,())).bind fun y11=>cond (!y11.1) (some (false,())) ((xg (aList,())).bind fun y12=>(Ns (y7.1,y12.1,())).bind fun y13=>cond (!y13.1) (some (false,())) ((zF (y6.1,y6.2.1,y6.2.2.1,y6.2.2.2.1,y6.2.2.2.2.1,y6.2.2.2.2.2.1,y6.2.2.2.2.2.2.1,1,())).bind fun y14=>(MV (y7.1,y14.1,())).bind fun y15=>cond (decide (y15.1<0)) (some (false,())) ((uM (y8.1,y8.2.1,y8.2.2.1,y8.2.2.2.1,y8.2.2.2.2.1,y8.2.2.2.2.2.1,y8.2.2.2.2.2.2.1,y5.1,y5.2.1,y5.2.2.1,y5.2.2.2.1,y5.2.2.2.2.1,y5.2.2.2.2.2.1,y5.2.2.2.2.2.2.1,())).bind fun y16=>cond (!y16.1) (some (false,())) ((zF (y8.1,y8.2.1,y8.2.2.1,y8.2.2.2.1,y8.2.2.2.2.1,y8.2.2.2.2.2.1,y8.2.2.2.2.2.2.1,1,())).bind fun y17=>(zG (y8.1,y8.2.1,y8.2.2.1,y8.2.2.2.1,y17.2.2.2.2.2.1,y17.2.2.2.2.2.2.1,y17.2.2.2.2.2.2.2.1,1,())).bind fun y18=>cond (decide (y18.1<0)) (some (false,())) (cond (y18.1 != y17.1) (some (false,())) ((uK (aS0,aS1,aS2,aS3,aS4,aS5,aS6,())).bind fun y19=>(xg (aList,())).bind fun y20=>(zK (y19.1,y19.2.1,y19.2.2.1,y19.2.2.2.1,y19.2.2.2.2.1,y19.2.2.2.2.2.1,y19.2.2.2.2.2.2.1,y20.1,())).bind fun y21=>(uM (y21.1,y21.2.1,y21.2.2.1,y21.2.2.2.1,y21.2.2.2.2.1,y21.2.2.2.2.2.1,y21.2.2.2.2.2.2.1,y5.1,y5.2.1,y5.2.2.1,y5.2.2.2.1,y5.2.2.2.2.1,y5.2.2.2.2.2.1,y5.2.2.2.2.2.2.1,())).bind fun y22=>cond (!y22.1) (some (false,())) ((zG (y8.1,y8.2.1,y8.2.2.1,y8.2.2.2.1,y17.2.2.2.2.2.1,y17.2.2.2.2.2.2.1,y17.2.2.2.2.2.2.2.1,1,())).bind fun y23=>cond (decide (y23.1<0)) (some (false,())) (cond (y23.1 != y17.1) (some (false,())) (some (true,())))))))))))))
def CG:=fun x:Int×Int×Int×Int×(List U7)×(List U7)×(List U8)×(List U5)×Unit=>Rj.T x.1 x.2.1 x.2.2.1 x.2.2.2.1 x.2.2.2.2.1 x.2.2.2.2.2.1 x.2.2.2.2.2.2.1 x.2.2.2.2.2.2.2.1
abbrev Ri:aG:=⟨Ik,ZY,CG,[]⟩
theorem Z4:aF KN Tryz.prog 5 Ri:=aW mix (.c abA (.c abw (.c abG (.c aaA (.c ac4 (.c ac3 (.c ac5 (.c ab6 (.c aaT (.c aa0 (.c aaD .nil))))))))))) (by kernel_rfl) fun x=>by kernel_rfl
end Go.Rv
end
