/- What functions come to on pure values (printed by a program of ours). -/
import Derived.Test.YtmgahpicfjpjaaaGreatRM18
set_option linter.unusedVariables false
set_option linter.unusedSimpArgs false
set_option linter.unusedSectionVars false
set_option maxRecDepth 100000
noncomputable section
namespace Go.Rv
open Go.Proofs
variable {Dr:Kn} {R:Type} (k0 k:Nat) (K:ai R)
abbrev LD:Is:=[.v true eU]
abbrev KF:Os:=[(false,[CT.sl [CT.int .i64]]),(false,[CT.sl [CT.int .i64]])]
namespace gI
def ay:Nat→List Nat×List Nat:=fun k=>if k=4 then([1,4,5,6],[4,5])else if k=14 then([1,4,5,6,9,11,12],[1,4,5,6])else([],[])
def zrc{R:Type}(k0:Nat)(p:List Nat):Env→List Ob→ai R→Option R:=bD Tryz.prog (aP [(130,[],MH),(131,[],MI)]) 87 0 ay k0 (bQ p (cZ Tryz.prog 102))
def R0{R:Type}(ex0:QI R)(lo1:Gy R)(g f:Int)(f3 f4:List U7)(groups members:List (Int×Unit)):Option R:=cond (decide (g<(f3.length:Int))) (cond (decide (g≥0)) (if 0≤g∧g<(f3.length:Int)then if 0≤g∧g<(groups.length:Int)then(zW (f,f3,f4,(rd (0,0,0,0,()) f3 g).1,())).bind fun y1=>(wV ((groups.getD g.toNat (0,())).1,y1.2.1,())).bind fun y2=>lo1 g 0 f f3 f4 groups members y1.1 y2.1 else none else none) ((zW (f,f3,f4,0,())).bind fun y3=>(wV (f,y3.2.1,())).bind fun y4=>lo1 g 0 f f3 f4 groups members y3.1 y4.1)) (ex0 groups members)
def R1{R:Type}(nx1:Gy R)(ex1:vY R)(g i f:Int)(f3 f4:List U7)(groups members:List (Int×Unit))(kids:List U9)(parts:List (Int×Unit)):Option R:=cond (decide (i<(kids.length:Int))) (if 0≤i∧i<(kids.length:Int)then cond (decide ((kids.getD i.toNat (0,0,())).1≥0)) (if 0≤i∧i<(kids.length:Int)then if 0≤i∧i<(parts.length:Int)then if 0≤(kids.getD i.toNat (0,0,())).1∧(kids.getD i.toNat (0,0,())).1<(groups.length:Int)then nx1 g (af (i+1)) f f3 f4 (groups.set (((kids.getD i.toNat (0,0,())).1).toNat) ((parts.getD i.toNat (0,())).1,())) members kids parts else none else none else none) (if 0≤i∧i<(kids.length:Int)then if 0≤i∧i<(parts.length:Int)then if 0≤(kids.getD i.toNat (0,0,())).2.1∧(kids.getD i.toNat (0,0,())).2.1<(members.length:Int)then nx1 g (af (i+1)) f f3 f4 groups (members.set (((kids.getD i.toNat (0,0,())).2.1).toNat) ((parts.getD i.toNat (0,())).1,())) kids parts else none else none else none)else none) (ex1 g f f3 f4 groups members)
def A0(f0:Int)(f1 f2:List U7)(groups members:List (Int×Unit)):Option ((List (Int×Unit))×(List (Int×Unit))×Unit):=some (groups,members,())
def A1{R:Type}(nx0:vY R)(g f:Int)(f3 f4:List U7)(groups members:List (Int×Unit)):Option R:=nx0 (af (g+1)) f f3 f4 groups members
def T(lo0:vY ((List (Int×Unit))×(List (Int×Unit))×Unit))(f0:Int)(f1 f2:List U7):Option ((List (Int×Unit))×(List (Int×Unit))×Unit):=if 0≤(f1.length:Int)∧(8:Int)*(f1.length:Int)≤281474976710656∧(f1.length:Int)≤9223372036854775807 then if 0≤(f2.length:Int)∧(8:Int)*(f2.length:Int)≤281474976710656∧(f2.length:Int)≤9223372036854775807 then lo0 (-1) f0 f1 f2 (List.replicate (((f1.length:Int):Int)).toNat (0,())) (List.replicate (((f2.length:Int):Int)).toNat (0,()))else none else none
def K0{R:Type}(k0:Nat)(K:ai R):ai R:=aY 0 (bg (fun env ob=>zrc k0 [1,1,1,1] env ob (K)) (K))
def K1{R:Type}(k0:Nat)(K:ai R):ai R:=aY 2 (aY 1 (bg (fun env ob=>zrc k0 [1,1,1,0,1,0,0,1,1] env ob (K)) (K)))
def P0:ai R:=vP 0 [1,4,5,6] [4,5] (fun env ob=>iter 0 [1,4,5,6] [4,5] (zrc k0 [1,1,1,0,1,0,0]) k env ob K) K
def L0:vY R:=fun g f f3 f4 groups members=>iter 0 [1,4,5,6] [4,5] (zrc k0 [1,1,1,0,1,0,0]) k [(1,.ptr 0 0 0 0),(4,.own 1),(5,.own 2),(6,.int .i64 g)] [.box [.int .i64 f,.sl aC f3,.sl aC f4],.arr [CT.int .i64] groups,.arr [CT.int .i64] members] K
def L1:Gy R:=fun g i f f3 f4 groups members kids parts=>iter 0 [1,4,5,6,9,11,12] [1,4,5,6] (zrc k0 [1,1,1,0,1,0,0,1,0,0,1,1,1,1,1,1,0,0]) k [(1,.ptr 0 0 0 0),(4,.own 1),(5,.own 2),(6,.int .i64 g),(9,.own 3),(11,.own 4),(12,.int .i64 i)] [.box [.int .i64 f,.sl aC f3,.sl aC f4],.arr [CT.int .i64] groups,.arr [CT.int .i64] members,.arr eG kids,.arr [CT.int .i64] parts] K
def H0:QI R:=fun groups members=>K (.exit 0) [(4,.own 0),(5,.own 1)] [.arr [CT.int .i64] groups,.arr [CT.int .i64] members]
def H1:vY R:=fun g f f3 f4 groups members=>K (.exit 2) [(1,.ptr 0 0 0 0),(4,.own 1),(5,.own 2),(6,.int .i64 g)] [.box [.int .i64 f,.sl aC f3,.sl aC f4],.arr [CT.int .i64] groups,.arr [CT.int .i64] members]
theorem zs0:L0 k0 (k+1) K=R0 (H0 K) (L1 k0 k0 (K1 k0 (P0 k0 k K))):=by kernel_rfl
theorem zs1:L1 k0 (k+1) K=R1 (L1 k0 k K) (H1 K):=by kernel_rfl
theorem bW:H1 (K1 k0 (P0 k0 k K))=A1 (L0 k0 k K):=by kernel_rfl
def G1{R:Type}(k0:Nat)(hx1:vY R):Nat→Gy R
 |0=>fun _ _ _ _ _ _ _ _ _=>none
 |k+1=>R1 (G1 k0 hx1 k) hx1
theorem dO:∀ k,L1 k0 k K=G1 k0 (H1 K) k:=bG rfl fun k ih=>by rw[zs1,G1];(try simp only[ih]);try rfl
def G0{R:Type}(k0:Nat)(hx0:QI R):Nat→vY R
 |0=>fun _ _ _ _ _ _=>none
 |k+1=>R0 hx0 (G1 k0 (A1 (G0 k0 hx0 k)) k0)
theorem aK:∀ k,L0 k0 k K=G0 k0 (H0 K) k:=bG rfl fun k ih=>by rw[zs0,G0];(try simp only[ih,dO,bW]);try rfl
variable (f0:Int) (f1 f2:List U7)
def aA:ai ((List (Int×Unit))×(List (Int×Unit))×Unit):=bV Tryz.prog [.tmp 2,.tmp 3] LD KF (f0,f1,f2,())
theorem aS:H0 (K0 k0 (aA f0 f1 f2))=A0 f0 f1 f2:=by kernel_rfl
def FF:Option ((List (Int×Unit))×(List (Int×Unit))×Unit):=T (G0 k0 (A0 f0 f1 f2) k0) f0 f1 f2
theorem aQ:bZ Tryz.prog (aP [(130,[],MH),(131,[],MI)]) ay k0 102 LD KF [] (f0,f1,f2,())=FF k0 f0 f1 f2:=Eq.trans (b:=T (L0 k0 k0 (K0 k0 (aA f0 f1 f2))) f0 f1 f2) (by kernel_rfl) (by rw[FF];(try simp only[dO,aK,aS]);try rfl)
def _root_.Go.Rv.Ed:=fun x:U3=>FF (300+x.2.1.length+x.2.2.1.length) x.1 x.2.1 x.2.2.1
abbrev _root_.Go.Rv.Na:aG:=⟨LD,KF,Ed,[]⟩
theorem _root_.Go.Rv.acv:aF Dr Tryz.prog 102 Na:=dh mix (.c abR (.c abS .nil)) (by kernel_rfl) fun x=>⟨ay,_,aQ _ _ _ _⟩
end gI
abbrev Jm:Is:=[.v true eU]
abbrev II:Os:=[(false,[CT.sl eG])]
namespace mM
def ay:Nat→List Nat×List Nat:=fun k=>if k=6 then([1,3,5,6],[3])else([],[])
def zrc{R:Type}(k0:Nat)(p:List Nat):Env→List Ob→ai R→Option R:=bD Tryz.prog (aP [(58,[],Dl),(102,[],Na)]) 39 0 ay k0 (bQ p (cZ Tryz.prog 65))
def R0{R:Type}(nx0:Gx R)(ex0:QH R)(i f:Int)(f3 f4:List U7)(out:List U9)(members:List (Int×Unit)):Option R:=cond (decide (i<(f4.length:Int))) (if 0≤i∧i<(f4.length:Int)then if 0≤i∧i<(members.length:Int)then if out.length+[((rd (0,0,0,0,()) f4 i).1,(members.getD i.toNat (0,())).1,())].length≤maxRow then nx0 (af (i+1)) f f3 f4 (out++[((rd (0,0,0,0,()) f4 i).1,(members.getD i.toNat (0,())).1,())]) members else none else none else none) (ex0 out)
def A0(f0:Int)(f1 f2:List U7)(out:List U9):Option ((List U9)×Unit):=some (out,())
def T(lo0:Gx ((List U9)×Unit))(f0:Int)(f1 f2:List U7):Option ((List U9)×Unit):=(zF (f0,f1,f2,())).bind fun y1=>cond (!y1.1) (some (([]:List U9),())) ((Ed (f0,f1,f2,())).bind fun y2=>lo0 0 f0 f1 f2 ([]:List U9) y2.2.1)
def K0{R:Type}(k0:Nat)(K:ai R):ai R:=aY 0 (bg (fun env ob=>zrc k0 [1,1,1,1,1] env ob (K)) (K))
def L0:Gx R:=fun i f f3 f4 out members=>iter 0 [1,3,5,6] [3] (zrc k0 [1,1,1,1,0,1,0,0]) k [(1,.ptr 0 0 0 0),(3,.own 1),(5,.own 2),(6,.int .i64 i)] [.box [.int .i64 f,.sl aC f3,.sl aC f4],.arr eG out,.arr [CT.int .i64] members] K
def H0:QH R:=fun out=>K (.exit 0) [(3,.own 0)] [.arr eG out]
theorem zs0:L0 k0 (k+1) K=R0 (L0 k0 k K) (H0 K):=by kernel_rfl
def G0{R:Type}(k0:Nat)(hx0:QH R):Nat→Gx R
 |0=>fun _ _ _ _ _ _=>none
 |k+1=>R0 (G0 k0 hx0 k) hx0
theorem aK:∀ k,L0 k0 k K=G0 k0 (H0 K) k:=bG rfl fun k ih=>by rw[zs0,G0];(try simp only[ih]);try rfl
variable (f0:Int) (f1 f2:List U7)
def aA:ai ((List U9)×Unit):=bV Tryz.prog [.tmp 2] Jm II (f0,f1,f2,())
theorem aS:H0 (K0 k0 (aA f0 f1 f2))=A0 f0 f1 f2:=by kernel_rfl
def FF:Option ((List U9)×Unit):=T (G0 k0 (A0 f0 f1 f2) k0) f0 f1 f2
theorem aQ:bZ Tryz.prog (aP [(58,[],Dl),(102,[],Na)]) ay k0 65 Jm II [] (f0,f1,f2,())=FF k0 f0 f1 f2:=Eq.trans (b:=T (L0 k0 k0 (K0 k0 (aA f0 f1 f2))) f0 f1 f2) (by kernel_rfl) (by rw[FF];(try simp only[aK,aS]);try rfl)
def _root_.Go.Rv.wJ:=fun x:U3=>FF (300+x.2.1.length+x.2.2.1.length) x.1 x.2.1 x.2.2.1
abbrev _root_.Go.Rv.RQ:aG:=⟨Jm,II,wJ,[]⟩
theorem _root_.Go.Rv.aas:aF Dr Tryz.prog 65 RQ:=dh mix (.c J6 (.c acv .nil)) (by kernel_rfl) fun x=>⟨ay,_,aQ _ _ _ _⟩
end mM
def UB.T(a b:Int):Option (Int×Unit):=cond (decide (a>b)) (some (a,())) (some (b,()))
def Nc:=fun x:U9=>UB.T x.1 x.2.1
abbrev ac3:aG:=⟨[.v false [CT.int .i64],.v false [CT.int .i64]],[(false,[CT.int .i64])],Nc,[]⟩
theorem acw:aF Dr Tryz.prog 103 ac3:=aW mix .nil (by kernel_rfl) fun x=>by kernel_rfl
abbrev IV:Is:=[.v false [CT.sl ct0],.v false [CT.int .i64],.v false [CT.int .i64]]
abbrev Io:Os:=[(false,[CT.int .i64])]
namespace mD
def ay:Nat→List Nat×List Nat:=fun k=>if k=5 then([0,1,2,7,8],[7])else([],[])
def zrc{R:Type}(k0:Nat)(p:List Nat):Env→List Ob→ai R→Option R:=bD Tryz.prog (aP [(59,[],wH)]) 43 0 ay k0 (bQ p (cZ Tryz.prog 104))
def R0{R:Type}(nx0:uG R)(ex0:Y2 R)(list2:List U8)(now2 id2 sum i:Int):Option R:=cond (decide (i<(list2.length:Int))) (if 0≤i∧i<(list2.length:Int)then cond (decide ((rd (0,0,0,()) list2 i).2.2.1>now2)) (if 0≤i∧i<(list2.length:Int)then cond ((rd (0,0,0,()) list2 i).1 != id2) (if 0≤i∧i<(list2.length:Int)then nx0 list2 now2 id2 (af (sum+(rd (0,0,0,()) list2 i).2.1)) (af (i+1))else none) (nx0 list2 now2 id2 sum (af (i+1)))else none) (nx0 list2 now2 id2 sum (af (i+1)))else none) (ex0 sum)
def A0(list:List U8)(now id:Int)(sum:Int):Option (Int×Unit):=some (sum,())
def T(lo0:uG (Int×Unit))(list:List U8)(now id:Int):Option (Int×Unit):=(wI (list,())).bind fun y1=>cond (!y1.1) (some (0,())) (lo0 list now id 0 0)
def K0{R:Type}(k0:Nat)(K:ai R):ai R:=aY 0 (bg (fun env ob=>zrc k0 [1,1,1,1] env ob (K)) (K))
def L0:uG R:=fun list2 now2 id2 sum i=>iter 0 [0,1,2,7,8] [7] (zrc k0 [1,1,1,0,1,0,0]) k [(0,.sl ct0 list2),(1,.int .i64 now2),(2,.int .i64 id2),(7,.int .i64 sum),(8,.int .i64 i)] [] K
def H0:Y2 R:=fun sum=>K (.exit 0) [(7,.int .i64 sum)] []
theorem zs0:L0 k0 (k+1) K=R0 (L0 k0 k K) (H0 K):=by kernel_rfl
def G0{R:Type}(k0:Nat)(hx0:Y2 R):Nat→uG R
 |0=>fun _ _ _ _ _=>none
 |k+1=>R0 (G0 k0 hx0 k) hx0
theorem aK:∀ k,L0 k0 k K=G0 k0 (H0 K) k:=bG rfl fun k ih=>by rw[zs0,G0];(try simp only[ih]);try rfl
variable (list:List U8) (now id:Int)
def aA:ai (Int×Unit):=bV Tryz.prog [.tmp 6] IV Io (list,now,id,())
theorem aS:H0 (K0 k0 (aA list now id))=A0 list now id:=by kernel_rfl
def FF:Option (Int×Unit):=T (G0 k0 (A0 list now id) k0) list now id
theorem aQ:bZ Tryz.prog (aP [(59,[],wH)]) ay k0 104 IV Io [] (list,now,id,())=FF k0 list now id:=Eq.trans (b:=T (L0 k0 k0 (K0 k0 (aA list now id))) list now id) (by kernel_rfl) (by rw[FF];(try simp only[aK,aS]);try rfl)
def _root_.Go.Rv.JM:=fun x:(List U8)×U9=>FF (300+x.1.length) x.1 x.2.1 x.2.2.1
abbrev _root_.Go.Rv.aaE:aG:=⟨IV,Io,JM,[]⟩
theorem _root_.Go.Rv.aae:aF Dr Tryz.prog 104 aaE:=dh mix (.c CP .nil) (by kernel_rfl) fun x=>⟨ay,_,aQ _ _ _ _⟩
end mD
def Ti.T(list:List U8)(now id cap:Int):Option (Int×Unit):=(wI (list,())).bind fun y1=>cond (!y1.1) (some (0,())) ((dY (cap,())).bind fun y2=>cond (!y2.1) (some (0,())) ((JM (list,now,id,())).bind fun y3=>(Nc (0,(af (cap - y3.1)),())).bind fun y4=>some (y4.1,())))
def Dq:=fun x:(List U8)×U8=>Ti.T x.1 x.2.1 x.2.2.1 x.2.2.2.1
abbrev Sm:aG:=⟨[.v false [CT.sl ct0],.v false [CT.int .i64],.v false [CT.int .i64],.v false [CT.int .i64]],[(false,[CT.int .i64])],Dq,[]⟩
theorem aaP:aF Dr Tryz.prog 67 Sm:=aW mix (.c CP (.c wO (.c acw (.c aae .nil)))) (by kernel_rfl) fun x=>by kernel_rfl
abbrev Kq:Is:=[.v false [CT.sl ct0],.v true ct0]
abbrev Jw:Os:=[(false,[CT.sl ct0])]
namespace jV
def ay:Nat→List Nat×List Nat:=fun k=>if k=9 then([0,3,5,6,7,8],[3,5,6,7])else([],[])
def zrc{R:Type}(k0:Nat)(p:List Nat):Env→List Ob→ai R→Option R:=bD Tryz.prog (aP [(59,[],wH),(101,[],zN)]) 74 0 ay k0 (bQ p (cZ Tryz.prog 68))
def R0{R:Type}(nx0:Gw R)(ex0:QG R)(list2:List U8)(done:Bool)(i l l3 l4:Int)(same out:List U8):Option R:=cond (decide (i<(list2.length:Int))) (cond (!done) (if 0≤i∧i<(list2.length:Int)then cond (decide ((rd (0,0,0,()) list2 i).1≥l)) (if out.length+[(l,l3,l4,())].length≤maxRow then if 0≤i∧i<(list2.length:Int)then cond ((rd (0,0,0,()) list2 i).1 != l) (if 0≤i∧i<(list2.length:Int)then if(out++[(l,l3,l4,())]).length+[((rd (0,0,0,()) list2 i).1,(rd (0,0,0,()) list2 i).2.1,(rd (0,0,0,()) list2 i).2.2.1,())].length≤maxRow then nx0 list2 true (af (i+1)) l l3 l4 same ((out++[(l,l3,l4,())])++[((rd (0,0,0,()) list2 i).1,(rd (0,0,0,()) list2 i).2.1,(rd (0,0,0,()) list2 i).2.2.1,())])else none else none) (nx0 list2 true (af (i+1)) l l3 l4 same (out++[(l,l3,l4,())]))else none else none) (if 0≤i∧i<(list2.length:Int)then cond ((rd (0,0,0,()) list2 i).1 != l) (if 0≤i∧i<(list2.length:Int)then if out.length+[((rd (0,0,0,()) list2 i).1,(rd (0,0,0,()) list2 i).2.1,(rd (0,0,0,()) list2 i).2.2.1,())].length≤maxRow then nx0 list2 done (af (i+1)) l l3 l4 same (out++[((rd (0,0,0,()) list2 i).1,(rd (0,0,0,()) list2 i).2.1,(rd (0,0,0,()) list2 i).2.2.1,())])else none else none) (nx0 list2 done (af (i+1)) l l3 l4 same out)else none)else none) (if 0≤i∧i<(list2.length:Int)then cond ((rd (0,0,0,()) list2 i).1 != l) (if 0≤i∧i<(list2.length:Int)then if out.length+[((rd (0,0,0,()) list2 i).1,(rd (0,0,0,()) list2 i).2.1,(rd (0,0,0,()) list2 i).2.2.1,())].length≤maxRow then nx0 list2 done (af (i+1)) l l3 l4 same (out++[((rd (0,0,0,()) list2 i).1,(rd (0,0,0,()) list2 i).2.1,(rd (0,0,0,()) list2 i).2.2.1,())])else none else none) (nx0 list2 done (af (i+1)) l l3 l4 same out)else none)) (ex0 done l l3 l4 same out)
def A0(list:List U8)(l0 l1 l2:Int)(done:Bool)(l l3 l4:Int)(same out:List U8):Option ((List U8)×Unit):=cond (!done) (if out.length+[(l,l3,l4,())].length≤maxRow then cond (decide (((out++[(l,l3,l4,())]).length:Int)>60)) (some (same,())) (some ((out++[(l,l3,l4,())]),()))else none) (cond (decide ((out.length:Int)>60)) (some (same,())) (some (out,())))
def T(lo0:Gw ((List U8)×Unit))(list:List U8)(l0 l1 l2:Int):Option ((List U8)×Unit):=cond (decide ((list.length:Int)>400)) (some (([]:List U8),())) (if([]:List U8).length+list.length≤maxRow then(wI (list,())).bind fun y1=>cond (!y1.1) (some ((([]:List U8)++list),())) ((zO (l0,l1,l2,())).bind fun y2=>cond (!y2.1) (some ((([]:List U8)++list),())) (lo0 list false 0 l0 l1 l2 (([]:List U8)++list) ([]:List U8)))else none)
def K0{R:Type}(k0:Nat)(K:ai R):ai R:=aY 0 (bg (fun env ob=>zrc k0 [1,1,1,1,1,1,1] env ob (K)) (K))
def L0:Gw R:=fun list2 done i l l3 l4 same out=>iter 0 [0,3,5,6,7,8] [3,5,6,7] (zrc k0 [1,1,1,1,1,1,0,1,0,0]) k [(0,.sl ct0 list2),(3,.ptr 0 0 0 0),(5,.own 1),(6,.own 2),(7,.bool done),(8,.int .i64 i)] [.box [.int .i64 l,.int .i64 l3,.int .i64 l4],.arr ct0 same,.arr ct0 out] K
def H0:QG R:=fun done l l3 l4 same out=>K (.exit 0) [(3,.ptr 0 0 0 0),(5,.own 1),(6,.own 2),(7,.bool done)] [.box [.int .i64 l,.int .i64 l3,.int .i64 l4],.arr ct0 same,.arr ct0 out]
theorem zs0:L0 k0 (k+1) K=R0 (L0 k0 k K) (H0 K):=by kernel_rfl
def G0{R:Type}(k0:Nat)(hx0:QG R):Nat→Gw R
 |0=>fun _ _ _ _ _ _ _ _=>none
 |k+1=>R0 (G0 k0 hx0 k) hx0
theorem aK:∀ k,L0 k0 k K=G0 k0 (H0 K) k:=bG rfl fun k ih=>by rw[zs0,G0];(try simp only[ih]);try rfl
variable (list:List U8) (l0 l1 l2:Int)
def aA:ai ((List U8)×Unit):=bV Tryz.prog [.tmp 4] Kq Jw (list,l0,l1,l2,())
theorem aS:H0 (K0 k0 (aA list l0 l1 l2))=A0 list l0 l1 l2:=by kernel_rfl
def FF:Option ((List U8)×Unit):=T (G0 k0 (A0 list l0 l1 l2) k0) list l0 l1 l2
theorem aQ:bZ Tryz.prog (aP [(59,[],wH),(101,[],zN)]) ay k0 68 Kq Jw [] (list,l0,l1,l2,())=FF k0 list l0 l1 l2:=Eq.trans (b:=T (L0 k0 k0 (K0 k0 (aA list l0 l1 l2))) list l0 l1 l2) (by kernel_rfl) (by rw[FF];(try simp only[aK,aS]);try rfl)
def _root_.Go.Rv.zQ:=fun x:(List U8)×U8=>FF (300+x.1.length) x.1 x.2.1 x.2.2.1 x.2.2.2.1
abbrev _root_.Go.Rv.SX:aG:=⟨Kq,Jw,zQ,[]⟩
theorem _root_.Go.Rv.abn:aF Dr Tryz.prog 68 SX:=dh mix (.c CP (.c RV .nil)) (by kernel_rfl) fun x=>⟨ay,_,aQ _ _ _ _ _⟩
end jV
abbrev Lu:Is:=[.v true iK,.v true dJ]
abbrev KD:Os:=[(true,QA)]
namespace jf
def dF:Tb:=[(32,[],LM),(34,[],Dk),(36,[],LU),(38,[],uN),(64,[],wP),(65,[],RQ),(66,[],Ea),(67,[],Sm),(68,[],SX)]
def ay:Nat→List Nat×List Nat:=fun k=>if k=16 then([2,3,4,5,8,9,10],[2,3,4,5,8])else([],[])
def zrc{R:Type}(k0:Nat)(p:List Nat):Env→List Ob→ai R→Option R:=bD Tryz.prog (aP dF) 132 0 ay k0 (bQ p (cZ Tryz.prog 33))
def R0{R:Type}(nx0:Gv R)(ex0:QF R)(share i s s7 s8 s9:Int)(s10 s11:List U7)(s12:List U8)(o o5 o6 o7 o8 t4x t4x2 t4x3 t4x4 t4x5 t4x6 t4x7 out out2 out3 out4:Int)(parts:List U9)(o52 o62:List U7)(o72:List U8):Option R:=cond (decide (i<(parts.length:Int))) (if 0≤i∧i<(parts.length:Int)then cond ((parts.getD i.toNat (0,0,())).1==o5) (if 0≤i∧i<(parts.length:Int)then nx0 ((parts.getD i.toNat (0,0,())).2.1) (af (i+1)) s s7 s8 s9 s10 s11 s12 o o5 o6 o7 o8 t4x t4x2 t4x3 t4x4 t4x5 t4x6 t4x7 out out2 out3 out4 parts o52 o62 o72 else none) (nx0 share (af (i+1)) s s7 s8 s9 s10 s11 s12 o o5 o6 o7 o8 t4x t4x2 t4x3 t4x4 t4x5 t4x6 t4x7 out out2 out3 out4 parts o52 o62 o72)else none) (ex0 share s s7 s8 s9 s10 s11 s12 o o5 o6 o7 o8 t4x t4x2 t4x3 t4x4 t4x5 t4x6 t4x7 out out2 out3 out4 o52 o62 o72)
def A0(s0 s1 s2 s3:Int)(s4 s5:List U7)(s6:List U8)(o0 o1 o2 o3 o4:Int)(share s s7 s8 s9:Int)(s10 s11:List U7)(s12:List U8)(o o5 o6 o7 o8 t4x t4x2 t4x3 t4x4 t4x5 t4x6 t4x7 out out2 out3 out4:Int)(o42 o52:List U7)(o62:List U8):Option (U0):=(Dq (s12,s8,o5,s9,())).bind fun y1=>(uS (share,y1.1,())).bind fun y2=>(zQ (s12,o5,y2.1,(af (s8+s)),())).bind fun y3=>some (out,out2,out3,out4,o42,o52,y3.1,y2.1,(af (s8+s)),0,())
def T(lo0:Gv (U0))(s0 s1 s2 s3:Int)(s4 s5:List U7)(s6:List U8)(o0 o1 o2 o3 o4:Int):Option (U0):=cond (decide (s2<(af (s1+s0)))) ((lS (7,())).bind fun y1=>some (y1.1,y1.2.1,y1.2.2.1,y1.2.2.2.1,y1.2.2.2.2.1,y1.2.2.2.2.2.1,y1.2.2.2.2.2.2.1,y1.2.2.2.2.2.2.2.1,y1.2.2.2.2.2.2.2.2.1,y1.2.2.2.2.2.2.2.2.2.1,())) (cond (o2 != 0) ((jG (s3,s4,s5,o2,())).bind fun y2=>cond (decide (y2.1<0)) ((lS (4,())).bind fun y3=>some (y3.1,y3.2.1,y3.2.2.1,y3.2.2.2.1,y3.2.2.2.2.1,y3.2.2.2.2.2.1,y3.2.2.2.2.2.2.1,y3.2.2.2.2.2.2.2.1,y3.2.2.2.2.2.2.2.2.1,y3.2.2.2.2.2.2.2.2.2.1,())) ((qB (s0,s1,s2,s3,s4,s5,s6,())).bind fun y4=>(qy (s3,s4,s5,o1,())).bind fun y5=>cond (decide (y5.1<0)) ((jT (s3,s4,s5,1,o1,o2,o3,o4,())).bind fun y6=>cond (y6.2.2.2.2.1 != 0) ((lS (y6.2.2.2.2.1,())).bind fun y7=>some (y7.1,y7.2.1,y7.2.2.1,y7.2.2.2.1,y7.2.2.2.2.1,y7.2.2.2.2.2.1,y7.2.2.2.2.2.2.1,y7.2.2.2.2.2.2.2.1,y7.2.2.2.2.2.2.2.2.1,y7.2.2.2.2.2.2.2.2.2.1,())) ((wJ (y6.1,y6.2.1,y6.2.2.1,())).bind fun y8=>lo0 0 0 s0 s1 s2 s3 s4 s5 s6 o0 o1 o2 o3 o4 0 0 0 0 0 0 0 y4.1 y4.2.1 y4.2.2.1 y6.1 y8.1 y6.2.1 y6.2.2.1 y4.2.2.2.2.2.2.1)) (if 0≤y5.1∧y5.1<(y4.2.2.2.2.2.1.length:Int)then(wJ (y4.2.2.2.1,y4.2.2.2.2.1,(y4.2.2.2.2.2.1.set ((y5.1).toNat) (o1,o2,o3,o4,())),())).bind fun y9=>lo0 0 0 s0 s1 s2 s3 s4 s5 s6 o0 o1 o2 o3 o4 0 0 0 0 0 0 0 y4.1 y4.2.1 y4.2.2.1 y4.2.2.2.1 y9.1 y4.2.2.2.2.1 (y4.2.2.2.2.2.1.set ((y5.1).toNat) (o1,o2,o3,o4,())) y4.2.2.2.2.2.2.1 else none))) ((qB (s0,s1,s2,s3,s4,s5,s6,())).bind fun y10=>(qy (s3,s4,s5,o1,())).bind fun y11=>cond (decide (y11.1<0)) ((jT (s3,s4,s5,1,o1,o2,o3,o4,())).bind fun y12=>cond (y12.2.2.2.2.1 != 0) ((lS (y12.2.2.2.2.1,())).bind fun y13=>some (y13.1,y13.2.1,y13.2.2.1,y13.2.2.2.1,y13.2.2.2.2.1,y13.2.2.2.2.2.1,y13.2.2.2.2.2.2.1,y13.2.2.2.2.2.2.2.1,y13.2.2.2.2.2.2.2.2.1,y13.2.2.2.2.2.2.2.2.2.1,())) ((wJ (y12.1,y12.2.1,y12.2.2.1,())).bind fun y14=>lo0 0 0 s0 s1 s2 s3 s4 s5 s6 o0 o1 o2 o3 o4 0 0 0 0 0 0 0 y10.1 y10.2.1 y10.2.2.1 y12.1 y14.1 y12.2.1 y12.2.2.1 y10.2.2.2.2.2.2.1)) (if 0≤y11.1∧y11.1<(y10.2.2.2.2.2.1.length:Int)then(wJ (y10.2.2.2.1,y10.2.2.2.2.1,(y10.2.2.2.2.2.1.set ((y11.1).toNat) (o1,o2,o3,o4,())),())).bind fun y15=>lo0 0 0 s0 s1 s2 s3 s4 s5 s6 o0 o1 o2 o3 o4 0 0 0 0 0 0 0 y10.1 y10.2.1 y10.2.2.1 y10.2.2.2.1 y15.1 y10.2.2.2.2.1 (y10.2.2.2.2.2.1.set ((y11.1).toNat) (o1,o2,o3,o4,())) y10.2.2.2.2.2.2.1 else none)))
def K0{R:Type}(k0:Nat)(K:ai R):ai R:=aY 0 (bg (fun env ob=>zrc k0 [1,1,1,1,1,1,1,1,1] env ob (K)) (K))
def L0:Gv R:=fun share i s s7 s8 s9 s10 s11 s12 o o5 o6 o7 o8 t4x t4x2 t4x3 t4x4 t4x5 t4x6 t4x7 out out2 out3 out4 parts o52 o62 o72=>iter 0 [2,3,4,5,8,9,10] [2,3,4,5,8] (zrc k0 [1,1,1,1,1,1,1,1,0,1,0,0]) k [(2,.ptr 0 0 0 0),(3,.ptr 1 0 0 0),(4,.ptr 2 0 0 0),(5,.ptr 3 0 0 0),(8,.int .i64 share),(9,.own 4),(10,.int .i64 i)] [.box [.int .i64 s,.int .i64 s7,.int .i64 s8,.int .i64 s9,.sl aC s10,.sl aC s11,.sl ct0 s12],.box [.int .i64 o,.int .i64 o5,.int .i64 o6,.int .i64 o7,.int .i64 o8],.box [.int .i64 t4x,.int .i64 t4x2,.int .i64 t4x3,.int .i64 t4x4,.nils,.nils,.nils,.int .i64 t4x5,.int .i64 t4x6,.int .i64 t4x7],.box [.int .i64 out,.int .i64 out2,.int .i64 out3,.int .i64 out4,.own 5,.own 6,.own 7],.arr eG parts,.arr aC o52,.arr aC o62,.arr ct0 o72] K
def H0:QF R:=fun share s s7 s8 s9 s10 s11 s12 o o5 o6 o7 o8 t4x t4x2 t4x3 t4x4 t4x5 t4x6 t4x7 out out2 out3 out4 o42 o52 o62=>K (.exit 0) [(2,.ptr 0 0 0 0),(3,.ptr 1 0 0 0),(4,.ptr 2 0 0 0),(5,.ptr 3 0 0 0),(8,.int .i64 share)] [.box [.int .i64 s,.int .i64 s7,.int .i64 s8,.int .i64 s9,.sl aC s10,.sl aC s11,.sl ct0 s12],.box [.int .i64 o,.int .i64 o5,.int .i64 o6,.int .i64 o7,.int .i64 o8],.box [.int .i64 t4x,.int .i64 t4x2,.int .i64 t4x3,.int .i64 t4x4,.nils,.nils,.nils,.int .i64 t4x5,.int .i64 t4x6,.int .i64 t4x7],.box [.int .i64 out,.int .i64 out2,.int .i64 out3,.int .i64 out4,.own 4,.own 5,.own 6],.arr aC o42,.arr aC o52,.arr ct0 o62]
theorem zs0:L0 k0 (k+1) K=R0 (L0 k0 k K) (H0 K):=by kernel_rfl
def G0{R:Type}(k0:Nat)(hx0:QF R):Nat→Gv R
 |0=>fun _ _ _ _ _ _ _ _ _ _ _ _ _ _ _ _ _ _ _ _ _ _ _ _ _ _ _ _ _=>none
 |k+1=>R0 (G0 k0 hx0 k) hx0
theorem aK:∀ k,L0 k0 k K=G0 k0 (H0 K) k:=bG rfl fun k ih=>by rw[zs0,G0];(try simp only[ih]);try rfl
variable (s0 s1 s2 s3:Int) (s4 s5:List U7) (s6:List U8) (o0 o1 o2 o3 o4:Int)
def aA:ai (U0):=bV Tryz.prog [.cell 4 40] Lu KD (s0,s1,s2,s3,s4,s5,s6,o0,o1,o2,o3,o4,())
theorem aS:H0 (K0 k0 (aA s0 s1 s2 s3 s4 s5 s6 o0 o1 o2 o3 o4))=A0 s0 s1 s2 s3 s4 s5 s6 o0 o1 o2 o3 o4:=by kernel_rfl
def FF:Option (U0):=T (G0 k0 (A0 s0 s1 s2 s3 s4 s5 s6 o0 o1 o2 o3 o4) k0) s0 s1 s2 s3 s4 s5 s6 o0 o1 o2 o3 o4
theorem aQ:bZ Tryz.prog (aP dF) ay k0 33 Lu KD [] (s0,s1,s2,s3,s4,s5,s6,o0,o1,o2,o3,o4,())=FF k0 s0 s1 s2 s3 s4 s5 s6 o0 o1 o2 o3 o4:=Eq.trans (b:=T (L0 k0 k0 (K0 k0 (aA s0 s1 s2 s3 s4 s5 s6 o0 o1 o2 o3 o4))) s0 s1 s2 s3 s4 s5 s6 o0 o1 o2 o3 o4) (by kernel_rfl) (by rw[FF];(try simp only[aK,aS]);try rfl)
def _root_.Go.Rv.Eb:=fun x:Int×Int×Int×Int×(List U7)×(List U7)×(List U8)×U5=>FF (300+x.2.2.2.2.1.length+x.2.2.2.2.2.1.length+x.2.2.2.2.2.2.1.length) x.1 x.2.1 x.2.2.1 x.2.2.2.1 x.2.2.2.2.1 x.2.2.2.2.2.1 x.2.2.2.2.2.2.1 x.2.2.2.2.2.2.2.1 x.2.2.2.2.2.2.2.2.1 x.2.2.2.2.2.2.2.2.2.1 x.2.2.2.2.2.2.2.2.2.2.1 x.2.2.2.2.2.2.2.2.2.2.2.1
abbrev _root_.Go.Rv.Ua:aG:=⟨Lu,KD,Eb,[]⟩
theorem _root_.Go.Rv.acs:aF Dr Tryz.prog 33 Ua:=dh mix (.c RU (.c CZ (.c RY (.c Dv (.c wM (.c aas (.c Tm (.c aaP (.c abn .nil))))))))) (by kernel_rfl) fun x=>⟨ay,_,aQ _ _ _ _ _ _ _ _ _ _ _ _ _⟩
end jf
abbrev LG:Is:=[.v false [CT.sl [CT.int .i64]],.v false [CT.int .i64]]
abbrev KG:Os:=[(false,[CT.bool])]
namespace oh
def ay:Nat→List Nat×List Nat:=fun k=>if k=2 then([0,1,5],[4])else([],[])
def zrc{R:Type}(k0:Nat)(p:List Nat):Env→List Ob→ai R→Option R:=bD Tryz.prog (aP []) 18 0 ay k0 (bQ p (cZ Tryz.prog 69))
def R0{R:Type}(nx0:Gu R)(ex0:eX R)(ex1:dB R)(l2:List (Int×Unit))(n2 i:Int):Option R:=cond (decide (i<(l2.length:Int))) (if 0≤i∧i<(l2.length:Int)then cond ((rd (0,()) l2 i).1==n2) (ex0 true) (nx0 l2 n2 (af (i+1)))else none) (ex1 ())
def A0(l:List (Int×Unit))(n:Int)(t4x:Bool):Option (Bool×Unit):=some (t4x,())
def A1(l:List (Int×Unit))(n:Int)(_u:Unit):Option (Bool×Unit):=some (false,())
def T(lo0:Gu (Bool×Unit))(l:List (Int×Unit))(n:Int):Option (Bool×Unit):=lo0 l n 0
def K0{R:Type}(k0:Nat)(K:ai R):ai R:=aY 0 (bg (fun env ob=>zrc k0 [1,1] env ob (K)) (K))
def L0:Gu R:=fun l2 n2 i=>iter 0 [0,1,5] [4] (zrc k0 [1,0,1,0,0]) k [(0,.sl [CT.int .i64] l2),(1,.int .i64 n2),(5,.int .i64 i)] [] K
def H0:eX R:=fun t4x=>K .ret [(4,.bool t4x)] []
def H1:dB R:=fun _=>K (.exit 0) [(4,.undef)] []
theorem zs0:L0 k0 (k+1) K=R0 (L0 k0 k K) (H0 K) (H1 K):=by kernel_rfl
def G0{R:Type}(k0:Nat)(hx0:eX R)(hx1:dB R):Nat→Gu R
 |0=>fun _ _ _=>none
 |k+1=>R0 (G0 k0 hx0 hx1 k) hx0 hx1
theorem aK:∀ k,L0 k0 k K=G0 k0 (H0 K) (H1 K) k:=bG rfl fun k ih=>by rw[zs0,G0];(try simp only[ih]);try rfl
variable (l:List (Int×Unit)) (n:Int)
def aA:ai (Bool×Unit):=bV Tryz.prog [.tmp 4] LG KG (l,n,())
theorem aS:H0 (K0 k0 (aA l n))=A0 l n:=by kernel_rfl
theorem bW:H1 (K0 k0 (aA l n))=A1 l n:=by kernel_rfl
def FF:Option (Bool×Unit):=T (G0 k0 (A0 l n) (A1 l n) k0) l n
theorem aQ:bZ Tryz.prog (aP []) ay k0 69 LG KG [] (l,n,())=FF k0 l n:=Eq.trans (b:=T (L0 k0 k0 (K0 k0 (aA l n))) l n) (by kernel_rfl) (by rw[FF];(try simp only[aK,aS,bW]);try rfl)
def _root_.Go.Rv.Nh:=fun x:(List (Int×Unit))×Int×Unit=>FF (300+x.1.length) x.1 x.2.1
abbrev _root_.Go.Rv.Nb:aG:=⟨LG,KG,Nh,[]⟩
theorem _root_.Go.Rv.acy:aF Dr Tryz.prog 69 Nb:=dh mix .nil (by kernel_rfl) fun x=>⟨ay,_,aQ _ _ _⟩
end oh
abbrev Jl:Is:=[.v true iK,.v false [CT.sl [CT.int .i64]]]
abbrev IG:Os:=[(true,iK)]
namespace oV
def ay:Nat→List Nat×List Nat:=fun k=>if k=5 then([1,2,4,5,6],[4,5])else([],[])
def zrc{R:Type}(k0:Nat)(p:List Nat):Env→List Ob→ai R→Option R:=bD Tryz.prog (aP [(38,[],uN),(69,[],Nb)]) 54 0 ay k0 (bQ p (cZ Tryz.prog 35))
def R0{R:Type}(nx0:Gt R)(ex0:QE R)(gone2:List (Int×Unit))(i s s7 s8 s9:Int)(s10 s11:List U7)(s12:List U8)(t4x t4x2 t4x3 t4x4 out out2 out3 out4:Int)(o3 o4:List U7)(o5:List U8):Option R:=cond (decide (i<(s12.length:Int))) (if 0≤i∧i<(s12.length:Int)then(Nh (gone2,(rd (0,0,0,()) s12 i).1,())).bind fun y1=>cond (!y1.1) (if 0≤i∧i<(s12.length:Int)then if o5.length+[((rd (0,0,0,()) s12 i).1,(rd (0,0,0,()) s12 i).2.1,(rd (0,0,0,()) s12 i).2.2.1,())].length≤maxRow then if 0≤i∧i<(s11.length:Int)then if o4.length+[((rd (0,0,0,0,()) s11 i).1,(rd (0,0,0,0,()) s11 i).2.1,(rd (0,0,0,0,()) s11 i).2.2.1,(rd (0,0,0,0,()) s11 i).2.2.2.1,())].length≤maxRow then nx0 gone2 (af (i+1)) s s7 s8 s9 s10 s11 s12 t4x t4x2 t4x3 t4x4 out out2 out3 out4 o3 (o4++[((rd (0,0,0,0,()) s11 i).1,(rd (0,0,0,0,()) s11 i).2.1,(rd (0,0,0,0,()) s11 i).2.2.1,(rd (0,0,0,0,()) s11 i).2.2.2.1,())]) (o5++[((rd (0,0,0,()) s12 i).1,(rd (0,0,0,()) s12 i).2.1,(rd (0,0,0,()) s12 i).2.2.1,())])else none else none else none else none) (nx0 gone2 (af (i+1)) s s7 s8 s9 s10 s11 s12 t4x t4x2 t4x3 t4x4 out out2 out3 out4 o3 o4 o5)else none) (ex0 t4x t4x2 t4x3 t4x4 out out2 out3 out4 o3 o4 o5)
def A0(s0 s1 s2 s3:Int)(s4 s5:List U7)(s6:List U8)(gone:List (Int×Unit))(t4x t4x2 t4x3 t4x4 out out2 out3 out4:Int)(o2 o3:List U7)(o4:List U8):Option (U1):=some (out,out2,out3,out4,o2,o3,o4,())
def T(lo0:Gt (U1))(s0 s1 s2 s3:Int)(s4 s5:List U7)(s6:List U8)(gone:List (Int×Unit)):Option (U1):=(qB (s0,s1,s2,s3,s4,s5,s6,())).bind fun y1=>lo0 gone 0 s0 s1 s2 s3 s4 s5 s6 0 0 0 0 y1.1 y1.2.1 y1.2.2.1 y1.2.2.2.1 y1.2.2.2.2.1 ([]:List U7) ([]:List U8)
def K0{R:Type}(k0:Nat)(K:ai R):ai R:=aY 0 (bg (fun env ob=>zrc k0 [1,1,1,1,1] env ob (K)) (K))
def L0:Gt R:=fun gone2 i s s7 s8 s9 s10 s11 s12 t4x t4x2 t4x3 t4x4 out out2 out3 out4 o3 o4 o5=>iter 0 [1,2,4,5,6] [4,5] (zrc k0 [1,1,1,1,0,1,0,0]) k [(1,.sl [CT.int .i64] gone2),(2,.ptr 0 0 0 0),(4,.ptr 1 0 0 0),(5,.ptr 2 0 0 0),(6,.int .i64 i)] [.box [.int .i64 s,.int .i64 s7,.int .i64 s8,.int .i64 s9,.sl aC s10,.sl aC s11,.sl ct0 s12],.box [.int .i64 t4x,.int .i64 t4x2,.int .i64 t4x3,.int .i64 t4x4,.nils,.nils,.nils],.box [.int .i64 out,.int .i64 out2,.int .i64 out3,.int .i64 out4,.own 3,.own 4,.own 5],.arr aC o3,.arr aC o4,.arr ct0 o5] K
def H0:QE R:=fun t4x t4x2 t4x3 t4x4 out out2 out3 out4 o2 o3 o4=>K (.exit 0) [(4,.ptr 0 0 0 0),(5,.ptr 1 0 0 0)] [.box [.int .i64 t4x,.int .i64 t4x2,.int .i64 t4x3,.int .i64 t4x4,.nils,.nils,.nils],.box [.int .i64 out,.int .i64 out2,.int .i64 out3,.int .i64 out4,.own 2,.own 3,.own 4],.arr aC o2,.arr aC o3,.arr ct0 o4]
theorem zs0:L0 k0 (k+1) K=R0 (L0 k0 k K) (H0 K):=by kernel_rfl
def G0{R:Type}(k0:Nat)(hx0:QE R):Nat→Gt R
 |0=>fun _ _ _ _ _ _ _ _ _ _ _ _ _ _ _ _ _ _ _ _=>none
 |k+1=>R0 (G0 k0 hx0 k) hx0
theorem aK:∀ k,L0 k0 k K=G0 k0 (H0 K) k:=bG rfl fun k ih=>by rw[zs0,G0];(try simp only[ih]);try rfl
variable (s0 s1 s2 s3:Int) (s4 s5:List U7) (s6:List U8) (gone:List (Int×Unit))
def aA:ai (U1):=bV Tryz.prog [.cell 4 38] Jl IG (s0,s1,s2,s3,s4,s5,s6,gone,())
theorem aS:H0 (K0 k0 (aA s0 s1 s2 s3 s4 s5 s6 gone))=A0 s0 s1 s2 s3 s4 s5 s6 gone:=by kernel_rfl
def FF:Option (U1):=T (G0 k0 (A0 s0 s1 s2 s3 s4 s5 s6 gone) k0) s0 s1 s2 s3 s4 s5 s6 gone
theorem aQ:bZ Tryz.prog (aP [(38,[],uN),(69,[],Nb)]) ay k0 35 Jl IG [] (s0,s1,s2,s3,s4,s5,s6,gone,())=FF k0 s0 s1 s2 s3 s4 s5 s6 gone:=Eq.trans (b:=T (L0 k0 k0 (K0 k0 (aA s0 s1 s2 s3 s4 s5 s6 gone))) s0 s1 s2 s3 s4 s5 s6 gone) (by kernel_rfl) (by rw[FF];(try simp only[aK,aS]);try rfl)
def _root_.Go.Rv.zC:=fun x:Int×Int×Int×Int×(List U7)×(List U7)×(List U8)×(List (Int×Unit))×Unit=>FF (300+x.2.2.2.2.1.length+x.2.2.2.2.2.1.length+x.2.2.2.2.2.2.1.length+x.2.2.2.2.2.2.2.1.length) x.1 x.2.1 x.2.2.1 x.2.2.2.1 x.2.2.2.2.1 x.2.2.2.2.2.1 x.2.2.2.2.2.2.1 x.2.2.2.2.2.2.2.1
abbrev _root_.Go.Rv.RP:aG:=⟨Jl,IG,zC,[]⟩
theorem _root_.Go.Rv.aar:aF Dr Tryz.prog 35 RP:=dh mix (.c Dv (.c acy .nil)) (by kernel_rfl) fun x=>⟨ay,_,aQ _ _ _ _ _ _ _ _ _⟩
end oV
abbrev Ko:Is:=[.v true iK,.v true dJ]
abbrev Jv:Os:=[(true,QA)]
namespace iR
def dF:Tb:=[(30,[],Rz),(31,[],Ux),(32,[],LM),(33,[],Ua),(34,[],Dk),(35,[],RP),(36,[],LU),(37,[],Tv),(38,[],uN)]
def ay:Nat→List Nat×List Nat:=fun k=>if k=15 then([2,4,5,6],[2,4,5])else if k=24 then([2,4,5,8],[2,4,5])else([],[])
def zrc{R:Type}(k0:Nat)(p:List Nat):Env→List Ob→ai R→Option R:=bD Tryz.prog (aP dF) 129 0 ay k0 (bQ p (cZ Tryz.prog 7))
def R0{R:Type}(nx0:vX R)(ex0:yU R)(i s s7 s8 s9:Int)(s10 s11:List U7)(s12:List U8)(t4x t4x2 t4x3 t4x4 t4x5 t4x6 t4x7:Int)(gone:List (Int×Unit)):Option R:=cond (decide (i<(s12.length:Int))) (if 0≤i∧i<(s12.length:Int)then cond (decide ((rd (0,0,0,()) s12 i).2.2.1≤(af (s8+1)))) (if 0≤i∧i<(s12.length:Int)then if gone.length+[((rd (0,0,0,()) s12 i).1,())].length≤maxRow then nx0 (af (i+1)) s s7 s8 s9 s10 s11 s12 t4x t4x2 t4x3 t4x4 t4x5 t4x6 t4x7 (gone++[((rd (0,0,0,()) s12 i).1,())])else none else none) (nx0 (af (i+1)) s s7 s8 s9 s10 s11 s12 t4x t4x2 t4x3 t4x4 t4x5 t4x6 t4x7 gone)else none) (ex0 s s7 s8 s9 s10 s11 s12 t4x t4x2 t4x3 t4x4 t4x5 t4x6 t4x7 gone)
def R1{R:Type}(nx1:vX R)(ex1:yU R)(i s s7 s8 s9:Int)(s10 s11:List U7)(s12:List U8)(t4x t4x2 t4x3 t4x4 t4x5 t4x6 t4x7:Int)(gone:List (Int×Unit)):Option R:=cond (decide (i<(s12.length:Int))) (if 0≤i∧i<(s12.length:Int)then if gone.length+[((rd (0,0,0,()) s12 i).1,())].length≤maxRow then nx1 (af (i+1)) s s7 s8 s9 s10 s11 s12 t4x t4x2 t4x3 t4x4 t4x5 t4x6 t4x7 (gone++[((rd (0,0,0,()) s12 i).1,())])else none else none) (ex1 s s7 s8 s9 s10 s11 s12 t4x t4x2 t4x3 t4x4 t4x5 t4x6 t4x7 gone)
def A0(s0 s1 s2 s3:Int)(s4 s5:List U7)(s6:List U8)(o0 o1 o2 o3 o4:Int)(s s7 s8 s9:Int)(s10 s11:List U7)(s12:List U8)(t4x t4x2 t4x3 t4x4 t4x5 t4x6 t4x7:Int)(gone:List (Int×Unit)):Option (U0):=(zC (s,s7,s8,s9,s10,s11,s12,gone,())).bind fun y1=>some (y1.1,y1.2.1,(af (s8+1)),y1.2.2.2.1,y1.2.2.2.2.1,y1.2.2.2.2.2.1,y1.2.2.2.2.2.2.1,0,0,0,())
def A1(s0 s1 s2 s3:Int)(s4 s5:List U7)(s6:List U8)(o0 o1 o2 o3 o4:Int)(s s7 s8 s9:Int)(s10 s11:List U7)(s12:List U8)(t4x t4x2 t4x3 t4x4 t4x5 t4x6 t4x7:Int)(gone:List (Int×Unit)):Option (U0):=(zC (s,s7,s8,s9,s10,s11,s12,gone,())).bind fun y1=>some (y1.1,s8,y1.2.2.1,y1.2.2.2.1,y1.2.2.2.2.1,y1.2.2.2.2.2.1,y1.2.2.2.2.2.2.1,0,0,0,())
def T(lo0 lo1:vX (U0))(s0 s1 s2 s3:Int)(s4 s5:List U7)(s6:List U8)(o0 o1 o2 o3 o4:Int):Option (U0):=(CV (s0,s1,s2,s3,s4,s5,s6,())).bind fun y1=>cond (!y1.1) ((lS (1,())).bind fun y2=>some (y2.1,y2.2.1,y2.2.2.1,y2.2.2.2.1,y2.2.2.2.2.1,y2.2.2.2.2.2.1,y2.2.2.2.2.2.2.1,y2.2.2.2.2.2.2.2.1,y2.2.2.2.2.2.2.2.2.1,y2.2.2.2.2.2.2.2.2.2.1,())) ((En (o0,o1,o2,o3,o4,())).bind fun y3=>cond (!y3.1) ((lS (1,())).bind fun y4=>some (y4.1,y4.2.1,y4.2.2.1,y4.2.2.2.1,y4.2.2.2.2.1,y4.2.2.2.2.2.1,y4.2.2.2.2.2.2.1,y4.2.2.2.2.2.2.2.1,y4.2.2.2.2.2.2.2.2.1,y4.2.2.2.2.2.2.2.2.2.1,())) (cond (o0==1) ((Eb (s0,s1,s2,s3,s4,s5,s6,o0,o1,o2,o3,o4,())).bind fun y5=>some (y5.1,y5.2.1,y5.2.2.1,y5.2.2.2.1,y5.2.2.2.2.1,y5.2.2.2.2.2.1,y5.2.2.2.2.2.2.1,y5.2.2.2.2.2.2.2.1,y5.2.2.2.2.2.2.2.2.1,y5.2.2.2.2.2.2.2.2.2.1,())) (cond (o0==2) ((qy (s3,s4,s5,o1,())).bind fun y6=>cond (decide (y6.1<0)) ((lS (4,())).bind fun y7=>some (y7.1,y7.2.1,y7.2.2.1,y7.2.2.2.1,y7.2.2.2.2.1,y7.2.2.2.2.2.1,y7.2.2.2.2.2.2.1,y7.2.2.2.2.2.2.2.1,y7.2.2.2.2.2.2.2.2.1,y7.2.2.2.2.2.2.2.2.2.1,())) ((zC (s0,s1,s2,s3,s4,s5,s6,[(o1,())],())).bind fun y8=>some (y8.1,y8.2.1,y8.2.2.1,y8.2.2.2.1,y8.2.2.2.2.1,y8.2.2.2.2.2.1,y8.2.2.2.2.2.2.1,0,0,0,()))) (cond (o0==4) (cond (s2==999000) ((lS (9,())).bind fun y9=>some (y9.1,y9.2.1,y9.2.2.1,y9.2.2.2.1,y9.2.2.2.2.1,y9.2.2.2.2.2.1,y9.2.2.2.2.2.2.1,y9.2.2.2.2.2.2.2.1,y9.2.2.2.2.2.2.2.2.1,y9.2.2.2.2.2.2.2.2.2.1,())) (lo0 0 s0 s1 s2 s3 s4 s5 s6 0 0 0 0 0 0 0 ([]:List (Int×Unit)))) (cond (o0==5) (lo1 0 s0 s1 s2 s3 s4 s5 s6 0 0 0 0 0 0 0 ([]:List (Int×Unit))) ((oZ (o0,o1,o2,o3,o4,())).bind fun y10=>(jT (s3,s4,s5,y10.1,y10.2.1,y10.2.2.1,y10.2.2.2.1,y10.2.2.2.2.1,())).bind fun y11=>cond (y11.2.2.2.2.1 != 0) ((lS (y11.2.2.2.2.1,())).bind fun y12=>some (y12.1,y12.2.1,y12.2.2.1,y12.2.2.2.1,y12.2.2.2.2.1,y12.2.2.2.2.2.1,y12.2.2.2.2.2.2.1,y12.2.2.2.2.2.2.2.1,y12.2.2.2.2.2.2.2.2.1,y12.2.2.2.2.2.2.2.2.2.1,())) ((qB (s0,s1,s2,s3,s4,s5,s6,())).bind fun y13=>some (y13.1,y13.2.1,y13.2.2.1,y11.1,y11.2.1,y11.2.2.1,y13.2.2.2.2.2.2.1,0,0,0,()))))))))
def K0{R:Type}(k0:Nat)(K:ai R):ai R:=aY 1 (bg (fun env ob=>zrc k0 [1,1,1,0,1,0,1,1,1,1,1,0,1,1] env ob (aY 0 (bg (fun env ob=>zrc k0 [1,1,1,1] env ob (K)) (K)))) (aY 0 (bg (fun env ob=>zrc k0 [1,1,1,1] env ob (K)) (K))))
def K1{R:Type}(k0:Nat)(K:ai R):ai R:=aY 3 (bg (fun env ob=>zrc k0 [1,1,1,0,1,0,1,1,1,1,1,1,1,0,1] env ob (aY 0 (bg (fun env ob=>zrc k0 [1,1,1,1] env ob (K)) (K)))) (aY 0 (bg (fun env ob=>zrc k0 [1,1,1,1] env ob (K)) (K))))
def L0:vX R:=fun i s s7 s8 s9 s10 s11 s12 t4x t4x2 t4x3 t4x4 t4x5 t4x6 t4x7 gone=>iter 0 [2,4,5,6] [2,4,5] (zrc k0 [1,1,1,0,1,0,1,1,1,1,1,0,1,0,1,0,0]) k [(2,.ptr 0 0 0 0),(4,.ptr 1 0 0 0),(5,.own 2),(6,.int .i64 i)] [.box [.int .i64 s,.int .i64 s7,.int .i64 s8,.int .i64 s9,.sl aC s10,.sl aC s11,.sl ct0 s12],.box [.int .i64 t4x,.int .i64 t4x2,.int .i64 t4x3,.int .i64 t4x4,.nils,.nils,.nils,.int .i64 t4x5,.int .i64 t4x6,.int .i64 t4x7],.arr [CT.int .i64] gone] K
def L1:vX R:=fun i s s7 s8 s9 s10 s11 s12 t4x t4x2 t4x3 t4x4 t4x5 t4x6 t4x7 gone=>iter 0 [2,4,5,8] [2,4,5] (zrc k0 [1,1,1,0,1,0,1,1,1,1,1,1,1,0,0,1,0,0]) k [(2,.ptr 0 0 0 0),(4,.ptr 1 0 0 0),(5,.own 2),(8,.int .i64 i)] [.box [.int .i64 s,.int .i64 s7,.int .i64 s8,.int .i64 s9,.sl aC s10,.sl aC s11,.sl ct0 s12],.box [.int .i64 t4x,.int .i64 t4x2,.int .i64 t4x3,.int .i64 t4x4,.nils,.nils,.nils,.int .i64 t4x5,.int .i64 t4x6,.int .i64 t4x7],.arr [CT.int .i64] gone] K
def H0:yU R:=fun s s7 s8 s9 s10 s11 s12 t4x t4x2 t4x3 t4x4 t4x5 t4x6 t4x7 gone=>K (.exit 1) [(2,.ptr 0 0 0 0),(4,.ptr 1 0 0 0),(5,.own 2)] [.box [.int .i64 s,.int .i64 s7,.int .i64 s8,.int .i64 s9,.sl aC s10,.sl aC s11,.sl ct0 s12],.box [.int .i64 t4x,.int .i64 t4x2,.int .i64 t4x3,.int .i64 t4x4,.nils,.nils,.nils,.int .i64 t4x5,.int .i64 t4x6,.int .i64 t4x7],.arr [CT.int .i64] gone]
def H1:yU R:=fun s s7 s8 s9 s10 s11 s12 t4x t4x2 t4x3 t4x4 t4x5 t4x6 t4x7 gone=>K (.exit 3) [(2,.ptr 0 0 0 0),(4,.ptr 1 0 0 0),(5,.own 2)] [.box [.int .i64 s,.int .i64 s7,.int .i64 s8,.int .i64 s9,.sl aC s10,.sl aC s11,.sl ct0 s12],.box [.int .i64 t4x,.int .i64 t4x2,.int .i64 t4x3,.int .i64 t4x4,.nils,.nils,.nils,.int .i64 t4x5,.int .i64 t4x6,.int .i64 t4x7],.arr [CT.int .i64] gone]
theorem zs0:L0 k0 (k+1) K=R0 (L0 k0 k K) (H0 K):=by kernel_rfl
theorem zs1:L1 k0 (k+1) K=R1 (L1 k0 k K) (H1 K):=by kernel_rfl
def G0{R:Type}(k0:Nat)(hx0:yU R):Nat→vX R
 |0=>fun _ _ _ _ _ _ _ _ _ _ _ _ _ _ _ _=>none
 |k+1=>R0 (G0 k0 hx0 k) hx0
theorem aK:∀ k,L0 k0 k K=G0 k0 (H0 K) k:=bG rfl fun k ih=>by rw[zs0,G0];(try simp only[ih]);try rfl
def G1{R:Type}(k0:Nat)(hx1:yU R):Nat→vX R
 |0=>fun _ _ _ _ _ _ _ _ _ _ _ _ _ _ _ _=>none
 |k+1=>R1 (G1 k0 hx1 k) hx1
theorem dO:∀ k,L1 k0 k K=G1 k0 (H1 K) k:=bG rfl fun k ih=>by rw[zs1,G1];(try simp only[ih,aK]);try rfl
variable (s0 s1 s2 s3:Int) (s4 s5:List U7) (s6:List U8) (o0 o1 o2 o3 o4:Int)
def aA:ai (U0):=bV Tryz.prog [.cell 4 40] Ko Jv (s0,s1,s2,s3,s4,s5,s6,o0,o1,o2,o3,o4,())
theorem aS:H0 (K0 k0 (aA s0 s1 s2 s3 s4 s5 s6 o0 o1 o2 o3 o4))=A0 s0 s1 s2 s3 s4 s5 s6 o0 o1 o2 o3 o4:=by kernel_rfl
theorem bW:H1 (K1 k0 (aA s0 s1 s2 s3 s4 s5 s6 o0 o1 o2 o3 o4))=A1 s0 s1 s2 s3 s4 s5 s6 o0 o1 o2 o3 o4:=by kernel_rfl
def FF:Option (U0):=T (G0 k0 (A0 s0 s1 s2 s3 s4 s5 s6 o0 o1 o2 o3 o4) k0) (G1 k0 (A1 s0 s1 s2 s3 s4 s5 s6 o0 o1 o2 o3 o4) k0) s0 s1 s2 s3 s4 s5 s6 o0 o1 o2 o3 o4
theorem aQ:bZ Tryz.prog (aP dF) ay k0 7 Ko Jv [] (s0,s1,s2,s3,s4,s5,s6,o0,o1,o2,o3,o4,())=FF k0 s0 s1 s2 s3 s4 s5 s6 o0 o1 o2 o3 o4:=Eq.trans (b:=T (L0 k0 k0 (K0 k0 (aA s0 s1 s2 s3 s4 s5 s6 o0 o1 o2 o3 o4))) (L1 k0 k0 (K1 k0 (aA s0 s1 s2 s3 s4 s5 s6 o0 o1 o2 o3 o4))) s0 s1 s2 s3 s4 s5 s6 o0 o1 o2 o3 o4) (by kernel_rfl) (by rw[FF];(try simp only[aK,dO,aS,bW]);try rfl)
def _root_.Go.Rv.rE:=fun x:Int×Int×Int×Int×(List U7)×(List U7)×(List U8)×U5=>FF (300+x.2.2.2.2.1.length+x.2.2.2.2.2.1.length+x.2.2.2.2.2.2.1.length) x.1 x.2.1 x.2.2.1 x.2.2.2.1 x.2.2.2.2.1 x.2.2.2.2.2.1 x.2.2.2.2.2.2.1 x.2.2.2.2.2.2.2.1 x.2.2.2.2.2.2.2.2.1 x.2.2.2.2.2.2.2.2.2.1 x.2.2.2.2.2.2.2.2.2.2.1 x.2.2.2.2.2.2.2.2.2.2.2.1
abbrev _root_.Go.Rv.LQ:aG:=⟨Ko,Jv,rE,[]⟩
theorem _root_.Go.Rv.abl:aF Dr Tryz.prog 7 LQ:=dh mix (.c Rn (.c acV (.c RU (.c acs (.c CZ (.c aar (.c RY (.c SB (.c Dv .nil))))))))) (by kernel_rfl) fun x=>⟨ay,_,aQ _ _ _ _ _ _ _ _ _ _ _ _ _⟩
end iR
abbrev LC:Is:=[.v true iK,.v false [CT.sl dJ]]
abbrev KE:Os:=[(false,[CT.sl ct0]),(true,iK)]
namespace qE
def ay:Nat→List Nat×List Nat:=fun k=>if k=4 then([1,5,6,7,8],[5,6,7])else([],[])
def zrc{R:Type}(k0:Nat)(p:List Nat):Env→List Ob→ai R→Option R:=bD Tryz.prog (aP [(7,[],LQ),(38,[],uN)]) 42 0 ay k0 (bQ p (cZ Tryz.prog 49))
def R0{R:Type}(nx0:Gs R)(ex0:QD R)(list2:List U5)(i t5x t5x2 t5x3 t5x4:Int)(out:List U8)(now now2 now3 now4:Int)(o3 o4:List U7)(o5:List U8):Option R:=cond (decide (i<(list2.length:Int))) (if 0≤i∧i<(list2.length:Int)then(rE (now,now2,now3,now4,o3,o4,o5,(rd (0,0,0,0,0,()) list2 i).1,(rd (0,0,0,0,0,()) list2 i).2.1,(rd (0,0,0,0,0,()) list2 i).2.2.1,(rd (0,0,0,0,0,()) list2 i).2.2.2.1,(rd (0,0,0,0,0,()) list2 i).2.2.2.2.1,())).bind fun y1=>if out.length+[(y1.2.2.2.2.2.2.2.1,y1.2.2.2.2.2.2.2.2.1,y1.2.2.2.2.2.2.2.2.2.1,())].length≤maxRow then cond (y1.2.2.2.2.2.2.2.2.2.1==0) (nx0 list2 (af (i+1)) t5x t5x2 t5x3 t5x4 (out++[(y1.2.2.2.2.2.2.2.1,y1.2.2.2.2.2.2.2.2.1,y1.2.2.2.2.2.2.2.2.2.1,())]) y1.1 y1.2.1 y1.2.2.1 y1.2.2.2.1 y1.2.2.2.2.1 y1.2.2.2.2.2.1 y1.2.2.2.2.2.2.1) (nx0 list2 (af (i+1)) t5x t5x2 t5x3 t5x4 (out++[(y1.2.2.2.2.2.2.2.1,y1.2.2.2.2.2.2.2.2.1,y1.2.2.2.2.2.2.2.2.2.1,())]) now now2 now3 now4 o3 o4 o5)else none else none) (ex0 t5x t5x2 t5x3 t5x4 out now now2 now3 now4 o3 o4 o5)
def A0(s0 s1 s2 s3:Int)(s4 s5:List U7)(s6:List U8)(list:List U5)(t5x t5x2 t5x3 t5x4:Int)(out:List U8)(now now2 now3 now4:Int)(o3 o4:List U7)(o5:List U8):Option ((List U8)×U1):=some (out,now,now2,now3,now4,o3,o4,o5,())
def T(lo0:Gs ((List U8)×U1))(s0 s1 s2 s3:Int)(s4 s5:List U7)(s6:List U8)(list:List U5):Option ((List U8)×U1):=(qB (s0,s1,s2,s3,s4,s5,s6,())).bind fun y1=>lo0 list 0 0 0 0 0 ([]:List U8) y1.1 y1.2.1 y1.2.2.1 y1.2.2.2.1 y1.2.2.2.2.1 y1.2.2.2.2.2.1 y1.2.2.2.2.2.2.1
def K0{R:Type}(k0:Nat)(K:ai R):ai R:=aY 0 (bg (fun env ob=>zrc k0 [1,1,1,1] env ob (K)) (K))
def L0:Gs R:=fun list2 i t5x t5x2 t5x3 t5x4 out now now2 now3 now4 o3 o4 o5=>iter 0 [1,5,6,7,8] [5,6,7] (zrc k0 [1,1,1,0,1,0,0]) k [(1,.sl dJ list2),(5,.ptr 0 0 0 0),(6,.own 1),(7,.ptr 2 0 0 0),(8,.int .i64 i)] [.box [.int .i64 t5x,.int .i64 t5x2,.int .i64 t5x3,.int .i64 t5x4,.nils,.nils,.nils],.arr ct0 out,.box [.int .i64 now,.int .i64 now2,.int .i64 now3,.int .i64 now4,.own 3,.own 4,.own 5],.arr aC o3,.arr aC o4,.arr ct0 o5] K
def H0:QD R:=fun t5x t5x2 t5x3 t5x4 out now now2 now3 now4 o3 o4 o5=>K (.exit 0) [(5,.ptr 0 0 0 0),(6,.own 1),(7,.ptr 2 0 0 0)] [.box [.int .i64 t5x,.int .i64 t5x2,.int .i64 t5x3,.int .i64 t5x4,.nils,.nils,.nils],.arr ct0 out,.box [.int .i64 now,.int .i64 now2,.int .i64 now3,.int .i64 now4,.own 3,.own 4,.own 5],.arr aC o3,.arr aC o4,.arr ct0 o5]
theorem zs0:L0 k0 (k+1) K=R0 (L0 k0 k K) (H0 K):=by kernel_rfl
def G0{R:Type}(k0:Nat)(hx0:QD R):Nat→Gs R
 |0=>fun _ _ _ _ _ _ _ _ _ _ _ _ _ _=>none
 |k+1=>R0 (G0 k0 hx0 k) hx0
theorem aK:∀ k,L0 k0 k K=G0 k0 (H0 K) k:=bG rfl fun k ih=>by rw[zs0,G0];(try simp only[ih]);try rfl
variable (s0 s1 s2 s3:Int) (s4 s5:List U7) (s6:List U8) (list:List U5)
def aA:ai ((List U8)×U1):=bV Tryz.prog [.tmp 4,.cell 5 38] LC KE (s0,s1,s2,s3,s4,s5,s6,list,())
theorem aS:H0 (K0 k0 (aA s0 s1 s2 s3 s4 s5 s6 list))=A0 s0 s1 s2 s3 s4 s5 s6 list:=by kernel_rfl
def FF:Option ((List U8)×U1):=T (G0 k0 (A0 s0 s1 s2 s3 s4 s5 s6 list) k0) s0 s1 s2 s3 s4 s5 s6 list
theorem aQ:bZ Tryz.prog (aP [(7,[],LQ),(38,[],uN)]) ay k0 49 LC KE [] (s0,s1,s2,s3,s4,s5,s6,list,())=FF k0 s0 s1 s2 s3 s4 s5 s6 list:=Eq.trans (b:=T (L0 k0 k0 (K0 k0 (aA s0 s1 s2 s3 s4 s5 s6 list))) s0 s1 s2 s3 s4 s5 s6 list) (by kernel_rfl) (by rw[FF];(try simp only[aK,aS]);try rfl)
def _root_.Go.Rv.Ec:=fun x:Int×Int×Int×Int×(List U7)×(List U7)×(List U8)×(List U5)×Unit=>FF (300+x.2.2.2.2.1.length+x.2.2.2.2.2.1.length+x.2.2.2.2.2.2.1.length+x.2.2.2.2.2.2.2.1.length) x.1 x.2.1 x.2.2.1 x.2.2.2.1 x.2.2.2.2.1 x.2.2.2.2.2.1 x.2.2.2.2.2.2.1 x.2.2.2.2.2.2.2.1
abbrev _root_.Go.Rv.ac2:aG:=⟨LC,KE,Ec,[]⟩
theorem _root_.Go.Rv.acu:aF Dr Tryz.prog 49 ac2:=dh mix (.c abl (.c Dv .nil)) (by kernel_rfl) fun x=>⟨ay,_,aQ _ _ _ _ _ _ _ _ _⟩
end qE
def Mc.T(s0 s1 s2 s3:Int)(s4 s5:List U7)(s6:List U8)(list:List U5):Option ((List U8)×Unit):=(CV (s0,s1,s2,s3,s4,s5,s6,())).bind fun y1=>cond (!y1.1) (some (([]:List U8),())) (cond (decide ((list.length:Int)>300)) (some (([]:List U8),())) ((Ec (s0,s1,s2,s3,s4,s5,s6,list,())).bind fun y2=>some (y2.1,())))
def Dp:=fun x:Int×Int×Int×Int×(List U7)×(List U7)×(List U8)×(List U5)×Unit=>Mc.T x.1 x.2.1 x.2.2.1 x.2.2.2.1 x.2.2.2.2.1 x.2.2.2.2.2.1 x.2.2.2.2.2.2.1 x.2.2.2.2.2.2.2.1
abbrev abE:aG:=⟨[.v true iK,.v false [CT.sl dJ]],[(false,[CT.sl ct0])],Dp,[]⟩
theorem aaO:aF Dr Tryz.prog 17 abE:=aW mix (.c Rn (.c acu .nil)) (by kernel_rfl) fun x=>by kernel_rfl
def aem.T(a0 a1 a2 a3 a4:Int):Option (U5):=some (a0,a1,a2,a3,a4,())
def NF:=fun x:U5=>aem.T x.1 x.2.1 x.2.2.1 x.2.2.2.1 x.2.2.2.2.1
abbrev NC:aG:=⟨[.v true dJ],[(true,dJ)],NF,[]⟩
theorem adi:aF Dr Tryz.prog 9 NC:=aW mix .nil (by kernel_rfl) fun x=>by kernel_rfl
abbrev Me:Is:=[.v false [CT.sl dJ]]
abbrev Ll:Os:=[(false,[CT.sl dJ])]
namespace pJ
def ay:Nat→List Nat×List Nat:=fun k=>if k=3 then([0,3,4],[3])else([],[])
def zrc{R:Type}(k0:Nat)(p:List Nat):Env→List Ob→ai R→Option R:=bD Tryz.prog (aP [(9,[],NC)]) 23 0 ay k0 (bQ p (cZ Tryz.prog 18))
def R0{R:Type}(nx0:Gq R)(ex0:QC R)(a2:List U5)(i:Int)(out:List U5):Option R:=cond (decide (i<(a2.length:Int))) (if 0≤i∧i<(a2.length:Int)then(NF ((rd (0,0,0,0,0,()) a2 i).1,(rd (0,0,0,0,0,()) a2 i).2.1,(rd (0,0,0,0,0,()) a2 i).2.2.1,(rd (0,0,0,0,0,()) a2 i).2.2.2.1,(rd (0,0,0,0,0,()) a2 i).2.2.2.2.1,())).bind fun y1=>if 0≤i∧i<(out.length:Int)then nx0 a2 (af (i+1)) (out.set i.toNat y1)else none else none) (ex0 out)
def A0(a:List U5)(out:List U5):Option ((List U5)×Unit):=some (out,())
def T(lo0:Gq ((List U5)×Unit))(a:List U5):Option ((List U5)×Unit):=if 0≤(a.length:Int)∧(40:Int)*(a.length:Int)≤281474976710656∧(a.length:Int)≤9223372036854775807 then lo0 a 0 (List.replicate (((a.length:Int):Int)).toNat (0,0,0,0,0,()))else none
def K0{R:Type}(k0:Nat)(K:ai R):ai R:=aY 0 (bg (fun env ob=>zrc k0 [1,1,1] env ob (K)) (K))
def L0:Gq R:=fun a2 i out=>iter 0 [0,3,4] [3] (zrc k0 [1,1,0,1,0,0]) k [(0,.sl dJ a2),(3,.own 0),(4,.int .i64 i)] [.arr dJ out] K
def H0:QC R:=fun out=>K (.exit 0) [(3,.own 0)] [.arr dJ out]
theorem zs0:L0 k0 (k+1) K=R0 (L0 k0 k K) (H0 K):=by kernel_rfl
def G0{R:Type}(k0:Nat)(hx0:QC R):Nat→Gq R
 |0=>fun _ _ _=>none
 |k+1=>R0 (G0 k0 hx0 k) hx0
theorem aK:∀ k,L0 k0 k K=G0 k0 (H0 K) k:=bG rfl fun k ih=>by rw[zs0,G0];(try simp only[ih]);try rfl
variable (a:List U5)
def aA:ai ((List U5)×Unit):=bV Tryz.prog [.tmp 2] Me Ll (a,())
theorem aS:H0 (K0 k0 (aA a))=A0 a:=by kernel_rfl
def FF:Option ((List U5)×Unit):=T (G0 k0 (A0 a) k0) a
theorem aQ:bZ Tryz.prog (aP [(9,[],NC)]) ay k0 18 Me Ll [] (a,())=FF k0 a:=Eq.trans (b:=T (L0 k0 k0 (K0 k0 (aA a))) a) (by kernel_rfl) (by rw[FF];(try simp only[aK,aS]);try rfl)
def _root_.Go.Rv.xg:=fun x:(List U5)×Unit=>FF (300+x.1.length) x.1
abbrev _root_.Go.Rv.ads:aG:=⟨Me,Ll,xg,[]⟩
theorem _root_.Go.Rv.acW:aF Dr Tryz.prog 18 ads:=dh mix (.c adi .nil) (by kernel_rfl) fun x=>⟨ay,_,aQ _ _⟩
end pJ
def XH.T(n low high:Int):Option (Bool×Unit):=cond (decide (low≤n)) (some ((decide (n≤high)),())) (some (false,()))
def nH:=fun x:U8=>XH.T x.1 x.2.1 x.2.2.1
abbrev V3:aG:=⟨[.v false [CT.int .i64],.v false [CT.int .i64],.v false [CT.int .i64]],[(false,[CT.bool])],nH,[]⟩
theorem Ai:aF Dr Tryz.prog 78 V3:=aW mix .nil (by kernel_rfl) fun x=>by kernel_rfl
def EN.T(n:Int):Option (Bool×Unit):=(nH (n,1,1000000,())).bind fun y1=>some (y1.1,())
def gu:=fun x:Int×Unit=>EN.T x.1
abbrev UR:aG:=⟨[.v false [CT.int .i64]],[(false,[CT.bool])],gu,[]⟩
theorem Em:aF Dr Tryz.prog 81 UR:=aW mix (.c Ai .nil) (by kernel_rfl) fun x=>by kernel_rfl
def Es.T(n:Int):Option (Bool×Unit):=(nH (n,0,1125899906842624,())).bind fun y1=>some (y1.1,())
def je:=fun x:Int×Unit=>Es.T x.1
abbrev Uc:aG:=⟨[.v false [CT.int .i64]],[(false,[CT.bool])],je,[]⟩
theorem DR:aF Dr Tryz.prog 82 Uc:=aW mix (.c Ai .nil) (by kernel_rfl) fun x=>by kernel_rfl
def D9.T(n:Int):Option (Bool×Unit):=(nH (n,1,1073741824,())).bind fun y1=>some (y1.1,())
def jU:=fun x:Int×Unit=>D9.T x.1
abbrev SY:aG:=⟨[.v false [CT.int .i64]],[(false,[CT.bool])],jU,[]⟩
theorem KI:aF Dr Tryz.prog 83 SY:=aW mix (.c Ai .nil) (by kernel_rfl) fun x=>by kernel_rfl
abbrev JJ:Is:=[.v true eU]
abbrev Jk:Os:=[(false,[CT.bool])]
namespace iH
def dF:Tb:=[(81,[],UR),(82,[],Uc),(83,[],SY),(107,[],Rk)]
def ay:Nat→List Nat×List Nat:=fun k=>if k=4 then([1,25,26,27],[1,2])else if k=11 then([1,78,79,80],[2])else([],[])
def zrc{R:Type}(k0:Nat)(p:List Nat):Env→List Ob→ai R→Option R:=bD Tryz.prog (aP dF) 125 0 ay k0 (bQ p (cZ Tryz.prog 79))
def R0{R:Type}(nx0:tV R)(ex0:zf R)(ex1:yZ R)(t25x:List U7)(t26x t27x f:Int)(f3 f4:List U7):Option R:=cond (decide (t27x<t26x)) (if 0≤t27x∧t27x<(t25x.length:Int)then if 0≤t27x∧t27x≤(f3.length:Int)then(gu ((rd (0,0,0,0,()) t25x t27x).1,())).bind fun y1=>cond (!y1.1) (ex0 false f f3 f4) (cond (decide (t27x>0)) (if 0≤(af (t27x - 1))∧(af (t27x - 1))<(f3.length:Int)then cond (decide ((rd (0,0,0,0,()) f3 (af (t27x - 1))).1≥(rd (0,0,0,0,()) t25x t27x).1)) (ex0 false f f3 f4) ((mr (0,(f3.take (t27x.toNat)),[],(rd (0,0,0,0,()) t25x t27x).2.1,())).bind fun y2=>cond (!y2.1) (ex0 false f f3 f4) ((je ((rd (0,0,0,0,()) t25x t27x).2.2.1,())).bind fun y3=>cond (!y3.1) (ex0 false f f3 f4) ((jU ((rd (0,0,0,0,()) t25x t27x).2.2.2.1,())).bind fun y4=>cond (!y4.1) (ex0 false f f3 f4) (nx0 t25x t26x (af (t27x+1)) f f3 f4))))else none) ((mr (0,(f3.take (t27x.toNat)),[],(rd (0,0,0,0,()) t25x t27x).2.1,())).bind fun y5=>cond (!y5.1) (ex0 false f f3 f4) ((je ((rd (0,0,0,0,()) t25x t27x).2.2.1,())).bind fun y6=>cond (!y6.1) (ex0 false f f3 f4) ((jU ((rd (0,0,0,0,()) t25x t27x).2.2.2.1,())).bind fun y7=>cond (!y7.1) (ex0 false f f3 f4) (nx0 t25x t26x (af (t27x+1)) f f3 f4)))))else none else none) (ex1 f f3 f4)
def R1{R:Type}(nx1:tV R)(ex2:eX R)(ex3:dB R)(t78x:List U7)(t79x t80x f:Int)(f3 f4:List U7):Option R:=cond (decide (t80x<t79x)) (if 0≤t80x∧t80x<(t78x.length:Int)then(gu ((rd (0,0,0,0,()) t78x t80x).1,())).bind fun y1=>cond (!y1.1) (ex2 false) (cond (decide (t80x>0)) (if 0≤(af (t80x - 1))∧(af (t80x - 1))<(f4.length:Int)then cond (decide ((rd (0,0,0,0,()) f4 (af (t80x - 1))).1≥(rd (0,0,0,0,()) t78x t80x).1)) (ex2 false) ((mr (f,f3,f4,(rd (0,0,0,0,()) t78x t80x).2.1,())).bind fun y2=>cond (!y2.1) (ex2 false) ((je ((rd (0,0,0,0,()) t78x t80x).2.2.1,())).bind fun y3=>cond (!y3.1) (ex2 false) ((jU ((rd (0,0,0,0,()) t78x t80x).2.2.2.1,())).bind fun y4=>cond (!y4.1) (ex2 false) (nx1 t78x t79x (af (t80x+1)) f f3 f4))))else none) ((mr (f,f3,f4,(rd (0,0,0,0,()) t78x t80x).2.1,())).bind fun y5=>cond (!y5.1) (ex2 false) ((je ((rd (0,0,0,0,()) t78x t80x).2.2.1,())).bind fun y6=>cond (!y6.1) (ex2 false) ((jU ((rd (0,0,0,0,()) t78x t80x).2.2.2.1,())).bind fun y7=>cond (!y7.1) (ex2 false) (nx1 t78x t79x (af (t80x+1)) f f3 f4)))))else none) (ex3 ())
def A0(f0:Int)(f1 f2:List U7)(t2x:Bool)(f:Int)(f3 f4:List U7):Option (Bool×Unit):=some (t2x,())
def A1(lo1:tV (Bool×Unit))(f0:Int)(f1 f2:List U7)(f:Int)(f3 f4:List U7):Option (Bool×Unit):=lo1 f4 (f4.length:Int) 0 f f3 f4
def A2(f0:Int)(f1 f2:List U7)(t2x:Bool):Option (Bool×Unit):=some (t2x,())
def A3(f0:Int)(f1 f2:List U7)(_u:Unit):Option (Bool×Unit):=some (true,())
def T(lo0:tV (Bool×Unit))(f0:Int)(f1 f2:List U7):Option (Bool×Unit):=(je (f0,())).bind fun y1=>cond (!y1.1) (some (false,())) (cond (decide ((f1.length:Int)>30)) (some (false,())) (cond (decide ((f2.length:Int)>60)) (some (false,())) (lo0 f1 (f1.length:Int) 0 f0 f1 f2)))
def K0{R:Type}(k0:Nat)(K:ai R):ai R:=aY 0 (bg (fun env ob=>zrc k0 [1,1,1] env ob (K)) (K))
def K1{R:Type}(k0:Nat)(K:ai R):ai R:=aY 2 (bg (fun env ob=>zrc k0 [1,1,1,1] env ob (K)) (K))
def L0:tV R:=fun t25x t26x t27x f f3 f4=>iter 0 [1,25,26,27] [1,2] (zrc k0 [1,1,0,1,0,0]) k [(1,.ptr 0 0 0 0),(25,.sl aC t25x),(26,.int .i64 t26x),(27,.int .i64 t27x)] [.box [.int .i64 f,.sl aC f3,.sl aC f4]] K
def L1:tV R:=fun t78x t79x t80x f f3 f4=>iter 0 [1,78,79,80] [2] (zrc k0 [1,1,1,0,1,0,0]) k [(1,.ptr 0 0 0 0),(78,.sl aC t78x),(79,.int .i64 t79x),(80,.int .i64 t80x)] [.box [.int .i64 f,.sl aC f3,.sl aC f4]] K
def H0:zf R:=fun t2x f f3 f4=>K .ret [(1,.ptr 0 0 0 0),(2,.bool t2x)] [.box [.int .i64 f,.sl aC f3,.sl aC f4]]
def H1:yZ R:=fun f f3 f4=>K (.exit 0) [(1,.ptr 0 0 0 0),(2,.undef)] [.box [.int .i64 f,.sl aC f3,.sl aC f4]]
def H2:eX R:=fun t2x=>K .ret [(2,.bool t2x)] []
def H3:dB R:=fun _=>K (.exit 2) [(2,.undef)] []
theorem zs0:L0 k0 (k+1) K=R0 (L0 k0 k K) (H0 K) (H1 K):=by kernel_rfl
theorem zs1:L1 k0 (k+1) K=R1 (L1 k0 k K) (H2 K) (H3 K):=by kernel_rfl
def G0{R:Type}(k0:Nat)(hx0:zf R)(hx1:yZ R):Nat→tV R
 |0=>fun _ _ _ _ _ _=>none
 |k+1=>R0 (G0 k0 hx0 hx1 k) hx0 hx1
theorem aK:∀ k,L0 k0 k K=G0 k0 (H0 K) (H1 K) k:=bG rfl fun k ih=>by rw[zs0,G0];(try simp only[ih]);try rfl
def G1{R:Type}(k0:Nat)(hx2:eX R)(hx3:dB R):Nat→tV R
 |0=>fun _ _ _ _ _ _=>none
 |k+1=>R1 (G1 k0 hx2 hx3 k) hx2 hx3
theorem dO:∀ k,L1 k0 k K=G1 k0 (H2 K) (H3 K) k:=bG rfl fun k ih=>by rw[zs1,G1];(try simp only[ih,aK]);try rfl
variable (f0:Int) (f1 f2:List U7)
def aA:ai (Bool×Unit):=bV Tryz.prog [.tmp 2] JJ Jk (f0,f1,f2,())
theorem aS:H0 (K0 k0 (aA f0 f1 f2))=A0 f0 f1 f2:=by kernel_rfl
theorem bW:H1 (K0 k0 (aA f0 f1 f2))=A1 (L1 k0 k0 (K1 k0 (aA f0 f1 f2))) f0 f1 f2:=by kernel_rfl
theorem l9:H2 (K1 k0 (aA f0 f1 f2))=A2 f0 f1 f2:=by kernel_rfl
theorem rq:H3 (K1 k0 (aA f0 f1 f2))=A3 f0 f1 f2:=by kernel_rfl
def FF:Option (Bool×Unit):=T (G0 k0 (A0 f0 f1 f2) (A1 (G1 k0 (A2 f0 f1 f2) (A3 f0 f1 f2) k0) f0 f1 f2) k0) f0 f1 f2
theorem aQ:bZ Tryz.prog (aP dF) ay k0 79 JJ Jk [] (f0,f1,f2,())=FF k0 f0 f1 f2:=Eq.trans (b:=T (L0 k0 k0 (K0 k0 (aA f0 f1 f2))) f0 f1 f2) (by kernel_rfl) (by rw[FF];(try simp only[aK,dO,aS,bW,l9,rq]);try rfl)
def _root_.Go.Rv.Lj:=fun x:U3=>FF (300+x.2.1.length+x.2.2.1.length) x.1 x.2.1 x.2.2.1
abbrev _root_.Go.Rv.Sz:aG:=⟨JJ,Jk,Lj,[]⟩
theorem _root_.Go.Rv.aa2:aF Dr Tryz.prog 79 Sz:=dh mix (.c Em (.c DR (.c KI (.c CG .nil)))) (by kernel_rfl) fun x=>⟨ay,_,aQ _ _ _ _⟩
end iH
def UM.T(n:Int):Option (Bool×Unit):=(nH (n,0,1000000,())).bind fun y1=>some (y1.1,())
def Ei:=fun x:Int×Unit=>UM.T x.1
abbrev ac8:aG:=⟨[.v false [CT.int .i64]],[(false,[CT.bool])],Ei,[]⟩
theorem acE:aF Dr Tryz.prog 132 ac8:=aW mix (.c Ai .nil) (by kernel_rfl) fun x=>by kernel_rfl
def Rw.T(l0 l1 l2:Int):Option (Bool×Unit):=(gu (l0,())).bind fun y1=>cond y1.1 ((je (l1,())).bind fun y2=>cond y2.1 ((Ei (l2,())).bind fun y3=>some (y3.1,())) (some (false,()))) (some (false,()))
def CO:=fun x:U8=>Rw.T x.1 x.2.1 x.2.2.1
abbrev Ja:aG:=⟨[.v true ct0],[(false,[CT.bool])],CO,[]⟩
theorem Z4:aF Dr Tryz.prog 108 Ja:=aW mix (.c Em (.c DR (.c acE .nil))) (by kernel_rfl) fun x=>by kernel_rfl
abbrev I8:Is:=[.v false [CT.sl ct0]]
abbrev Iy:Os:=[(false,[CT.bool])]
namespace jS
def ay:Nat→List Nat×List Nat:=fun k=>if k=2 then([0,5,6,7],[0,2])else([],[])
def zrc{R:Type}(k0:Nat)(p:List Nat):Env→List Ob→ai R→Option R:=bD Tryz.prog (aP [(108,[],Ja)]) 34 0 ay k0 (bQ p (cZ Tryz.prog 80))
def R0{R:Type}(nx0:Gp R)(ex0:QB R)(ex1:zk R)(list2 t5x:List U8)(t6x t7x:Int):Option R:=cond (decide (t7x<t6x)) (if 0≤t7x∧t7x<(t5x.length:Int)then(CO ((rd (0,0,0,()) t5x t7x).1,(rd (0,0,0,()) t5x t7x).2.1,(rd (0,0,0,()) t5x t7x).2.2.1,())).bind fun y1=>cond (!y1.1) (ex0 list2 false) (cond (decide (t7x>0)) (if 0≤(af (t7x - 1))∧(af (t7x - 1))<(list2.length:Int)then cond (decide ((rd (0,0,0,()) list2 (af (t7x - 1))).1≥(rd (0,0,0,()) t5x t7x).1)) (ex0 list2 false) (nx0 list2 t5x t6x (af (t7x+1)))else none) (nx0 list2 t5x t6x (af (t7x+1))))else none) (ex1 list2)
def A0(list:List U8)(list2:List U8)(t2x:Bool):Option (Bool×Unit):=some (t2x,())
def A1(list:List U8)(list2:List U8):Option (Bool×Unit):=some ((decide ((list2.length:Int)≤60)),())
def T(lo0:Gp (Bool×Unit))(list:List U8):Option (Bool×Unit):=lo0 list list (list.length:Int) 0
def K0{R:Type}(k0:Nat)(K:ai R):ai R:=aY 0 (bg (fun env ob=>zrc k0 [1,1] env ob (K)) (K))
def L0:Gp R:=fun list2 t5x t6x t7x=>iter 0 [0,5,6,7] [0,2] (zrc k0 [1,0,1,0,0]) k [(0,.sl ct0 list2),(5,.sl ct0 t5x),(6,.int .i64 t6x),(7,.int .i64 t7x)] [] K
def H0:QB R:=fun list2 t2x=>K .ret [(0,.sl ct0 list2),(2,.bool t2x)] []
def H1:zk R:=fun list2=>K (.exit 0) [(0,.sl ct0 list2),(2,.undef)] []
theorem zs0:L0 k0 (k+1) K=R0 (L0 k0 k K) (H0 K) (H1 K):=by kernel_rfl
def G0{R:Type}(k0:Nat)(hx0:QB R)(hx1:zk R):Nat→Gp R
 |0=>fun _ _ _ _=>none
 |k+1=>R0 (G0 k0 hx0 hx1 k) hx0 hx1
theorem aK:∀ k,L0 k0 k K=G0 k0 (H0 K) (H1 K) k:=bG rfl fun k ih=>by rw[zs0,G0];(try simp only[ih]);try rfl
variable (list:List U8)
def aA:ai (Bool×Unit):=bV Tryz.prog [.tmp 2] I8 Iy (list,())
theorem aS:H0 (K0 k0 (aA list))=A0 list:=by kernel_rfl
theorem bW:H1 (K0 k0 (aA list))=A1 list:=by kernel_rfl
def FF:Option (Bool×Unit):=T (G0 k0 (A0 list) (A1 list) k0) list
theorem aQ:bZ Tryz.prog (aP [(108,[],Ja)]) ay k0 80 I8 Iy [] (list,())=FF k0 list:=Eq.trans (b:=T (L0 k0 k0 (K0 k0 (aA list))) list) (by kernel_rfl) (by rw[FF];(try simp only[aK,aS,bW]);try rfl)
def _root_.Go.Rv.JR:=fun x:(List U8)×Unit=>FF (300+x.1.length) x.1
abbrev _root_.Go.Rv.RD:aG:=⟨I8,Iy,JR,[]⟩
theorem _root_.Go.Rv.aak:aF Dr Tryz.prog 80 RD:=dh mix (.c Z4 .nil) (by kernel_rfl) fun x=>⟨ay,_,aQ _ _⟩
end jS
abbrev I7:Is:=[.v true iK]
abbrev Iw:Os:=[(false,[CT.bool])]
namespace kE
def dF:Tb:=[(78,[],V3),(79,[],Sz),(80,[],RD)]
def ay:Nat→List Nat×List Nat:=fun k=>if k=4 then([1,46,47,48],[2])else([],[])
def zrc{R:Type}(k0:Nat)(p:List Nat):Env→List Ob→ai R→Option R:=bD Tryz.prog (aP dF) 78 0 ay k0 (bQ p (cZ Tryz.prog 41))
def R0{R:Type}(nx0:Gn R)(ex0:eX R)(ex1:dB R)(t46x:List U8)(t47x t48x s s7 s8 s9:Int)(s10 s11:List U7)(s12:List U8):Option R:=cond (decide (t48x<t47x)) (if 0≤t48x∧t48x<(t46x.length:Int)then if 0≤t48x∧t48x<(s11.length:Int)then cond ((rd (0,0,0,()) t46x t48x).1 != (rd (0,0,0,0,()) s11 t48x).1) (ex0 false) ((nH ((rd (0,0,0,()) t46x t48x).2.2.1,(af (s8+1)),(af (s8+s)),())).bind fun y1=>cond (!y1.1) (ex0 false) (nx0 t46x t47x (af (t48x+1)) s s7 s8 s9 s10 s11 s12))else none else none) (ex1 ())
def A0(s0 s1 s2 s3:Int)(s4 s5:List U7)(s6:List U8)(t2x:Bool):Option (Bool×Unit):=some (t2x,())
def A1(s0 s1 s2 s3:Int)(s4 s5:List U7)(s6:List U8)(_u:Unit):Option (Bool×Unit):=some (true,())
def T(lo0:Gn (Bool×Unit))(s0 s1 s2 s3:Int)(s4 s5:List U7)(s6:List U8):Option (Bool×Unit):=(nH (s0,1,1000,())).bind fun y1=>cond (!y1.1) (some (false,())) ((nH (s2,0,999000,())).bind fun y2=>cond (!y2.1) (some (false,())) ((nH (s1,0,s2,())).bind fun y3=>cond (!y3.1) (some (false,())) ((Lj (s3,s4,s5,())).bind fun y4=>cond (!y4.1) (some (false,())) ((JR (s6,())).bind fun y5=>cond (!y5.1) (some (false,())) (cond ((s6.length:Int) != (s5.length:Int)) (some (false,())) (lo0 s6 (s6.length:Int) 0 s0 s1 s2 s3 s4 s5 s6))))))
def K0{R:Type}(k0:Nat)(K:ai R):ai R:=aY 0 (bg (fun env ob=>zrc k0 [1,1,1] env ob (K)) (K))
def L0:Gn R:=fun t46x t47x t48x s s7 s8 s9 s10 s11 s12=>iter 0 [1,46,47,48] [2] (zrc k0 [1,1,0,1,0,0]) k [(1,.ptr 0 0 0 0),(46,.sl ct0 t46x),(47,.int .i64 t47x),(48,.int .i64 t48x)] [.box [.int .i64 s,.int .i64 s7,.int .i64 s8,.int .i64 s9,.sl aC s10,.sl aC s11,.sl ct0 s12]] K
def H0:eX R:=fun t2x=>K .ret [(2,.bool t2x)] []
def H1:dB R:=fun _=>K (.exit 0) [(2,.undef)] []
theorem zs0:L0 k0 (k+1) K=R0 (L0 k0 k K) (H0 K) (H1 K):=by kernel_rfl
def G0{R:Type}(k0:Nat)(hx0:eX R)(hx1:dB R):Nat→Gn R
 |0=>fun _ _ _ _ _ _ _ _ _ _=>none
 |k+1=>R0 (G0 k0 hx0 hx1 k) hx0 hx1
theorem aK:∀ k,L0 k0 k K=G0 k0 (H0 K) (H1 K) k:=bG rfl fun k ih=>by rw[zs0,G0];(try simp only[ih]);try rfl
variable (s0 s1 s2 s3:Int) (s4 s5:List U7) (s6:List U8)
def aA:ai (Bool×Unit):=bV Tryz.prog [.tmp 2] I7 Iw (s0,s1,s2,s3,s4,s5,s6,())
theorem aS:H0 (K0 k0 (aA s0 s1 s2 s3 s4 s5 s6))=A0 s0 s1 s2 s3 s4 s5 s6:=by kernel_rfl
theorem bW:H1 (K0 k0 (aA s0 s1 s2 s3 s4 s5 s6))=A1 s0 s1 s2 s3 s4 s5 s6:=by kernel_rfl
def FF:Option (Bool×Unit):=T (G0 k0 (A0 s0 s1 s2 s3 s4 s5 s6) (A1 s0 s1 s2 s3 s4 s5 s6) k0) s0 s1 s2 s3 s4 s5 s6
theorem aQ:bZ Tryz.prog (aP dF) ay k0 41 I7 Iw [] (s0,s1,s2,s3,s4,s5,s6,())=FF k0 s0 s1 s2 s3 s4 s5 s6:=Eq.trans (b:=T (L0 k0 k0 (K0 k0 (aA s0 s1 s2 s3 s4 s5 s6))) s0 s1 s2 s3 s4 s5 s6) (by kernel_rfl) (by rw[FF];(try simp only[aK,aS,bW]);try rfl)
def _root_.Go.Rv.JQ:=fun x:U1=>FF (300+x.2.2.2.2.1.length+x.2.2.2.2.2.1.length+x.2.2.2.2.2.2.1.length) x.1 x.2.1 x.2.2.1 x.2.2.2.1 x.2.2.2.2.1 x.2.2.2.2.2.1 x.2.2.2.2.2.2.1
abbrev _root_.Go.Rv.aaJ:aG:=⟨I7,Iw,JQ,[]⟩
theorem _root_.Go.Rv.aaj:aF Dr Tryz.prog 41 aaJ:=dh mix (.c Ai (.c aa2 (.c aak .nil))) (by kernel_rfl) fun x=>⟨ay,_,aQ _ _ _ _ _ _ _ _⟩
end kE
def Ih.T(s:List U7):Option ((List U7)×Unit):=if s.length=0 then(@ite _ (some ([],())=if([]:List U7).length+s.length≤maxRow then some ((([]:List U7)++s),())else none) (Classical.propDecidable _) (if([]:List U7).length+s.length≤maxRow then some ((([]:List U7)++s),())else none) none)else if([]:List U7).length+s.length≤maxRow then some ((([]:List U7)++s),())else none
def Ie:=fun x:(List U7)×Unit=>Ih.T x.1
abbrev ZP:aG:=⟨[.v false [CT.sl aC]],[(false,[CT.sl aC])],Ie,[]⟩
theorem ZN:aF Dr Tryz.prog 110 ZP:=aW mix .nil (by kernel_rfl) fun x=>by kernel_rfl
def Ib.T(s:List U7):Option ((List U7)×Unit):=if s.length=0 then(@ite _ (some ([],())=if([]:List U7).length+s.length≤maxRow then some ((([]:List U7)++s),())else none) (Classical.propDecidable _) (if([]:List U7).length+s.length≤maxRow then some ((([]:List U7)++s),())else none) none)else if([]:List U7).length+s.length≤maxRow then some ((([]:List U7)++s),())else none
def H9:=fun x:(List U7)×Unit=>Ib.T x.1
abbrev ZM:aG:=⟨[.v false [CT.sl aC]],[(false,[CT.sl aC])],H9,[]⟩
theorem ZF:aF Dr Tryz.prog 111 ZM:=aW mix .nil (by kernel_rfl) fun x=>by kernel_rfl
def KX.T(f0:Int)(f1 f2:List U7):Option (U3):=(Ie (f1,())).bind fun y1=>(H9 (f2,())).bind fun y2=>some (f0,y1.1,y2.1,())
def JS:=fun x:U3=>KX.T x.1 x.2.1 x.2.2.1
abbrev aaL:aG:=⟨[.v true eU],[(true,eU)],JS,[]⟩
theorem aam:aF Dr Tryz.prog 86 aaL:=aW mix (.c ZN (.c ZF .nil)) (by kernel_rfl) fun x=>by kernel_rfl
def JK.T(s0 s1 s2 s3:Int)(s4 s5:List U7)(s6:List U8):Option (U1):=(JS (s3,s4,s5,())).bind fun y1=>(Ci (s6,())).bind fun y2=>some (s0,s1,s2,y1.1,y1.2.1,y1.2.2.1,y2.1,())
def Jc:=fun x:U1=>JK.T x.1 x.2.1 x.2.2.1 x.2.2.2.1 x.2.2.2.2.1 x.2.2.2.2.2.1 x.2.2.2.2.2.2.1
abbrev aac:aG:=⟨[.v true iK],[(true,iK)],Jc,[]⟩
theorem ZY:aF Dr Tryz.prog 43 aac:=aW mix (.c aam (.c Q9 .nil)) (by kernel_rfl) fun x=>by kernel_rfl
def zV.T(e0 e1 e2 e3 e4:Int):Option (Bool×Unit):=cond (e2==0) (cond (e0==1) ((je (e3,())).bind fun y1=>(jU (e4,())).bind fun y2=>(gu (e1,())).bind fun y3=>cond y3.1 (cond y1.1 (some (y2.1,())) (some (false,()))) (cond (e0==8) (cond (e1==0) (cond y1.1 (some (y2.1,())) (some (false,()))) (some (false,()))) (some (false,())))) (cond (e0==6) ((je (e3,())).bind fun y4=>(jU (e4,())).bind fun y5=>(gu (e1,())).bind fun y6=>cond y6.1 (cond y4.1 (some (y5.1,())) (some (false,()))) (cond (e0==8) (cond (e1==0) (cond y4.1 (some (y5.1,())) (some (false,()))) (some (false,()))) (some (false,())))) (cond (e0==3) ((je (e3,())).bind fun y7=>(gu (e1,())).bind fun y8=>cond y8.1 (cond (e2==0) (cond y7.1 (some ((e4==0),())) (some (false,()))) (some (false,()))) (cond (e0==8) (cond (e1==0) (cond (e2==0) (cond y7.1 (some ((e4==0),())) (some (false,()))) (some (false,()))) (some (false,()))) (some (false,())))) (cond (e0==8) ((je (e3,())).bind fun y9=>(gu (e1,())).bind fun y10=>cond y10.1 (cond (e2==0) (cond y9.1 (some ((e4==0),())) (some (false,()))) (some (false,()))) (cond (e0==8) (cond (e1==0) (cond (e2==0) (cond y9.1 (some ((e4==0),())) (some (false,()))) (some (false,()))) (some (false,()))) (some (false,())))) (cond (e0==4) ((jU (e3,())).bind fun y11=>(gu (e1,())).bind fun y12=>cond y12.1 (cond (e2==0) (cond y11.1 (some ((e4==0),())) (some (false,()))) (some (false,()))) (cond (e0==8) (cond (e1==0) (cond (e2==0) (cond y11.1 (some ((e4==0),())) (some (false,()))) (some (false,()))) (some (false,()))) (some (false,())))) (cond (e0==5) ((gu (e1,())).bind fun y13=>cond y13.1 (cond (e3==0) (some ((e4==0),())) (some (false,()))) (cond (e0==8) (cond (e1==0) (cond (e3==0) (some ((e4==0),())) (some (false,()))) (some (false,()))) (some (false,())))) (cond (e0==2) ((gu (e1,())).bind fun y14=>cond y14.1 (cond (e2==0) (cond (e3==0) (some ((e4==0),())) (some (false,()))) (some (false,()))) (cond (e0==8) (cond (e1==0) (cond (e2==0) (cond (e3==0) (some ((e4==0),())) (some (false,()))) (some (false,()))) (some (false,()))) (some (false,())))) (cond (e0==7) ((gu (e1,())).bind fun y15=>cond y15.1 (cond (e2==0) (cond (e3==0) (some ((e4==0),())) (some (false,()))) (some (false,()))) (cond (e0==8) (cond (e1==0) (cond (e2==0) (cond (e3==0) (some ((e4==0),())) (some (false,()))) (some (false,()))) (some (false,()))) (some (false,())))) (some (false,())))))))))) ((gu (e2,())).bind fun y16=>cond (e0==1) ((je (e3,())).bind fun y17=>(jU (e4,())).bind fun y18=>(gu (e1,())).bind fun y19=>cond y19.1 (cond y16.1 (cond y17.1 (some (y18.1,())) (some (false,()))) (some (false,()))) (cond (e0==8) (cond (e1==0) (cond y16.1 (cond y17.1 (some (y18.1,())) (some (false,()))) (some (false,()))) (some (false,()))) (some (false,())))) (cond (e0==6) ((je (e3,())).bind fun y20=>(jU (e4,())).bind fun y21=>(gu (e1,())).bind fun y22=>cond y22.1 (cond y16.1 (cond y20.1 (some (y21.1,())) (some (false,()))) (some (false,()))) (cond (e0==8) (cond (e1==0) (cond y16.1 (cond y20.1 (some (y21.1,())) (some (false,()))) (some (false,()))) (some (false,()))) (some (false,())))) (cond (e0==3) ((je (e3,())).bind fun y23=>(gu (e1,())).bind fun y24=>cond y24.1 (cond (e2==0) (cond y23.1 (some ((e4==0),())) (some (false,()))) (some (false,()))) (cond (e0==8) (cond (e1==0) (cond (e2==0) (cond y23.1 (some ((e4==0),())) (some (false,()))) (some (false,()))) (some (false,()))) (some (false,())))) (cond (e0==8) ((je (e3,())).bind fun y25=>(gu (e1,())).bind fun y26=>cond y26.1 (cond (e2==0) (cond y25.1 (some ((e4==0),())) (some (false,()))) (some (false,()))) (cond (e0==8) (cond (e1==0) (cond (e2==0) (cond y25.1 (some ((e4==0),())) (some (false,()))) (some (false,()))) (some (false,()))) (some (false,())))) (cond (e0==4) ((jU (e3,())).bind fun y27=>(gu (e1,())).bind fun y28=>cond y28.1 (cond (e2==0) (cond y27.1 (some ((e4==0),())) (some (false,()))) (some (false,()))) (cond (e0==8) (cond (e1==0) (cond (e2==0) (cond y27.1 (some ((e4==0),())) (some (false,()))) (some (false,()))) (some (false,()))) (some (false,())))) (cond (e0==5) ((gu (e1,())).bind fun y29=>cond y29.1 (cond y16.1 (cond (e3==0) (some ((e4==0),())) (some (false,()))) (some (false,()))) (cond (e0==8) (cond (e1==0) (cond y16.1 (cond (e3==0) (some ((e4==0),())) (some (false,()))) (some (false,()))) (some (false,()))) (some (false,())))) (cond (e0==2) ((gu (e1,())).bind fun y30=>cond y30.1 (cond (e2==0) (cond (e3==0) (some ((e4==0),())) (some (false,()))) (some (false,()))) (cond (e0==8) (cond (e1==0) (cond (e2==0) (cond (e3==0) (some ((e4==0),())) (some (false,()))) (some (false,()))) (some (false,()))) (some (false,())))) (cond (e0==7) ((gu (e1,())).bind fun y31=>cond y31.1 (cond (e2==0) (cond (e3==0) (some ((e4==0),())) (some (false,()))) (some (false,()))) (cond (e0==8) (cond (e1==0) (cond (e2==0) (cond (e3==0) (some ((e4==0),())) (some (false,()))) (some (false,()))) (some (false,()))) (some (false,())))) (some (false,()))))))))))
def oU:=fun x:U5=>zV.T x.1 x.2.1 x.2.2.1 x.2.2.2.1 x.2.2.2.2.1
abbrev abN:aG:=⟨[.v true dJ],[(false,[CT.bool])],oU,[]⟩
theorem aa3:aF Dr Tryz.prog 109 abN:=aW mix (.c Em (.c DR (.c KI .nil))) (by kernel_rfl) fun x=>by kernel_rfl
def UN.T(e0 e1 e2 e3 e4:Int):Option (Bool×Unit):=(oU (e0,e1,e2,e3,e4,())).bind fun y1=>cond y1.1 (cond (e0 != 6) (some (true,())) (some ((decide (e2<e1)),()))) (some (false,()))
def Nj:=fun x:U5=>UN.T x.1 x.2.1 x.2.2.1 x.2.2.2.1 x.2.2.2.2.1
abbrev ac9:aG:=⟨[.v true dJ],[(false,[CT.bool])],Nj,[]⟩
theorem acF:aF Dr Tryz.prog 84 ac9:=aW mix (.c aa3 .nil) (by kernel_rfl) fun x=>by kernel_rfl
def Uw.T(o0 o1 o2 o3 o4:Int):Option (Bool×Unit):=cond (o0==1) ((gu (o1,())).bind fun y1=>cond y1.1 (cond (o2==0) ((je (o3,())).bind fun y2=>cond y2.1 ((jU (o4,())).bind fun y3=>some (y3.1,())) (some (false,()))) ((gu (o2,())).bind fun y4=>cond y4.1 ((je (o3,())).bind fun y5=>cond y5.1 ((jU (o4,())).bind fun y6=>some (y6.1,())) (some (false,()))) (some (false,())))) (some (false,()))) (cond (o0==2) ((gu (o1,())).bind fun y7=>cond y7.1 (some (((o0==2)&&((o1==o1)&&((o2==0)&&((o3==0)&&((o4==0)&&true))))),())) (some (false,()))) (cond (o0==4) (some (((o0==o0)&&((o1==0)&&((o2==0)&&((o3==0)&&((o4==0)&&true))))),())) (cond (o0==5) (some (((o0==o0)&&((o1==0)&&((o2==0)&&((o3==0)&&((o4==0)&&true))))),())) ((mY (o0,o1,o2,o3,o4,())).bind fun y8=>(Nj (y8.1,y8.2.1,y8.2.2.1,y8.2.2.2.1,y8.2.2.2.2.1,())).bind fun y9=>some (y9.1,())))))
def zY:=fun x:U5=>Uw.T x.1 x.2.1 x.2.2.1 x.2.2.2.1 x.2.2.2.2.1
abbrev TI:aG:=⟨[.v true dJ],[(false,[CT.bool])],zY,[]⟩
theorem ab7:aF Dr Tryz.prog 42 TI:=aW mix (.c Em (.c DR (.c KI (.c acF (.c SG .nil))))) (by kernel_rfl) fun x=>by kernel_rfl
abbrev IZ:Is:=[.m iK,.v false [CT.sl dJ]]
abbrev Iu:Os:=[(false,[CT.sl ct0])]
namespace lN
def dF:Tb:=[(42,[],TI),(44,[],⟨Ru,Rl,oQ,[]⟩)]
def ay:Nat→List Nat×List Nat:=fun k=>if k=3 then([0,5,9,10,11],[5])else([],[])
def zrc{R:Type}(k0:Nat)(p:List Nat):Env→List Ob→ai R→Option R:=bD Tryz.prog (aP dF) 29 4 ay k0 (bQ p (cZ Tryz.prog 50))
def R0{R:Type}(nx1:Gm R)(nx0:Gl R)(ex0:Gj R)(t9x:List U5)(t10x t11x s s7 s8 s9:Int)(o1 o2:List U7)(o3 out:List U8):Option R:=cond (decide (t11x<t10x)) (if 0≤t11x∧t11x<(t9x.length:Int)then(zY ((rd (0,0,0,0,0,()) t9x t11x).1,(rd (0,0,0,0,0,()) t9x t11x).2.1,(rd (0,0,0,0,0,()) t9x t11x).2.2.1,(rd (0,0,0,0,0,()) t9x t11x).2.2.2.1,(rd (0,0,0,0,0,()) t9x t11x).2.2.2.2.1,())).bind fun y1=>cond y1.1 ((oQ (s,s7,s8,s9,o1,o2,o3,(rd (0,0,0,0,0,()) t9x t11x).1,(rd (0,0,0,0,0,()) t9x t11x).2.1,(rd (0,0,0,0,0,()) t9x t11x).2.2.1,(rd (0,0,0,0,0,()) t9x t11x).2.2.2.1,(rd (0,0,0,0,0,()) t9x t11x).2.2.2.2.1,())).bind fun y2=>if out.length+[(y2.1,y2.2.1,y2.2.2.1,())].length≤maxRow then nx1 t9x t10x (af (t11x+1)) y2.2.2.2.1 y2.2.2.2.2.1 y2.2.2.2.2.2.1 y2.2.2.2.2.2.2.1 (out++[(y2.1,y2.2.1,y2.2.2.1,())]) y2.2.2.2.2.2.2.2.1 y2.2.2.2.2.2.2.2.2.1 y2.2.2.2.2.2.2.2.2.2.1 else none) (if out.length+[(0,0,1,())].length≤maxRow then nx0 t9x t10x (af (t11x+1)) s s7 s8 s9 o1 o2 o3 (out++[(0,0,1,())])else none)else none) (ex0 s s7 s8 s9 o1 o2 o3 out)
def R1{R:Type}(nx1:Gm R)(ex1:Gi R)(t9x:List U5)(t10x t11x s s7 s8 s9:Int)(out:List U8)(o5 o6:List U7)(o7:List U8):Option R:=cond (decide (t11x<t10x)) (if 0≤t11x∧t11x<(t9x.length:Int)then(zY ((rd (0,0,0,0,0,()) t9x t11x).1,(rd (0,0,0,0,0,()) t9x t11x).2.1,(rd (0,0,0,0,0,()) t9x t11x).2.2.1,(rd (0,0,0,0,0,()) t9x t11x).2.2.2.1,(rd (0,0,0,0,0,()) t9x t11x).2.2.2.2.1,())).bind fun y1=>cond y1.1 ((oQ (s,s7,s8,s9,o5,o6,o7,(rd (0,0,0,0,0,()) t9x t11x).1,(rd (0,0,0,0,0,()) t9x t11x).2.1,(rd (0,0,0,0,0,()) t9x t11x).2.2.1,(rd (0,0,0,0,0,()) t9x t11x).2.2.2.1,(rd (0,0,0,0,0,()) t9x t11x).2.2.2.2.1,())).bind fun y2=>if out.length+[(y2.1,y2.2.1,y2.2.2.1,())].length≤maxRow then nx1 t9x t10x (af (t11x+1)) y2.2.2.2.1 y2.2.2.2.2.1 y2.2.2.2.2.2.1 y2.2.2.2.2.2.2.1 (out++[(y2.1,y2.2.1,y2.2.2.1,())]) y2.2.2.2.2.2.2.2.1 y2.2.2.2.2.2.2.2.2.1 y2.2.2.2.2.2.2.2.2.2.1 else none) (if out.length+[(0,0,1,())].length≤maxRow then nx1 t9x t10x (af (t11x+1)) s s7 s8 s9 (out++[(0,0,1,())]) o5 o6 o7 else none)else none) (ex1 s s7 s8 s9 out o5 o6 o7)
def A0(s0 s1 s2 s3:Int)(s4 s5:List U7)(s6:List U8)(list:List U5)(o0 o02 o03 o04:Int)(o1 o2:List U7)(o3 out:List U8):Option ((List U8)×U1):=some (out,o0,o02,o03,o04,o1,o2,o3,())
def A1(s0 s1 s2 s3:Int)(s4 s5:List U7)(s6:List U8)(list:List U5)(o0 o02 o03 o04:Int)(out:List U8)(o5 o6:List U7)(o7:List U8):Option ((List U8)×U1):=some (out,o0,o02,o03,o04,o5,o6,o7,())
def T(lo0:Gl ((List U8)×U1))(s0 s1 s2 s3:Int)(s4 s5:List U7)(s6:List U8)(list:List U5):Option ((List U8)×U1):=lo0 list (list.length:Int) 0 s0 s1 s2 s3 s4 s5 s6 ([]:List U8)
def K0{R:Type}(k0:Nat)(K:ai R):ai R:=aY 0 (bg (fun env ob=>zrc k0 [1,1,1] env ob (K)) (K))
def L0:Gl R:=fun t9x t10x t11x s s7 s8 s9 o1 o2 o3 out=>iter 4 [0,5,9,10,11] [5] (zrc k0 [1,1,0,1,0,0]) k [(0,.ptr 0 0 0 0),(5,.own 4),(9,.sl dJ t9x),(10,.int .i64 t10x),(11,.int .i64 t11x)] [.box [.int .i64 s,.int .i64 s7,.int .i64 s8,.int .i64 s9,.own 1,.own 2,.own 3],.arr aC o1,.arr aC o2,.arr ct0 o3,.arr ct0 out] K
def L1:Gm R:=fun t9x t10x t11x s s7 s8 s9 out o5 o6 o7=>iter 4 [0,5,9,10,11] [5] (zrc k0 [1,1,0,1,0,0]) k [(0,.ptr 0 0 0 0),(5,.own 4),(9,.sl dJ t9x),(10,.int .i64 t10x),(11,.int .i64 t11x)] [.box [.int .i64 s,.int .i64 s7,.int .i64 s8,.int .i64 s9,.own 5,.own 6,.own 7],.dead,.dead,.dead,.arr ct0 out,.arr aC o5,.arr aC o6,.arr ct0 o7] K
def H0:Gj R:=fun o0 o02 o03 o04 o1 o2 o3 out=>K (.exit 0) [(5,.own 4)] [.box [.int .i64 o0,.int .i64 o02,.int .i64 o03,.int .i64 o04,.own 1,.own 2,.own 3],.arr aC o1,.arr aC o2,.arr ct0 o3,.arr ct0 out]
def H1:Gi R:=fun o0 o02 o03 o04 out o5 o6 o7=>K (.exit 0) [(5,.own 4)] [.box [.int .i64 o0,.int .i64 o02,.int .i64 o03,.int .i64 o04,.own 5,.own 6,.own 7],.dead,.dead,.dead,.arr ct0 out,.arr aC o5,.arr aC o6,.arr ct0 o7]
theorem zs0:L0 k0 (k+1) K=R0 (L1 k0 k K) (L0 k0 k K) (H0 K):=by kernel_rfl
theorem zs1:L1 k0 (k+1) K=R1 (L1 k0 k K) (H1 K):=by kernel_rfl
def G1{R:Type}(k0:Nat)(hx0:Gj R)(hx1:Gi R):Nat→Gm R
 |0=>fun _ _ _ _ _ _ _ _ _ _ _=>none
 |k+1=>R1 (G1 k0 hx0 hx1 k) hx1
theorem dO:∀ k,L1 k0 k K=G1 k0 (H0 K) (H1 K) k:=bG rfl fun k ih=>by rw[zs1,G1];(try simp only[ih]);try rfl
def G0{R:Type}(k0:Nat)(hx0:Gj R)(hx1:Gi R):Nat→Gl R
 |0=>fun _ _ _ _ _ _ _ _ _ _ _=>none
 |k+1=>R0 (G1 k0 hx0 hx1 k) (G0 k0 hx0 hx1 k) hx0
theorem aK:∀ k,L0 k0 k K=G0 k0 (H0 K) (H1 K) k:=bG rfl fun k ih=>by rw[zs0,G0];(try simp only[ih,dO]);try rfl
variable (s0 s1 s2 s3:Int) (s4 s5:List U7) (s6:List U8) (list:List U5)
def aA:ai ((List U8)×U1):=bV Tryz.prog [.tmp 4] IZ Iu (s0,s1,s2,s3,s4,s5,s6,list,())
theorem aS:H0 (K0 k0 (aA s0 s1 s2 s3 s4 s5 s6 list))=A0 s0 s1 s2 s3 s4 s5 s6 list:=by kernel_rfl
theorem bW:H1 (K0 k0 (aA s0 s1 s2 s3 s4 s5 s6 list))=A1 s0 s1 s2 s3 s4 s5 s6 list:=by kernel_rfl
def FF:Option ((List U8)×U1):=T (G0 k0 (A0 s0 s1 s2 s3 s4 s5 s6 list) (A1 s0 s1 s2 s3 s4 s5 s6 list) k0) s0 s1 s2 s3 s4 s5 s6 list
theorem aQ:bZ Tryz.prog (aP dF) ay k0 50 IZ Iu [] (s0,s1,s2,s3,s4,s5,s6,list,())=FF k0 s0 s1 s2 s3 s4 s5 s6 list:=Eq.trans (b:=T (L0 k0 k0 (K0 k0 (aA s0 s1 s2 s3 s4 s5 s6 list))) s0 s1 s2 s3 s4 s5 s6 list) (by kernel_rfl) (by rw[FF];(try simp only[dO,aK,aS,bW]);try rfl)
def _root_.Go.Rv.CX:=fun x:Int×Int×Int×Int×(List U7)×(List U7)×(List U8)×(List U5)×Unit=>FF (300+x.2.2.2.2.1.length+x.2.2.2.2.2.1.length+x.2.2.2.2.2.2.1.length+x.2.2.2.2.2.2.2.1.length) x.1 x.2.1 x.2.2.1 x.2.2.2.1 x.2.2.2.2.1 x.2.2.2.2.2.1 x.2.2.2.2.2.2.1 x.2.2.2.2.2.2.2.1
abbrev _root_.Go.Rv.aaI:aG:=⟨IZ,Iu,CX,[]⟩
theorem _root_.Go.Rv.aai:aF KN Tryz.prog 50 aaI:=dh mix (.c ab7 (.c RI .nil)) (by kernel_rfl) fun x=>⟨ay,_,aQ _ _ _ _ _ _ _ _ _⟩
end lN
def MG.T(s0 s1 s2 s3:Int)(s4 s5:List U7)(s6:List U8)(list:List U5):Option ((List U8)×Unit):=(JQ (s0,s1,s2,s3,s4,s5,s6,())).bind fun y1=>cond (!y1.1) (some ([],())) (cond (decide ((list.length:Int)>300)) (some ([],())) ((Jc (s0,s1,s2,s3,s4,s5,s6,())).bind fun y2=>(CX (y2.1,y2.2.1,y2.2.2.1,y2.2.2.2.1,y2.2.2.2.2.1,y2.2.2.2.2.2.1,y2.2.2.2.2.2.2.1,list,())).bind fun y3=>some (y3.1,())))
def zI:=fun x:Int×Int×Int×Int×(List U7)×(List U7)×(List U8)×(List U5)×Unit=>MG.T x.1 x.2.1 x.2.2.1 x.2.2.2.1 x.2.2.2.2.1 x.2.2.2.2.2.1 x.2.2.2.2.2.2.1 x.2.2.2.2.2.2.2.1
abbrev abM:aG:=⟨[.v true iK,.v false [CT.sl dJ]],[(false,[CT.sl ct0])],zI,[]⟩
theorem aaW:aF KN Tryz.prog 19 abM:=aW mix (.c aaj (.c ZY (.c aai .nil))) (by kernel_rfl) fun x=>by kernel_rfl
def TW.T(a0 a1 a2 b0 b1 b2:Int):Option (Bool×Unit):=cond (a0 != b0) (some (false,())) (cond (a1 != b1) (some (false,())) (cond (a2 != b2) (some (false,())) (some (true,()))))
def DN:=fun x:Int×U5=>TW.T x.1 x.2.1 x.2.2.1 x.2.2.2.1 x.2.2.2.2.1 x.2.2.2.2.2.1
abbrev LX:aG:=⟨[.v true ct0,.v true ct0],[(false,[CT.bool])],DN,[]⟩
theorem abB:aF Dr Tryz.prog 51 LX:=aW mix .nil (by kernel_rfl) fun x=>by kernel_rfl
abbrev JG:Is:=[.v false [CT.sl ct0],.v false [CT.sl ct0]]
abbrev Jh:Os:=[(false,[CT.bool])]
namespace mX
def ay:Nat→List Nat×List Nat:=fun k=>if k=4 then([0,1,5],[4])else([],[])
def zrc{R:Type}(k0:Nat)(p:List Nat):Env→List Ob→ai R→Option R:=bD Tryz.prog (aP [(51,[],LX)]) 27 0 ay k0 (bQ p (cZ Tryz.prog 20))
def R0{R:Type}(nx0:uw R)(ex0:eX R)(ex1:dB R)(a2 b2:List U8)(i:Int):Option R:=cond (decide (i<(a2.length:Int))) (if 0≤i∧i<(a2.length:Int)then if 0≤i∧i<(b2.length:Int)then(DN ((rd (0,0,0,()) a2 i).1,(rd (0,0,0,()) a2 i).2.1,(rd (0,0,0,()) a2 i).2.2.1,(rd (0,0,0,()) b2 i).1,(rd (0,0,0,()) b2 i).2.1,(rd (0,0,0,()) b2 i).2.2.1,())).bind fun y1=>cond (!y1.1) (ex0 false) (nx0 a2 b2 (af (i+1)))else none else none) (ex1 ())
def A0(a b:List U8)(t4x:Bool):Option (Bool×Unit):=some (t4x,())
def A1(a b:List U8)(_u:Unit):Option (Bool×Unit):=some (true,())
def T(lo0:uw (Bool×Unit))(a b:List U8):Option (Bool×Unit):=cond ((a.length:Int) != (b.length:Int)) (some (false,())) (lo0 a b 0)
def K0{R:Type}(k0:Nat)(K:ai R):ai R:=aY 0 (bg (fun env ob=>zrc k0 [1,1,1] env ob (K)) (K))
def L0:uw R:=fun a2 b2 i=>iter 0 [0,1,5] [4] (zrc k0 [1,1,0,1,0,0]) k [(0,.sl ct0 a2),(1,.sl ct0 b2),(5,.int .i64 i)] [] K
def H0:eX R:=fun t4x=>K .ret [(4,.bool t4x)] []
def H1:dB R:=fun _=>K (.exit 0) [(4,.undef)] []
theorem zs0:L0 k0 (k+1) K=R0 (L0 k0 k K) (H0 K) (H1 K):=by kernel_rfl
def G0{R:Type}(k0:Nat)(hx0:eX R)(hx1:dB R):Nat→uw R
 |0=>fun _ _ _=>none
 |k+1=>R0 (G0 k0 hx0 hx1 k) hx0 hx1
theorem aK:∀ k,L0 k0 k K=G0 k0 (H0 K) (H1 K) k:=bG rfl fun k ih=>by rw[zs0,G0];(try simp only[ih]);try rfl
variable (a b:List U8)
def aA:ai (Bool×Unit):=bV Tryz.prog [.tmp 4] JG Jh (a,b,())
theorem aS:H0 (K0 k0 (aA a b))=A0 a b:=by kernel_rfl
theorem bW:H1 (K0 k0 (aA a b))=A1 a b:=by kernel_rfl
def FF:Option (Bool×Unit):=T (G0 k0 (A0 a b) (A1 a b) k0) a b
theorem aQ:bZ Tryz.prog (aP [(51,[],LX)]) ay k0 20 JG Jh [] (a,b,())=FF k0 a b:=Eq.trans (b:=T (L0 k0 k0 (K0 k0 (aA a b))) a b) (by kernel_rfl) (by rw[FF];(try simp only[aK,aS,bW]);try rfl)
def _root_.Go.Rv.zG:=fun x:(List U8)×(List U8)×Unit=>FF (300+x.1.length+x.2.1.length) x.1 x.2.1
abbrev _root_.Go.Rv.abL:aG:=⟨JG,Jh,zG,[]⟩
theorem _root_.Go.Rv.aaU:aF Dr Tryz.prog 20 abL:=dh mix (.c abB .nil) (by kernel_rfl) fun x=>⟨ay,_,aQ _ _ _⟩
end mX
def VQ.T(a0 a1 a2 a3 a4 b0 b1 b2 b3 b4:Int):Option (Bool×Unit):=cond (a0 != b0) (some (false,())) (cond (a1 != b1) (some (false,())) (cond (a2 != b2) (some (false,())) (cond (a3 != b3) (some (false,())) (cond (a4 != b4) (some (false,())) (some (true,()))))))
def Et:=fun x:Int×Int×Int×Int×Int×U5=>VQ.T x.1 x.2.1 x.2.2.1 x.2.2.2.1 x.2.2.2.2.1 x.2.2.2.2.2.1 x.2.2.2.2.2.2.1 x.2.2.2.2.2.2.2.1 x.2.2.2.2.2.2.2.2.1 x.2.2.2.2.2.2.2.2.2.1
abbrev ND:aG:=⟨[.v true dJ,.v true dJ],[(false,[CT.bool])],Et,[]⟩
theorem adk:aF Dr Tryz.prog 52 ND:=aW mix .nil (by kernel_rfl) fun x=>by kernel_rfl
abbrev MB:Is:=[.v false [CT.sl dJ],.v false [CT.sl dJ]]
abbrev Lm:Os:=[(false,[CT.bool])]
namespace nD
def ay:Nat→List Nat×List Nat:=fun k=>if k=4 then([0,1,5],[4])else([],[])
def zrc{R:Type}(k0:Nat)(p:List Nat):Env→List Ob→ai R→Option R:=bD Tryz.prog (aP [(52,[],ND)]) 27 0 ay k0 (bQ p (cZ Tryz.prog 21))
def R0{R:Type}(nx0:Gg R)(ex0:eX R)(ex1:dB R)(a2 b2:List U5)(i:Int):Option R:=cond (decide (i<(a2.length:Int))) (if 0≤i∧i<(a2.length:Int)then if 0≤i∧i<(b2.length:Int)then(Et ((rd (0,0,0,0,0,()) a2 i).1,(rd (0,0,0,0,0,()) a2 i).2.1,(rd (0,0,0,0,0,()) a2 i).2.2.1,(rd (0,0,0,0,0,()) a2 i).2.2.2.1,(rd (0,0,0,0,0,()) a2 i).2.2.2.2.1,(rd (0,0,0,0,0,()) b2 i).1,(rd (0,0,0,0,0,()) b2 i).2.1,(rd (0,0,0,0,0,()) b2 i).2.2.1,(rd (0,0,0,0,0,()) b2 i).2.2.2.1,(rd (0,0,0,0,0,()) b2 i).2.2.2.2.1,())).bind fun y1=>cond (!y1.1) (ex0 false) (nx0 a2 b2 (af (i+1)))else none else none) (ex1 ())
def A0(a b:List U5)(t4x:Bool):Option (Bool×Unit):=some (t4x,())
def A1(a b:List U5)(_u:Unit):Option (Bool×Unit):=some (true,())
def T(lo0:Gg (Bool×Unit))(a b:List U5):Option (Bool×Unit):=cond ((a.length:Int) != (b.length:Int)) (some (false,())) (lo0 a b 0)
def K0{R:Type}(k0:Nat)(K:ai R):ai R:=aY 0 (bg (fun env ob=>zrc k0 [1,1,1] env ob (K)) (K))
def L0:Gg R:=fun a2 b2 i=>iter 0 [0,1,5] [4] (zrc k0 [1,1,0,1,0,0]) k [(0,.sl dJ a2),(1,.sl dJ b2),(5,.int .i64 i)] [] K
def H0:eX R:=fun t4x=>K .ret [(4,.bool t4x)] []
def H1:dB R:=fun _=>K (.exit 0) [(4,.undef)] []
theorem zs0:L0 k0 (k+1) K=R0 (L0 k0 k K) (H0 K) (H1 K):=by kernel_rfl
def G0{R:Type}(k0:Nat)(hx0:eX R)(hx1:dB R):Nat→Gg R
 |0=>fun _ _ _=>none
 |k+1=>R0 (G0 k0 hx0 hx1 k) hx0 hx1
theorem aK:∀ k,L0 k0 k K=G0 k0 (H0 K) (H1 K) k:=bG rfl fun k ih=>by rw[zs0,G0];(try simp only[ih]);try rfl
variable (a b:List U5)
def aA:ai (Bool×Unit):=bV Tryz.prog [.tmp 4] MB Lm (a,b,())
theorem aS:H0 (K0 k0 (aA a b))=A0 a b:=by kernel_rfl
theorem bW:H1 (K0 k0 (aA a b))=A1 a b:=by kernel_rfl
def FF:Option (Bool×Unit):=T (G0 k0 (A0 a b) (A1 a b) k0) a b
theorem aQ:bZ Tryz.prog (aP [(52,[],ND)]) ay k0 21 MB Lm [] (a,b,())=FF k0 a b:=Eq.trans (b:=T (L0 k0 k0 (K0 k0 (aA a b))) a b) (by kernel_rfl) (by rw[FF];(try simp only[aK,aS,bW]);try rfl)
def _root_.Go.Rv.Nq:=fun x:(List U5)×(List U5)×Unit=>FF (300+x.1.length+x.2.1.length) x.1 x.2.1
abbrev _root_.Go.Rv.adu:aG:=⟨MB,Lm,Nq,[]⟩
theorem _root_.Go.Rv.acY:aF Dr Tryz.prog 21 adu:=dh mix (.c adk .nil) (by kernel_rfl) fun x=>⟨ay,_,aQ _ _ _⟩
end nD
abbrev KW:Is:=[.w false [CT.sl dJ],.v false [CT.int .i64]]
abbrev J5:Os:=[(false,[CT.int .i64])]
namespace ni
def ay:Nat→List Nat×List Nat:=fun k=>if k=2 then([0,1,5],[1])else([],[])
def zrc{R:Type}(k0:Nat)(p:List Nat):Env→List Ob→ai R→Option R:=bD Tryz.prog (aP []) 48 1 ay k0 (bQ p (cZ Tryz.prog 22))
def R0{R:Type}(nx0:Gf R)(ex0:Qr R)(kx i:Int)(a2:List U5):Option R:=cond (decide (i<(a2.length:Int))) (if 0≤i∧i<(a2.length:Int)then if 0≤i∧i<((a2.set i.toNat (fF (a2.getD i.toNat (0,0,0,0,0,())) kx)).length:Int)then if 0≤i∧i<(((a2.set i.toNat (fF (a2.getD i.toNat (0,0,0,0,0,())) kx)).set i.toNat (kS ((a2.set i.toNat (fF (a2.getD i.toNat (0,0,0,0,0,())) kx)).getD i.toNat (0,0,0,0,0,())) (af (kx+1)))).length:Int)then if 0≤i∧i<((((a2.set i.toNat (fF (a2.getD i.toNat (0,0,0,0,0,())) kx)).set i.toNat (kS ((a2.set i.toNat (fF (a2.getD i.toNat (0,0,0,0,0,())) kx)).getD i.toNat (0,0,0,0,0,())) (af (kx+1)))).set i.toNat (vT (((a2.set i.toNat (fF (a2.getD i.toNat (0,0,0,0,0,())) kx)).set i.toNat (kS ((a2.set i.toNat (fF (a2.getD i.toNat (0,0,0,0,0,())) kx)).getD i.toNat (0,0,0,0,0,())) (af (kx+1)))).getD i.toNat (0,0,0,0,0,())) (af ((af (kx+1))+1)))).length:Int)then if 0≤i∧i<(((((a2.set i.toNat (fF (a2.getD i.toNat (0,0,0,0,0,())) kx)).set i.toNat (kS ((a2.set i.toNat (fF (a2.getD i.toNat (0,0,0,0,0,())) kx)).getD i.toNat (0,0,0,0,0,())) (af (kx+1)))).set i.toNat (vT (((a2.set i.toNat (fF (a2.getD i.toNat (0,0,0,0,0,())) kx)).set i.toNat (kS ((a2.set i.toNat (fF (a2.getD i.toNat (0,0,0,0,0,())) kx)).getD i.toNat (0,0,0,0,0,())) (af (kx+1)))).getD i.toNat (0,0,0,0,0,())) (af ((af (kx+1))+1)))).set i.toNat (Qd ((((a2.set i.toNat (fF (a2.getD i.toNat (0,0,0,0,0,())) kx)).set i.toNat (kS ((a2.set i.toNat (fF (a2.getD i.toNat (0,0,0,0,0,())) kx)).getD i.toNat (0,0,0,0,0,())) (af (kx+1)))).set i.toNat (vT (((a2.set i.toNat (fF (a2.getD i.toNat (0,0,0,0,0,())) kx)).set i.toNat (kS ((a2.set i.toNat (fF (a2.getD i.toNat (0,0,0,0,0,())) kx)).getD i.toNat (0,0,0,0,0,())) (af (kx+1)))).getD i.toNat (0,0,0,0,0,())) (af ((af (kx+1))+1)))).getD i.toNat (0,0,0,0,0,())) (af ((af ((af (kx+1))+1))+1)))).length:Int)then nx0 (af ((af ((af ((af ((af (kx+1))+1))+1))+1))+1)) (af (i+1)) (((((a2.set i.toNat (fF (a2.getD i.toNat (0,0,0,0,0,())) kx)).set i.toNat (kS ((a2.set i.toNat (fF (a2.getD i.toNat (0,0,0,0,0,())) kx)).getD i.toNat (0,0,0,0,0,())) (af (kx+1)))).set i.toNat (vT (((a2.set i.toNat (fF (a2.getD i.toNat (0,0,0,0,0,())) kx)).set i.toNat (kS ((a2.set i.toNat (fF (a2.getD i.toNat (0,0,0,0,0,())) kx)).getD i.toNat (0,0,0,0,0,())) (af (kx+1)))).getD i.toNat (0,0,0,0,0,())) (af ((af (kx+1))+1)))).set i.toNat (Qd ((((a2.set i.toNat (fF (a2.getD i.toNat (0,0,0,0,0,())) kx)).set i.toNat (kS ((a2.set i.toNat (fF (a2.getD i.toNat (0,0,0,0,0,())) kx)).getD i.toNat (0,0,0,0,0,())) (af (kx+1)))).set i.toNat (vT (((a2.set i.toNat (fF (a2.getD i.toNat (0,0,0,0,0,())) kx)).set i.toNat (kS ((a2.set i.toNat (fF (a2.getD i.toNat (0,0,0,0,0,())) kx)).getD i.toNat (0,0,0,0,0,())) (af (kx+1)))).getD i.toNat (0,0,0,0,0,())) (af ((af (kx+1))+1)))).getD i.toNat (0,0,0,0,0,())) (af ((af ((af (kx+1))+1))+1)))).set i.toNat (ahr (((((a2.set i.toNat (fF (a2.getD i.toNat (0,0,0,0,0,())) kx)).set i.toNat (kS ((a2.set i.toNat (fF (a2.getD i.toNat (0,0,0,0,0,())) kx)).getD i.toNat (0,0,0,0,0,())) (af (kx+1)))).set i.toNat (vT (((a2.set i.toNat (fF (a2.getD i.toNat (0,0,0,0,0,())) kx)).set i.toNat (kS ((a2.set i.toNat (fF (a2.getD i.toNat (0,0,0,0,0,())) kx)).getD i.toNat (0,0,0,0,0,())) (af (kx+1)))).getD i.toNat (0,0,0,0,0,())) (af ((af (kx+1))+1)))).set i.toNat (Qd ((((a2.set i.toNat (fF (a2.getD i.toNat (0,0,0,0,0,())) kx)).set i.toNat (kS ((a2.set i.toNat (fF (a2.getD i.toNat (0,0,0,0,0,())) kx)).getD i.toNat (0,0,0,0,0,())) (af (kx+1)))).set i.toNat (vT (((a2.set i.toNat (fF (a2.getD i.toNat (0,0,0,0,0,())) kx)).set i.toNat (kS ((a2.set i.toNat (fF (a2.getD i.toNat (0,0,0,0,0,())) kx)).getD i.toNat (0,0,0,0,0,())) (af (kx+1)))).getD i.toNat (0,0,0,0,0,())) (af ((af (kx+1))+1)))).getD i.toNat (0,0,0,0,0,())) (af ((af ((af (kx+1))+1))+1)))).getD i.toNat (0,0,0,0,0,())) (af ((af ((af ((af (kx+1))+1))+1))+1))))else none else none else none else none else none) (ex0 kx a2)
def A0(a:List U5)(ak:Int)(kx:Int)(o0:List U5):Option (Int×(List U5)×Unit):=some (kx,o0,())
def T(lo0:Gf (Int×(List U5)×Unit))(a:List U5)(ak:Int):Option (Int×(List U5)×Unit):=lo0 ak 0 a
def K0{R:Type}(k0:Nat)(K:ai R):ai R:=aY 0 (bg (fun env ob=>zrc k0 [1,1] env ob (K)) (K))
def L0:Gf R:=fun kx i a2=>iter 1 [0,1,5] [1] (zrc k0 [1,0,1,0,0]) k [(0,.own 0),(1,.int .i64 kx),(5,.int .i64 i)] [.arr dJ a2] K
def H0:Qr R:=fun kx o0=>K (.exit 0) [(1,.int .i64 kx)] [.arr dJ o0]
theorem zs0:L0 k0 (k+1) K=R0 (L0 k0 k K) (H0 K):=by kernel_rfl
def G0{R:Type}(k0:Nat)(hx0:Qr R):Nat→Gf R
 |0=>fun _ _ _=>none
 |k+1=>R0 (G0 k0 hx0 k) hx0
theorem aK:∀ k,L0 k0 k K=G0 k0 (H0 K) k:=bG rfl fun k ih=>by rw[zs0,G0];(try simp only[ih]);try rfl
variable (a:List U5) (ak:Int)
def aA:ai (Int×(List U5)×Unit):=bV Tryz.prog [.tmp 4] KW J5 (a,ak,())
theorem aS:H0 (K0 k0 (aA a ak))=A0 a ak:=by kernel_rfl
def FF:Option (Int×(List U5)×Unit):=T (G0 k0 (A0 a ak) k0) a ak
theorem aQ:bZ Tryz.prog (aP []) ay k0 22 KW J5 [] (a,ak,())=FF k0 a ak:=Eq.trans (b:=T (L0 k0 k0 (K0 k0 (aA a ak))) a ak) (by kernel_rfl) (by rw[FF];(try simp only[aK,aS]);try rfl)
def _root_.Go.Rv.MR:=fun x:(List U5)×Int×Unit=>FF (300+x.1.length) x.1 x.2.1
abbrev _root_.Go.Rv.acL:aG:=⟨KW,J5,MR,[]⟩
theorem _root_.Go.Rv.abZ:aF Dr Tryz.prog 22 acL:=dh mix .nil (by kernel_rfl) fun x=>⟨ay,_,aQ _ _ _⟩
end ni
abbrev IX:Is:=[.w false [CT.sl ct0],.v false [CT.int .i64]]
abbrev Iq:Os:=[(false,[CT.int .i64])]
namespace mG
def ay:Nat→List Nat×List Nat:=fun k=>if k=2 then([0,1,5],[1])else([],[])
def zrc{R:Type}(k0:Nat)(p:List Nat):Env→List Ob→ai R→Option R:=bD Tryz.prog (aP []) 34 1 ay k0 (bQ p (cZ Tryz.prog 23))
def R0{R:Type}(nx0:uo R)(ex0:zh R)(kx i:Int)(a2:List U8):Option R:=cond (decide (i<(a2.length:Int))) (if 0≤i∧i<(a2.length:Int)then if 0≤i∧i<((a2.set i.toNat (kx,(a2.getD i.toNat (0,0,0,())).2.1,(a2.getD i.toNat (0,0,0,())).2.2.1,())).length:Int)then if 0≤i∧i<(((a2.set i.toNat (kx,(a2.getD i.toNat (0,0,0,())).2.1,(a2.getD i.toNat (0,0,0,())).2.2.1,())).set i.toNat (((a2.set i.toNat (kx,(a2.getD i.toNat (0,0,0,())).2.1,(a2.getD i.toNat (0,0,0,())).2.2.1,())).getD i.toNat (0,0,0,())).1,(af (kx+1)),((a2.set i.toNat (kx,(a2.getD i.toNat (0,0,0,())).2.1,(a2.getD i.toNat (0,0,0,())).2.2.1,())).getD i.toNat (0,0,0,())).2.2.1,())).length:Int)then nx0 (af ((af ((af (kx+1))+1))+1)) (af (i+1)) (((a2.set i.toNat (kx,(a2.getD i.toNat (0,0,0,())).2.1,(a2.getD i.toNat (0,0,0,())).2.2.1,())).set i.toNat (((a2.set i.toNat (kx,(a2.getD i.toNat (0,0,0,())).2.1,(a2.getD i.toNat (0,0,0,())).2.2.1,())).getD i.toNat (0,0,0,())).1,(af (kx+1)),((a2.set i.toNat (kx,(a2.getD i.toNat (0,0,0,())).2.1,(a2.getD i.toNat (0,0,0,())).2.2.1,())).getD i.toNat (0,0,0,())).2.2.1,())).set i.toNat ((((a2.set i.toNat (kx,(a2.getD i.toNat (0,0,0,())).2.1,(a2.getD i.toNat (0,0,0,())).2.2.1,())).set i.toNat (((a2.set i.toNat (kx,(a2.getD i.toNat (0,0,0,())).2.1,(a2.getD i.toNat (0,0,0,())).2.2.1,())).getD i.toNat (0,0,0,())).1,(af (kx+1)),((a2.set i.toNat (kx,(a2.getD i.toNat (0,0,0,())).2.1,(a2.getD i.toNat (0,0,0,())).2.2.1,())).getD i.toNat (0,0,0,())).2.2.1,())).getD i.toNat (0,0,0,())).1,(((a2.set i.toNat (kx,(a2.getD i.toNat (0,0,0,())).2.1,(a2.getD i.toNat (0,0,0,())).2.2.1,())).set i.toNat (((a2.set i.toNat (kx,(a2.getD i.toNat (0,0,0,())).2.1,(a2.getD i.toNat (0,0,0,())).2.2.1,())).getD i.toNat (0,0,0,())).1,(af (kx+1)),((a2.set i.toNat (kx,(a2.getD i.toNat (0,0,0,())).2.1,(a2.getD i.toNat (0,0,0,())).2.2.1,())).getD i.toNat (0,0,0,())).2.2.1,())).getD i.toNat (0,0,0,())).2.1,(af ((af (kx+1))+1)),()))else none else none else none) (ex0 kx a2)
def A0(a:List U8)(ak:Int)(kx:Int)(o0:List U8):Option (Int×(List U8)×Unit):=some (kx,o0,())
def T(lo0:uo (Int×(List U8)×Unit))(a:List U8)(ak:Int):Option (Int×(List U8)×Unit):=lo0 ak 0 a
def K0{R:Type}(k0:Nat)(K:ai R):ai R:=aY 0 (bg (fun env ob=>zrc k0 [1,1] env ob (K)) (K))
def L0:uo R:=fun kx i a2=>iter 1 [0,1,5] [1] (zrc k0 [1,0,1,0,0]) k [(0,.own 0),(1,.int .i64 kx),(5,.int .i64 i)] [.arr ct0 a2] K
def H0:zh R:=fun kx o0=>K (.exit 0) [(1,.int .i64 kx)] [.arr ct0 o0]
theorem zs0:L0 k0 (k+1) K=R0 (L0 k0 k K) (H0 K):=by kernel_rfl
def G0{R:Type}(k0:Nat)(hx0:zh R):Nat→uo R
 |0=>fun _ _ _=>none
 |k+1=>R0 (G0 k0 hx0 k) hx0
theorem aK:∀ k,L0 k0 k K=G0 k0 (H0 K) k:=bG rfl fun k ih=>by rw[zs0,G0];(try simp only[ih]);try rfl
variable (a:List U8) (ak:Int)
def aA:ai (Int×(List U8)×Unit):=bV Tryz.prog [.tmp 4] IX Iq (a,ak,())
theorem aS:H0 (K0 k0 (aA a ak))=A0 a ak:=by kernel_rfl
def FF:Option (Int×(List U8)×Unit):=T (G0 k0 (A0 a ak) k0) a ak
theorem aQ:bZ Tryz.prog (aP []) ay k0 23 IX Iq [] (a,ak,())=FF k0 a ak:=Eq.trans (b:=T (L0 k0 k0 (K0 k0 (aA a ak))) a ak) (by kernel_rfl) (by rw[FF];(try simp only[aK,aS]);try rfl)
def _root_.Go.Rv.JP:=fun x:(List U8)×Int×Unit=>FF (300+x.1.length) x.1 x.2.1
abbrev _root_.Go.Rv.aaG:aG:=⟨IX,Iq,JP,[]⟩
theorem _root_.Go.Rv.aag:aF Dr Tryz.prog 23 aaG:=dh mix .nil (by kernel_rfl) fun x=>⟨ay,_,aQ _ _ _⟩
end mG
abbrev IY:Is:=[.v false [CT.sl ct0],.v false [CT.int .i64]]
abbrev Ir:Os:=[(false,[CT.int .i64])]
namespace kY
def ay:Nat→List Nat×List Nat:=fun k=>if k=2 then([0,1,5],[1,4])else([],[])
def zrc{R:Type}(k0:Nat)(p:List Nat):Env→List Ob→ai R→Option R:=bD Tryz.prog (aP []) 40 0 ay k0 (bQ p (cZ Tryz.prog 24))
def R0{R:Type}(nx0:F6 R)(ex0:Y1 R)(ex1:Y2 R)(a2:List U8)(kx i:Int):Option R:=cond (decide (i<(a2.length:Int))) (if 0≤i∧i<(a2.length:Int)then cond ((rd (0,0,0,()) a2 i).1 != kx) (ex0 kx (-1)) (if 0≤i∧i<(a2.length:Int)then cond ((rd (0,0,0,()) a2 i).2.1 != (af (kx+1))) (ex0 (af (kx+1)) (-1)) (if 0≤i∧i<(a2.length:Int)then cond ((rd (0,0,0,()) a2 i).2.2.1 != (af ((af (kx+1))+1))) (ex0 (af ((af (kx+1))+1)) (-1)) (nx0 a2 (af ((af ((af (kx+1))+1))+1)) (af (i+1)))else none)else none)else none) (ex1 kx)
def A0(a:List U8)(ak:Int)(kx t4x:Int):Option (Int×Unit):=some (t4x,())
def A1(a:List U8)(ak:Int)(kx:Int):Option (Int×Unit):=some (kx,())
def T(lo0:F6 (Int×Unit))(a:List U8)(ak:Int):Option (Int×Unit):=lo0 a ak 0
def K0{R:Type}(k0:Nat)(K:ai R):ai R:=aY 0 (bg (fun env ob=>zrc k0 [1,1] env ob (K)) (K))
def L0:F6 R:=fun a2 kx i=>iter 0 [0,1,5] [1,4] (zrc k0 [1,0,1,0,0]) k [(0,.sl ct0 a2),(1,.int .i64 kx),(5,.int .i64 i)] [] K
def H0:Y1 R:=fun kx t4x=>K .ret [(1,.int .i64 kx),(4,.int .i64 t4x)] []
def H1:Y2 R:=fun kx=>K (.exit 0) [(1,.int .i64 kx),(4,.undef)] []
theorem zs0:L0 k0 (k+1) K=R0 (L0 k0 k K) (H0 K) (H1 K):=by kernel_rfl
def G0{R:Type}(k0:Nat)(hx0:Y1 R)(hx1:Y2 R):Nat→F6 R
 |0=>fun _ _ _=>none
 |k+1=>R0 (G0 k0 hx0 hx1 k) hx0 hx1
theorem aK:∀ k,L0 k0 k K=G0 k0 (H0 K) (H1 K) k:=bG rfl fun k ih=>by rw[zs0,G0];(try simp only[ih]);try rfl
variable (a:List U8) (ak:Int)
def aA:ai (Int×Unit):=bV Tryz.prog [.tmp 4] IY Ir (a,ak,())
theorem aS:H0 (K0 k0 (aA a ak))=A0 a ak:=by kernel_rfl
theorem bW:H1 (K0 k0 (aA a ak))=A1 a ak:=by kernel_rfl
def FF:Option (Int×Unit):=T (G0 k0 (A0 a ak) (A1 a ak) k0) a ak
theorem aQ:bZ Tryz.prog (aP []) ay k0 24 IY Ir [] (a,ak,())=FF k0 a ak:=Eq.trans (b:=T (L0 k0 k0 (K0 k0 (aA a ak))) a ak) (by kernel_rfl) (by rw[FF];(try simp only[aK,aS,bW]);try rfl)
def _root_.Go.Rv.CW:=fun x:(List U8)×Int×Unit=>FF (300+x.1.length) x.1 x.2.1
abbrev _root_.Go.Rv.aaH:aG:=⟨IY,Ir,CW,[]⟩
theorem _root_.Go.Rv.aah:aF Dr Tryz.prog 24 aaH:=dh mix .nil (by kernel_rfl) fun x=>⟨ay,_,aQ _ _ _⟩
end kY
abbrev Ij:Is:=[.v true iK,.v false [CT.sl dJ]]
abbrev ZU:Os:=[(false,[CT.bool])]
def Ri.T(aS0 aS1 aS2 aS3:Int)(aS4 aS5:List U7)(aS6:List U8)(aList:List U5):Option (Bool×Unit):=(DC (aS0,aS1,aS2,aS3,aS4,aS5,aS6,1048576,())).bind fun y1=>cond (decide (y1.1<0)) (some (true,())) ((Eo (aList,y1.1,())).bind fun y2=>cond (decide (y2.1<0)) (some (true,())) ((uM (aS0,aS1,aS2,aS3,aS4,aS5,aS6,())).bind fun y3=>(xg (aList,())).bind fun y4=>(Dp (y3.1,y3.2.1,y3.2.2.1,y3.2.2.2.1,y3.2.2.2.2.1,y3.2.2.2.2.2.1,y3.2.2.2.2.2.2.1,y4.1,())).bind fun y5=>(uM (aS0,aS1,aS2,aS3,aS4,aS5,aS6,())).bind fun y6=>(xg (aList,())).bind fun y7=>(zI (y6.1,y6.2.1,y6.2.2.1,y6.2.2.2.1,y6.2.2.2.2.1,y6.2.2.2.2.2.1,y6.2.2.2.2.2.2.1,y7.1,())).bind fun y8=>(zG (y8.1,y5.1,())).bind fun y9=>cond (!y9.1) (some (false,())) ((uM (aS0,aS1,aS2,aS3,aS4,aS5,aS6,())).bind fun y10=>(DK (y6.1,y6.2.1,y6.2.2.1,y6.2.2.2.1,y6.2.2.2.2.1,y6.2.2.2.2.2.1,y6.2.2.2.2.2.2.1,y10.1,y10.2.1,y10.2.2.1,y10.2.2.2.1,y10.2.2.2.2.1,y10.2.2.2.2.2.1,y10.2.2.2.2.2.2.1,())).bind fun y11=>cond (!y11.1) (some (false,())) ((xg (aList,())).bind fun y12=>(Nq (y7.1,y12.1,())).bind fun y13=>cond (!y13.1) (some (false,())) ((Di (y6.1,y6.2.1,y6.2.2.1,y6.2.2.2.1,y6.2.2.2.2.1,y6.2.2.2.2.2.1,y6.2.2.2.2.2.2.1,1,())).bind fun y14=>(MR (y7.1,y14.1,())).bind fun y15=>cond (decide (y15.1<0)) (some (false,())) ((zG (y8.1,y5.1,())).bind fun y16=>cond (!y16.1) (some (false,())) ((JP (y8.1,1,())).bind fun y17=>(CW (y17.2.1,1,())).bind fun y18=>cond (decide (y18.1<0)) (some (false,())) (cond (y18.1 != y17.1) (some (false,())) ((uM (aS0,aS1,aS2,aS3,aS4,aS5,aS6,())).bind fun y19=>(xg (aList,())).bind fun y20=>(zI (y19.1,y19.2.1,y19.2.2.1,y19.2.2.2.1,y19.2.2.2.2.1,y19.2.2.2.2.2.1,y19.2.2.2.2.2.2.1,y20.1,())).bind fun y21=>(zG (y21.1,y5.1,())).bind fun y22=>cond (!y22.1) (some (false,())) ((CW (y17.2.1,1,())).bind fun y23=>cond (decide (y23.1<0)) (some (false,())) (cond (y23.1 != y17.1) (some (false,())) (some (true,())))))))))))))
def CB:=fun x:Int×Int×Int×Int×(List U7)×(List U7)×(List U8)×(List U5)×Unit=>Ri.T x.1 x.2.1 x.2.2.1 x.2.2.2.1 x.2.2.2.2.1 x.2.2.2.2.2.1 x.2.2.2.2.2.2.1 x.2.2.2.2.2.2.2.1
abbrev Rh:aG:=⟨Ij,ZU,CB,[]⟩
theorem ZV:aF KN Tryz.prog 4 Rh:=aW mix (.c abt (.c abo (.c abx (.c aax (.c acX (.c aaO (.c acW (.c aaW (.c aaU (.c acY (.c abZ (.c aag (.c aah .nil))))))))))))) (by kernel_rfl) fun x=>by kernel_rfl
end Go.Rv
end
