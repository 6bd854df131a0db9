/- What functions come to on pure values (printed by a program of ours). -/
import Derived.Test.YtjknhphmhfbghaaGreatLM18
set_option linter.unusedVariables false
set_option linter.unusedSimpArgs false
set_option linter.unusedSectionVars false
set_option maxRecDepth 100000
noncomputable section
namespace Go.Rv
open Go.Proofs
variable {Dr:Kn} {R:Type} (k0 k:Nat) (K:au R)
abbrev GY:Is:=[.m qV,.v true jg,.v false [CT.int .i64]]
abbrev GV:Os:=[(false,[CT.sl fZ])]
namespace lF
def aB:Nat→List Nat×List Nat:=fun k=>if k=2 then([0,2,4,7],[7])else([],[])
def zrc{R:Type}(k0:Nat)(p:List Nat):Env→List Ob→au R→Option R:=bJ Tryz.prog (aW [(11,[],wI),(28,[],Ir)]) 31 1 aB k0 (cO p (dI Tryz.prog 49))
def R0{R:Type}(nx1:FB R)(nx0:Fz R)(ex0:BL R)(n2:Int)(s:List (Int×Unit))(s4 s5 s6 x x7 x8 x9:Int)(x10 x11:List U8)(x12:List U9)(out:List U6):Option R:=cond (decide (n2>0)) ((vZ (s,s4,s5,s6,x,x7,x8,x9,x10,x11,x12,())).bind fun y1=>if out.length+[(y1.1,y1.2.1,y1.2.2.1,y1.2.2.2.1,y1.2.2.2.2.1,())].length≤maxRow then(jZ (x,x7,x8,x9,x10,x11,x12,y1.1,y1.2.1,y1.2.2.1,y1.2.2.2.1,y1.2.2.2.2.1,())).bind fun y2=>cond (y2.2.2.2.2.2.2.2.2.2.1==0) (nx1 (af (n2 - 1)) y1.2.2.2.2.2.1 y1.2.2.2.2.2.2.1 y1.2.2.2.2.2.2.2.1 y1.2.2.2.2.2.2.2.2.1 y2.1 y2.2.1 y2.2.2.1 y2.2.2.2.1 (out++[(y1.1,y1.2.1,y1.2.2.1,y1.2.2.2.1,y1.2.2.2.2.1,())]) y2.2.2.2.2.1 y2.2.2.2.2.2.1 y2.2.2.2.2.2.2.1) (nx0 (af (n2 - 1)) y1.2.2.2.2.2.1 y1.2.2.2.2.2.2.1 y1.2.2.2.2.2.2.2.1 y1.2.2.2.2.2.2.2.2.1 x x7 x8 x9 x10 x11 x12 (out++[(y1.1,y1.2.1,y1.2.2.1,y1.2.2.2.1,y1.2.2.2.2.1,())]))else none) (ex0 s s4 s5 s6 out)
def R1{R:Type}(nx1:FB R)(ex0:BL R)(n2:Int)(s:List (Int×Unit))(s4 s5 s6 x x7 x8 x9:Int)(out:List U6)(o3 o4:List U8)(o5:List U9):Option R:=cond (decide (n2>0)) ((vZ (s,s4,s5,s6,x,x7,x8,x9,o3,o4,o5,())).bind fun y1=>if out.length+[(y1.1,y1.2.1,y1.2.2.1,y1.2.2.2.1,y1.2.2.2.2.1,())].length≤maxRow then(jZ (x,x7,x8,x9,o3,o4,o5,y1.1,y1.2.1,y1.2.2.1,y1.2.2.2.1,y1.2.2.2.2.1,())).bind fun y2=>cond (y2.2.2.2.2.2.2.2.2.2.1==0) (nx1 (af (n2 - 1)) y1.2.2.2.2.2.1 y1.2.2.2.2.2.2.1 y1.2.2.2.2.2.2.2.1 y1.2.2.2.2.2.2.2.2.1 y2.1 y2.2.1 y2.2.2.1 y2.2.2.2.1 (out++[(y1.1,y1.2.1,y1.2.2.1,y1.2.2.2.1,y1.2.2.2.2.1,())]) y2.2.2.2.2.1 y2.2.2.2.2.2.1 y2.2.2.2.2.2.2.1) (nx1 (af (n2 - 1)) y1.2.2.2.2.2.1 y1.2.2.2.2.2.2.1 y1.2.2.2.2.2.2.2.1 y1.2.2.2.2.2.2.2.2.1 x x7 x8 x9 (out++[(y1.1,y1.2.1,y1.2.2.1,y1.2.2.2.1,y1.2.2.2.2.1,())]) o3 o4 o5)else none) (ex0 s s4 s5 s6 out)
def A0(s0:List (Int×Unit))(s1 s2 s3 x0 x1 x2 x3:Int)(x4 x5:List U8)(x6:List U9)(n:Int)(o0:List (Int×Unit))(o02 o03 o04:Int)(out:List U6):Option ((List U6)×U5):=some (out,o0,o02,o03,o04,())
def T(lo0:Fz ((List U6)×U5))(s0:List (Int×Unit))(s1 s2 s3 x0 x1 x2 x3:Int)(x4 x5:List U8)(x6:List U9)(n:Int):Option ((List U6)×U5):=lo0 n s0 s1 s2 s3 x0 x1 x2 x3 x4 x5 x6 ([]:List U6)
def K0{R:Type}(k0:Nat)(K:au R):au R:=bF 0 (bI (fun env ob=>zrc k0 [1,1,1] env ob (K)) (K))
def L0:Fz R:=fun n2 s s4 s5 s6 x x7 x8 x9 x10 x11 x12 out=>iter 1 [0,2,4,7] [7] (zrc k0 [1,1,0,0,0]) k [(0,.ptr 0 0 0 0),(2,.int .i64 n2),(4,.ptr 1 0 0 0),(7,.own 2)] [.box [.sh [CT.int .u8] s,.int .i64 s4,.int .u64 s5,.int .i64 s6],.box [.int .i64 x,.int .i64 x7,.int .i64 x8,.int .i64 x9,.sl aC x10,.sl aC x11,.sl ct0 x12],.arr fZ out] K
def L1:FB R:=fun n2 s s4 s5 s6 x x7 x8 x9 out o3 o4 o5=>iter 1 [0,2,4,7] [7] (zrc k0 [1,1,0,0,0]) k [(0,.ptr 0 0 0 0),(2,.int .i64 n2),(4,.ptr 1 0 0 0),(7,.own 2)] [.box [.sh [CT.int .u8] s,.int .i64 s4,.int .u64 s5,.int .i64 s6],.box [.int .i64 x,.int .i64 x7,.int .i64 x8,.int .i64 x9,.own 3,.own 4,.own 5],.arr fZ out,.arr aC o3,.arr aC o4,.arr ct0 o5] K
def H0:BL R:=fun o0 o02 o03 o04 out=>K (.exit 0) [(7,.own 1)] [.box [.sh [CT.int .u8] o0,.int .i64 o02,.int .u64 o03,.int .i64 o04],.arr fZ out]
theorem zs0:L0 k0 (k+1) K=R0 (L1 k0 k K) (L0 k0 k K) (H0 K):=by kernel_rfl
theorem zs1:L1 k0 (k+1) K=R1 (L1 k0 k K) (H0 K):=by kernel_rfl
def G1{R:Type}(k0:Nat)(hx0:BL R):Nat→FB R
 |0=>fun _ _ _ _ _ _ _ _ _ _ _ _ _=>none
 |k+1=>R1 (G1 k0 hx0 k) hx0
theorem dP:∀ k,L1 k0 k K=G1 k0 (H0 K) k:=bP rfl fun k ih=>by rw[zs1,G1];(try simp only[ih]);try rfl
def G0{R:Type}(k0:Nat)(hx0:BL R):Nat→Fz R
 |0=>fun _ _ _ _ _ _ _ _ _ _ _ _ _=>none
 |k+1=>R0 (G1 k0 hx0 k) (G0 k0 hx0 k) hx0
theorem aS:∀ k,L0 k0 k K=G0 k0 (H0 K) k:=bP rfl fun k ih=>by rw[zs0,G0];(try simp only[ih,dP]);try rfl
variable (s0:List (Int×Unit)) (s1 s2 s3 x0 x1 x2 x3:Int) (x4 x5:List U8) (x6:List U9) (n:Int)
def aA:au ((List U6)×U5):=dw Tryz.prog [.tmp 6] GY GV (s0,s1,s2,s3,x0,x1,x2,x3,x4,x5,x6,n,())
theorem bf:H0 (K0 k0 (aA s0 s1 s2 s3 x0 x1 x2 x3 x4 x5 x6 n))=A0 s0 s1 s2 s3 x0 x1 x2 x3 x4 x5 x6 n:=by kernel_rfl
def FF:Option ((List U6)×U5):=T (G0 k0 (A0 s0 s1 s2 s3 x0 x1 x2 x3 x4 x5 x6 n) k0) s0 s1 s2 s3 x0 x1 x2 x3 x4 x5 x6 n
theorem aZ:dA Tryz.prog (aW [(11,[],wI),(28,[],Ir)]) aB k0 49 GY GV [] (s0,s1,s2,s3,x0,x1,x2,x3,x4,x5,x6,n,())=FF k0 s0 s1 s2 s3 x0 x1 x2 x3 x4 x5 x6 n:=Eq.trans (b:=T (L0 k0 k0 (K0 k0 (aA s0 s1 s2 s3 x0 x1 x2 x3 x4 x5 x6 n))) s0 s1 s2 s3 x0 x1 x2 x3 x4 x5 x6 n) (by kernel_rfl) (by rw[FF];(try simp only[dP,aS,bf]);try rfl)
def _root_.Go.Rv.Ib:=fun x:(List (Int×Unit))×Int×Int×Int×Int×Int×Int×Int×(List U8)×(List U8)×(List U9)×Int×Unit=>FF (400) x.1 x.2.1 x.2.2.1 x.2.2.2.1 x.2.2.2.2.1 x.2.2.2.2.2.1 x.2.2.2.2.2.2.1 x.2.2.2.2.2.2.2.1 x.2.2.2.2.2.2.2.2.1 x.2.2.2.2.2.2.2.2.2.1 x.2.2.2.2.2.2.2.2.2.2.1 x.2.2.2.2.2.2.2.2.2.2.2.1
abbrev _root_.Go.Rv.PD:aG:=⟨GY,GV,Ib,[]⟩
theorem _root_.Go.Rv.Yt:aF Dr Tryz.prog 49 PD:=dJ mix (.c Jt (.c Py .nil)) (by kernel_rfl) fun x=>⟨aB,_,aZ _ _ _ _ _ _ _ _ _ _ _ _ _⟩
end lF
def QR.T(length cap:Int):Option (U1):=(zn (length,())).bind fun y1=>cond (!y1.1) (some (0,0,0,0,[],[],[],())) ((dX (cap,())).bind fun y2=>cond (!y2.1) (some (0,0,0,0,[],[],[],())) (some (length,0,0,cap,[],[],[],())))
def CV:=fun x:aN=>QR.T x.1 x.2.1
abbrev Qp:aG:=⟨[.v false [CT.int .i64],.v false [CT.int .i64]],[(true,jg)],CV,[]⟩
theorem Zi:aF Dr Tryz.prog 58 Qp:=bC mix (.c P5 (.c ug .nil)) (by kernel_rfl) fun x=>by kernel_rfl
abbrev JR:Is:=[.v true jg,.v false [CT.sl fZ]]
abbrev Jp:Os:=[(false,[CT.sl ct0]),(true,jg)]
namespace qp
def aB:Nat→List Nat×List Nat:=fun k=>if k=4 then([1,5,6,7,8],[5,6,7])else([],[])
def zrc{R:Type}(k0:Nat)(p:List Nat):Env→List Ob→au R→Option R:=bJ Tryz.prog (aW [(11,[],wI),(42,[],um)]) 42 0 aB k0 (cO p (dI Tryz.prog 96))
def R0{R:Type}(nx0:Fv R)(ex0:OO R)(list2:List U6)(i t5x t5x2 t5x3 t5x4:Int)(out:List U9)(now now2 now3 now4:Int)(o3 o4:List U8)(o5:List U9):Option R:=cond (decide (i<(list2.length:Int))) (if 0≤i∧i<(list2.length:Int)then(jZ (now,now2,now3,now4,o3,o4,o5,(rd (0,0,0,0,0,()) list2 i).1,(rd (0,0,0,0,0,()) list2 i).2.1,(rd (0,0,0,0,0,()) list2 i).2.2.1,(rd (0,0,0,0,0,()) list2 i).2.2.2.1,(rd (0,0,0,0,0,()) list2 i).2.2.2.2.1,())).bind fun y1=>if out.length+[(y1.2.2.2.2.2.2.2.1,y1.2.2.2.2.2.2.2.2.1,y1.2.2.2.2.2.2.2.2.2.1,())].length≤maxRow then cond (y1.2.2.2.2.2.2.2.2.2.1==0) (nx0 list2 (af (i+1)) t5x t5x2 t5x3 t5x4 (out++[(y1.2.2.2.2.2.2.2.1,y1.2.2.2.2.2.2.2.2.1,y1.2.2.2.2.2.2.2.2.2.1,())]) y1.1 y1.2.1 y1.2.2.1 y1.2.2.2.1 y1.2.2.2.2.1 y1.2.2.2.2.2.1 y1.2.2.2.2.2.2.1) (nx0 list2 (af (i+1)) t5x t5x2 t5x3 t5x4 (out++[(y1.2.2.2.2.2.2.2.1,y1.2.2.2.2.2.2.2.2.1,y1.2.2.2.2.2.2.2.2.2.1,())]) now now2 now3 now4 o3 o4 o5)else none else none) (ex0 t5x t5x2 t5x3 t5x4 out now now2 now3 now4 o3 o4 o5)
def A0(s0 s1 s2 s3:Int)(s4 s5:List U8)(s6:List U9)(list:List U6)(t5x t5x2 t5x3 t5x4:Int)(out:List U9)(now now2 now3 now4:Int)(o3 o4:List U8)(o5:List U9):Option ((List U9)×U1):=some (out,now,now2,now3,now4,o3,o4,o5,())
def T(lo0:Fv ((List U9)×U1))(s0 s1 s2 s3:Int)(s4 s5:List U8)(s6:List U9)(list:List U6):Option ((List U9)×U1):=(nV (s0,s1,s2,s3,s4,s5,s6,())).bind fun y1=>lo0 list 0 0 0 0 0 ([]:List U9) y1.1 y1.2.1 y1.2.2.1 y1.2.2.2.1 y1.2.2.2.2.1 y1.2.2.2.2.2.1 y1.2.2.2.2.2.2.1
def K0{R:Type}(k0:Nat)(K:au R):au R:=bF 0 (bI (fun env ob=>zrc k0 [1,1,1,1] env ob (K)) (K))
def L0:Fv R:=fun list2 i t5x t5x2 t5x3 t5x4 out now now2 now3 now4 o3 o4 o5=>iter 0 [1,5,6,7,8] [5,6,7] (zrc k0 [1,1,1,0,1,0,0]) k [(1,.sl fZ list2),(5,.ptr 0 0 0 0),(6,.own 1),(7,.ptr 2 0 0 0),(8,.int .i64 i)] [.box [.int .i64 t5x,.int .i64 t5x2,.int .i64 t5x3,.int .i64 t5x4,.nils,.nils,.nils],.arr ct0 out,.box [.int .i64 now,.int .i64 now2,.int .i64 now3,.int .i64 now4,.own 3,.own 4,.own 5],.arr aC o3,.arr aC o4,.arr ct0 o5] K
def H0:OO R:=fun t5x t5x2 t5x3 t5x4 out now now2 now3 now4 o3 o4 o5=>K (.exit 0) [(5,.ptr 0 0 0 0),(6,.own 1),(7,.ptr 2 0 0 0)] [.box [.int .i64 t5x,.int .i64 t5x2,.int .i64 t5x3,.int .i64 t5x4,.nils,.nils,.nils],.arr ct0 out,.box [.int .i64 now,.int .i64 now2,.int .i64 now3,.int .i64 now4,.own 3,.own 4,.own 5],.arr aC o3,.arr aC o4,.arr ct0 o5]
theorem zs0:L0 k0 (k+1) K=R0 (L0 k0 k K) (H0 K):=by kernel_rfl
def G0{R:Type}(k0:Nat)(hx0:OO R):Nat→Fv R
 |0=>fun _ _ _ _ _ _ _ _ _ _ _ _ _ _=>none
 |k+1=>R0 (G0 k0 hx0 k) hx0
theorem aS:∀ k,L0 k0 k K=G0 k0 (H0 K) k:=bP rfl fun k ih=>by rw[zs0,G0];(try simp only[ih]);try rfl
variable (s0 s1 s2 s3:Int) (s4 s5:List U8) (s6:List U9) (list:List U6)
def aA:au ((List U9)×U1):=dw Tryz.prog [.tmp 4,.cell 5 29] JR Jp (s0,s1,s2,s3,s4,s5,s6,list,())
theorem bf:H0 (K0 k0 (aA s0 s1 s2 s3 s4 s5 s6 list))=A0 s0 s1 s2 s3 s4 s5 s6 list:=by kernel_rfl
def FF:Option ((List U9)×U1):=T (G0 k0 (A0 s0 s1 s2 s3 s4 s5 s6 list) k0) s0 s1 s2 s3 s4 s5 s6 list
theorem aZ:dA Tryz.prog (aW [(11,[],wI),(42,[],um)]) aB k0 96 JR Jp [] (s0,s1,s2,s3,s4,s5,s6,list,())=FF k0 s0 s1 s2 s3 s4 s5 s6 list:=Eq.trans (b:=T (L0 k0 k0 (K0 k0 (aA s0 s1 s2 s3 s4 s5 s6 list))) s0 s1 s2 s3 s4 s5 s6 list) (by kernel_rfl) (by rw[FF];(try simp only[aS,bf]);try rfl)
def _root_.Go.Rv.Kz:=fun x:Int×Int×Int×Int×(List U8)×(List U8)×(List U9)×(List U6)×Unit=>FF (300+x.2.2.2.2.1.length+x.2.2.2.2.2.1.length+x.2.2.2.2.2.2.1.length+x.2.2.2.2.2.2.2.1.length) x.1 x.2.1 x.2.2.1 x.2.2.2.1 x.2.2.2.2.1 x.2.2.2.2.2.1 x.2.2.2.2.2.2.1 x.2.2.2.2.2.2.2.1
abbrev _root_.Go.Rv.aaI:aG:=⟨JR,Jp,Kz,[]⟩
theorem _root_.Go.Rv.aaj:aF Dr Tryz.prog 96 aaI:=dJ mix (.c Jt (.c zC .nil)) (by kernel_rfl) fun x=>⟨aB,_,aZ _ _ _ _ _ _ _ _ _⟩
end qp
def J4.T(s0 s1 s2 s3:Int)(s4 s5:List U8)(s6:List U9)(list:List U6):Option (U1):=cond (decide ((list.length:Int)>400)) (some (0,0,0,0,[],[],[],())) ((zk (s0,s1,s2,s3,s4,s5,s6,())).bind fun y1=>cond (!y1.1) ((nV (s0,s1,s2,s3,s4,s5,s6,())).bind fun y2=>some (y2.1,y2.2.1,y2.2.2.1,y2.2.2.2.1,y2.2.2.2.2.1,y2.2.2.2.2.2.1,y2.2.2.2.2.2.2.1,())) (cond (decide ((list.length:Int)>300)) ((nV (s0,s1,s2,s3,s4,s5,s6,())).bind fun y3=>some (y3.1,y3.2.1,y3.2.2.1,y3.2.2.2.1,y3.2.2.2.2.1,y3.2.2.2.2.2.1,y3.2.2.2.2.2.2.1,())) ((Kz (s0,s1,s2,s3,s4,s5,s6,list,())).bind fun y4=>some (y4.2.1,y4.2.2.1,y4.2.2.2.1,y4.2.2.2.2.1,y4.2.2.2.2.2.1,y4.2.2.2.2.2.2.1,y4.2.2.2.2.2.2.2.1,()))))
def zo:=fun x:Int×Int×Int×Int×(List U8)×(List U8)×(List U9)×(List U6)×Unit=>J4.T x.1 x.2.1 x.2.2.1 x.2.2.2.1 x.2.2.2.2.1 x.2.2.2.2.2.1 x.2.2.2.2.2.2.1 x.2.2.2.2.2.2.2.1
abbrev Qq:aG:=⟨[.v true jg,.v false [CT.sl fZ]],[(true,jg)],zo,[]⟩
theorem Zj:aF Dr Tryz.prog 59 Qq:=bC mix (.c Il (.c zC (.c aaj .nil))) (by kernel_rfl) fun x=>by kernel_rfl
abbrev GU:Is:=[.m qV]
abbrev GN:Os:=[(true,jg)]
namespace mM
def dG:Tb:=[(11,[],wI),(48,[],Qb),(49,[],PD),(50,[],QH),(58,[],Qp),(59,[],Qq)]
def aB:Nat→List Nat×List Nat:=fun k=>if k=3 then([0,2,3,4],[0,2,3])else([],[])
def zrc{R:Type}(k0:Nat)(p:List Nat):Env→List Ob→au R→Option R:=bJ Tryz.prog (aW dG) 78 1 aB k0 (cO p (dI Tryz.prog 27))
def R0{R:Type}(nx0:Fq R)(ex0:OM R)(kx:Int)(s:List (Int×Unit))(s4 s5 s6 t2x t2x2 t2x3 t2x4 x x2 x3 x4:Int)(o3 o4:List U8)(o5:List U9):Option R:=cond (decide (kx>0)) ((jZ (x,x2,x3,x4,o3,o4,o5,4,0,0,0,0,())).bind fun y1=>nx0 (af (kx - 1)) s s4 s5 s6 t2x t2x2 t2x3 t2x4 y1.1 y1.2.1 y1.2.2.1 y1.2.2.2.1 y1.2.2.2.2.1 y1.2.2.2.2.2.1 y1.2.2.2.2.2.2.1) (ex0 s s4 s5 s6 t2x t2x2 t2x3 t2x4 x x2 x3 x4 o3 o4 o5)
def A0(s0:List (Int×Unit))(s1 s2 s3:Int)(s:List (Int×Unit))(s4 s5 s6 t2x t2x2 t2x3 t2x4 x x2 x3 x4:Int)(o3 o4:List U8)(o5:List U9):Option (Int×Int×Int×Int×(List U8)×(List U8)×(List U9)×U5):=(aT (s,s4,s5,s6,(af (6+s6)),())).bind fun y1=>(Ib (y1.2.1,y1.2.2.1,y1.2.2.2.1,y1.2.2.2.2.1,x,x2,x3,x4,o3,o4,o5,y1.1,())).bind fun y2=>(zo (x,x2,x3,x4,o3,o4,o5,y2.1,())).bind fun y3=>(fB (y2.2.1,y2.2.2.1,y2.2.2.2.1,y2.2.2.2.2.1,12,())).bind fun y4=>cond y4.1 ((aT (y4.2.1,y4.2.2.1,y4.2.2.2.1,y4.2.2.2.2.1,6,())).bind fun y5=>cond (y5.1==0) ((aT (y5.2.1,y5.2.2.1,y5.2.2.2.1,y5.2.2.2.2.1,3,())).bind fun y6=>if 0≤y6.1∧y6.1<([(0,()),(1000,()),(1001,())].length:Int)then some (([(0,()),(1000,()),(1001,())].getD ((y6.1).toNat) (0,())).1,y3.2.1,y3.2.2.1,y3.2.2.2.1,y3.2.2.2.2.1,y3.2.2.2.2.2.1,y3.2.2.2.2.2.2.1,y6.2.1,y6.2.2.1,y6.2.2.2.1,y6.2.2.2.2.1,())else none) (cond (y5.1==1) (some (y3.1,(af (y3.2.2.1+1)),y3.2.2.1,y3.2.2.2.1,y3.2.2.2.2.1,y3.2.2.2.2.2.1,y3.2.2.2.2.2.2.1,y5.2.1,y5.2.2.1,y5.2.2.2.1,y5.2.2.2.2.1,())) (cond (y5.1==2) (some (y3.1,y3.2.1,(af (y3.2.2.1+1)),y3.2.2.2.1,y3.2.2.2.2.1,y3.2.2.2.2.2.1,y3.2.2.2.2.2.2.1,y5.2.1,y5.2.2.1,y5.2.2.2.1,y5.2.2.2.2.1,())) (cond (y5.1==3) (if y3.2.2.2.2.2.2.1.length+[(900,0,(af (y3.2.2.1+1)),())].length≤maxRow then some (y3.1,y3.2.1,y3.2.2.1,y3.2.2.2.1,y3.2.2.2.2.1,y3.2.2.2.2.2.1,(y3.2.2.2.2.2.2.1++[(900,0,(af (y3.2.2.1+1)),())]),y5.2.1,y5.2.2.1,y5.2.2.2.1,y5.2.2.2.2.1,())else none) (cond (y5.1==4) (some (y3.1,y3.2.1,y3.2.2.1,(-1),y3.2.2.2.2.1,y3.2.2.2.2.2.1,y3.2.2.2.2.2.2.1,y5.2.1,y5.2.2.1,y5.2.2.2.1,y5.2.2.2.2.1,())) ((aT (y5.2.1,y5.2.2.1,y5.2.2.2.1,y5.2.2.2.2.1,2,())).bind fun y7=>some (5,998997,(af (999000 - y7.1)),9,[],[],[],y7.2.1,y7.2.2.1,y7.2.2.2.1,y7.2.2.2.2.1,()))))))) (some (y3.1,y3.2.1,y3.2.2.1,y3.2.2.2.1,y3.2.2.2.2.1,y3.2.2.2.2.2.1,y3.2.2.2.2.2.2.1,y4.2.1,y4.2.2.1,y4.2.2.2.1,y4.2.2.2.2.1,()))
def T(lo0:Fq (Int×Int×Int×Int×(List U8)×(List U8)×(List U9)×U5))(s0:List (Int×Unit))(s1 s2 s3:Int):Option (Int×Int×Int×Int×(List U8)×(List U8)×(List U9)×U5):=(aT (s0,s1,s2,s3,6,())).bind fun y1=>(aT (y1.2.1,y1.2.2.1,y1.2.2.2.1,y1.2.2.2.2.1,200,())).bind fun y2=>(CV ((af (1+y1.1)),y2.1,())).bind fun y3=>(aT (y2.2.1,y2.2.2.1,y2.2.2.2.1,y2.2.2.2.2.1,5,())).bind fun y4=>lo0 y4.1 y4.2.1 y4.2.2.1 y4.2.2.2.1 y4.2.2.2.2.1 0 0 0 0 y3.1 y3.2.1 y3.2.2.1 y3.2.2.2.1 y3.2.2.2.2.1 y3.2.2.2.2.2.1 y3.2.2.2.2.2.2.1
def K0{R:Type}(k0:Nat)(K:au R):au R:=bF 0 (bI (fun env ob=>zrc k0 [1,1,1] env ob (K)) (K))
def L0:Fq R:=fun kx s s4 s5 s6 t2x t2x2 t2x3 t2x4 x x2 x3 x4 o3 o4 o5=>iter 1 [0,2,3,4] [0,2,3] (zrc k0 [1,1,0,1,0,0]) k [(0,.ptr 0 0 0 0),(2,.ptr 1 0 0 0),(3,.ptr 2 0 0 0),(4,.int .i64 kx)] [.box [.sh [CT.int .u8] s,.int .i64 s4,.int .u64 s5,.int .i64 s6],.box [.int .i64 t2x,.int .i64 t2x2,.int .i64 t2x3,.int .i64 t2x4,.nils,.nils,.nils],.box [.int .i64 x,.int .i64 x2,.int .i64 x3,.int .i64 x4,.own 3,.own 4,.own 5],.arr aC o3,.arr aC o4,.arr ct0 o5] K
def H0:OM R:=fun s s4 s5 s6 t2x t2x2 t2x3 t2x4 x x2 x3 x4 o3 o4 o5=>K (.exit 0) [(0,.ptr 0 0 0 0),(2,.ptr 1 0 0 0),(3,.ptr 2 0 0 0)] [.box [.sh [CT.int .u8] s,.int .i64 s4,.int .u64 s5,.int .i64 s6],.box [.int .i64 t2x,.int .i64 t2x2,.int .i64 t2x3,.int .i64 t2x4,.nils,.nils,.nils],.box [.int .i64 x,.int .i64 x2,.int .i64 x3,.int .i64 x4,.own 3,.own 4,.own 5],.arr aC o3,.arr aC o4,.arr ct0 o5]
theorem zs0:L0 k0 (k+1) K=R0 (L0 k0 k K) (H0 K):=by kernel_rfl
def G0{R:Type}(k0:Nat)(hx0:OM R):Nat→Fq R
 |0=>fun _ _ _ _ _ _ _ _ _ _ _ _ _ _ _ _=>none
 |k+1=>R0 (G0 k0 hx0 k) hx0
theorem aS:∀ k,L0 k0 k K=G0 k0 (H0 K) k:=bP rfl fun k ih=>by rw[zs0,G0];(try simp only[ih]);try rfl
variable (s0:List (Int×Unit)) (s1 s2 s3:Int)
def aA:au (Int×Int×Int×Int×(List U8)×(List U8)×(List U9)×U5):=dw Tryz.prog [.cell 2 29] GU GN (s0,s1,s2,s3,())
theorem bf:H0 (K0 k0 (aA s0 s1 s2 s3))=A0 s0 s1 s2 s3:=by kernel_rfl
def FF:Option (Int×Int×Int×Int×(List U8)×(List U8)×(List U9)×U5):=T (G0 k0 (A0 s0 s1 s2 s3) k0) s0 s1 s2 s3
theorem aZ:dA Tryz.prog (aW dG) aB k0 27 GU GN [] (s0,s1,s2,s3,())=FF k0 s0 s1 s2 s3:=Eq.trans (b:=T (L0 k0 k0 (K0 k0 (aA s0 s1 s2 s3))) s0 s1 s2 s3) (by kernel_rfl) (by rw[FF];(try simp only[aS,bf]);try rfl)
def _root_.Go.Rv.GX:=fun x:U5=>FF (300+x.1.length) x.1 x.2.1 x.2.2.1 x.2.2.2.1
abbrev _root_.Go.Rv.Yo:aG:=⟨GU,GN,GX,[]⟩
theorem _root_.Go.Rv.Ym:aF Dr Tryz.prog 27 Yo:=dJ mix (.c Jt (.c PL (.c Yt (.c wF (.c Zi (.c Zj .nil)))))) (by kernel_rfl) fun x=>⟨aB,_,aZ _ _ _ _ _⟩
end mM
def PZ.T(code:List (Int×Unit)):Option (Int×Int×Int×Int×(List U8)×(List U8)×(List U9)×U6):=(CU (code,())).bind fun y1=>(GX (y1.1,y1.2.1,y1.2.2.1,y1.2.2.2.1,())).bind fun y2=>(vZ (y2.2.2.2.2.2.2.2.1,y2.2.2.2.2.2.2.2.2.1,y2.2.2.2.2.2.2.2.2.2.1,y2.2.2.2.2.2.2.2.2.2.2.1,y2.1,y2.2.1,y2.2.2.1,y2.2.2.2.1,y2.2.2.2.2.1,y2.2.2.2.2.2.1,y2.2.2.2.2.2.2.1,())).bind fun y3=>some (y2.1,y2.2.1,y2.2.2.1,y2.2.2.2.1,y2.2.2.2.2.1,y2.2.2.2.2.2.1,y2.2.2.2.2.2.2.1,y3.1,y3.2.1,y3.2.2.1,y3.2.2.2.1,y3.2.2.2.2.1,())
def Ce:=fun x:(List (Int×Unit))×Unit=>PZ.T x.1
abbrev YL:aG:=⟨[.v false [CT.sh [CT.int .u8]]],[(true,jg),(true,fZ)],Ce,[]⟩
theorem Yy:aF Dr Tryz.prog 7 YL:=bC mix (.c Zh (.c Ym (.c Py .nil))) (by kernel_rfl) fun x=>by kernel_rfl
def Uc.T(code:List (Int×Unit))(dK most:Int):Option (Int×Unit):=cond (decide (most≤1)) (some (0,())) (cond ((code.length:Int)==0) (some (0,())) (if(code.length:Int)=0 then none else if 0≤(Int.tmod dK (code.length:Int))∧(Int.tmod dK (code.length:Int))<(code.length:Int)then if most=0 then none else some ((Int.tmod (af ((rd (0,()) code (Int.tmod dK (code.length:Int))).1)) most),())else none))
def wY:=fun x:(List (Int×Unit))×aN=>Uc.T x.1 x.2.1 x.2.2.1
abbrev abg:aG:=⟨[.v false [CT.sl [CT.int .u8]],.v false [CT.int .i64],.v false [CT.int .i64]],[(false,[CT.int .i64])],wY,[]⟩
theorem aaU:aF Dr Tryz.prog 9 abg:=bC mix .nil (by kernel_rfl) fun x=>by kernel_rfl
def VR.T(n low high:Int):Option (Bool×Unit):=cond (decide (low≤n)) (some ((decide (n≤high)),())) (some (false,()))
def ny:=fun x:U9=>VR.T x.1 x.2.1 x.2.2.1
abbrev Ul:aG:=⟨[.v false [CT.int .i64],.v false [CT.int .i64],.v false [CT.int .i64]],[(false,[CT.bool])],ny,[]⟩
theorem zX:aF Dr Tryz.prog 43 Ul:=bC mix .nil (by kernel_rfl) fun x=>by kernel_rfl
def Ea.T(n:Int):Option (Bool×Unit):=(ny (n,1,1000000,())).bind fun y1=>some (y1.1,())
def gy:=fun x:Int×Unit=>Ea.T x.1
abbrev SH:aG:=⟨[.v false [CT.int .i64]],[(false,[CT.bool])],gy,[]⟩
theorem DI:aF Dr Tryz.prog 68 SH:=bC mix (.c zX .nil) (by kernel_rfl) fun x=>by kernel_rfl
def DL.T(n:Int):Option (Bool×Unit):=(ny (n,0,1125899906842624,())).bind fun y1=>some (y1.1,())
def ji:=fun x:Int×Unit=>DL.T x.1
abbrev Ru:aG:=⟨[.v false [CT.int .i64]],[(false,[CT.bool])],ji,[]⟩
theorem Df:aF Dr Tryz.prog 69 Ru:=bC mix (.c zX .nil) (by kernel_rfl) fun x=>by kernel_rfl
def Dv.T(n:Int):Option (Bool×Unit):=(ny (n,1,1073741824,())).bind fun y1=>some (y1.1,())
def kz:=fun x:Int×Unit=>Dv.T x.1
abbrev QK:aG:=⟨[.v false [CT.int .i64]],[(false,[CT.bool])],kz,[]⟩
theorem Ju:aF Dr Tryz.prog 70 QK:=bC mix (.c zX .nil) (by kernel_rfl) fun x=>by kernel_rfl
abbrev IK:Is:=[.v true gI]
abbrev Ik:Os:=[(false,[CT.bool])]
namespace iP
def dG:Tb:=[(68,[],SH),(69,[],Ru),(70,[],QK),(92,[],PE)]
def aB:Nat→List Nat×List Nat:=fun k=>if k=4 then([1,25,26,27],[1,2])else if k=11 then([1,78,79,80],[2])else([],[])
def zrc{R:Type}(k0:Nat)(p:List Nat):Env→List Ob→au R→Option R:=bJ Tryz.prog (aW dG) 125 0 aB k0 (cO p (dI Tryz.prog 44))
def R0{R:Type}(nx0:sZ R)(ex0:yT R)(ex1:yS R)(t25x:List U8)(t26x t27x f:Int)(f3 f4:List U8):Option R:=cond (decide (t27x<t26x)) (if 0≤t27x∧t27x<(t25x.length:Int)then if 0≤t27x∧t27x≤(f3.length:Int)then(gy ((rd (0,0,0,0,()) t25x t27x).1,())).bind fun y1=>cond (!y1.1) (ex0 false f f3 f4) (cond (decide (t27x>0)) (if 0≤(af (t27x - 1))∧(af (t27x - 1))<(f3.length:Int)then cond (decide ((rd (0,0,0,0,()) f3 (af (t27x - 1))).1≥(rd (0,0,0,0,()) t25x t27x).1)) (ex0 false f f3 f4) ((mO (0,(f3.take (t27x.toNat)),[],(rd (0,0,0,0,()) t25x t27x).2.1,())).bind fun y2=>cond (!y2.1) (ex0 false f f3 f4) ((ji ((rd (0,0,0,0,()) t25x t27x).2.2.1,())).bind fun y3=>cond (!y3.1) (ex0 false f f3 f4) ((kz ((rd (0,0,0,0,()) t25x t27x).2.2.2.1,())).bind fun y4=>cond (!y4.1) (ex0 false f f3 f4) (nx0 t25x t26x (af (t27x+1)) f f3 f4))))else none) ((mO (0,(f3.take (t27x.toNat)),[],(rd (0,0,0,0,()) t25x t27x).2.1,())).bind fun y5=>cond (!y5.1) (ex0 false f f3 f4) ((ji ((rd (0,0,0,0,()) t25x t27x).2.2.1,())).bind fun y6=>cond (!y6.1) (ex0 false f f3 f4) ((kz ((rd (0,0,0,0,()) t25x t27x).2.2.2.1,())).bind fun y7=>cond (!y7.1) (ex0 false f f3 f4) (nx0 t25x t26x (af (t27x+1)) f f3 f4)))))else none else none) (ex1 f f3 f4)
def R1{R:Type}(nx1:sZ R)(ex2:jM R)(ex3:eY R)(t78x:List U8)(t79x t80x f:Int)(f3 f4:List U8):Option R:=cond (decide (t80x<t79x)) (if 0≤t80x∧t80x<(t78x.length:Int)then(gy ((rd (0,0,0,0,()) t78x t80x).1,())).bind fun y1=>cond (!y1.1) (ex2 false) (cond (decide (t80x>0)) (if 0≤(af (t80x - 1))∧(af (t80x - 1))<(f4.length:Int)then cond (decide ((rd (0,0,0,0,()) f4 (af (t80x - 1))).1≥(rd (0,0,0,0,()) t78x t80x).1)) (ex2 false) ((mO (f,f3,f4,(rd (0,0,0,0,()) t78x t80x).2.1,())).bind fun y2=>cond (!y2.1) (ex2 false) ((ji ((rd (0,0,0,0,()) t78x t80x).2.2.1,())).bind fun y3=>cond (!y3.1) (ex2 false) ((kz ((rd (0,0,0,0,()) t78x t80x).2.2.2.1,())).bind fun y4=>cond (!y4.1) (ex2 false) (nx1 t78x t79x (af (t80x+1)) f f3 f4))))else none) ((mO (f,f3,f4,(rd (0,0,0,0,()) t78x t80x).2.1,())).bind fun y5=>cond (!y5.1) (ex2 false) ((ji ((rd (0,0,0,0,()) t78x t80x).2.2.1,())).bind fun y6=>cond (!y6.1) (ex2 false) ((kz ((rd (0,0,0,0,()) t78x t80x).2.2.2.1,())).bind fun y7=>cond (!y7.1) (ex2 false) (nx1 t78x t79x (af (t80x+1)) f f3 f4)))))else none) (ex3 ())
def A0(f0:Int)(f1 f2:List U8)(t2x:Bool)(f:Int)(f3 f4:List U8):Option (Bool×Unit):=some (t2x,())
def A1(lo1:sZ (Bool×Unit))(f0:Int)(f1 f2:List U8)(f:Int)(f3 f4:List U8):Option (Bool×Unit):=lo1 f4 (f4.length:Int) 0 f f3 f4
def A2(f0:Int)(f1 f2:List U8)(t2x:Bool):Option (Bool×Unit):=some (t2x,())
def A3(f0:Int)(f1 f2:List U8)(_u:Unit):Option (Bool×Unit):=some (true,())
def T(lo0:sZ (Bool×Unit))(f0:Int)(f1 f2:List U8):Option (Bool×Unit):=(ji (f0,())).bind fun y1=>cond (!y1.1) (some (false,())) (cond (decide ((f1.length:Int)>30)) (some (false,())) (cond (decide ((f2.length:Int)>60)) (some (false,())) (lo0 f1 (f1.length:Int) 0 f0 f1 f2)))
def K0{R:Type}(k0:Nat)(K:au R):au R:=bF 0 (bI (fun env ob=>zrc k0 [1,1,1] env ob (K)) (K))
def K1{R:Type}(k0:Nat)(K:au R):au R:=bF 2 (bI (fun env ob=>zrc k0 [1,1,1,1] env ob (K)) (K))
def L0:sZ R:=fun t25x t26x t27x f f3 f4=>iter 0 [1,25,26,27] [1,2] (zrc k0 [1,1,0,1,0,0]) k [(1,.ptr 0 0 0 0),(25,.sl aC t25x),(26,.int .i64 t26x),(27,.int .i64 t27x)] [.box [.int .i64 f,.sl aC f3,.sl aC f4]] K
def L1:sZ R:=fun t78x t79x t80x f f3 f4=>iter 0 [1,78,79,80] [2] (zrc k0 [1,1,1,0,1,0,0]) k [(1,.ptr 0 0 0 0),(78,.sl aC t78x),(79,.int .i64 t79x),(80,.int .i64 t80x)] [.box [.int .i64 f,.sl aC f3,.sl aC f4]] K
def H0:yT R:=fun t2x f f3 f4=>K .ret [(1,.ptr 0 0 0 0),(2,.bool t2x)] [.box [.int .i64 f,.sl aC f3,.sl aC f4]]
def H1:yS R:=fun f f3 f4=>K (.exit 0) [(1,.ptr 0 0 0 0),(2,.undef)] [.box [.int .i64 f,.sl aC f3,.sl aC f4]]
def H2:jM R:=fun t2x=>K .ret [(2,.bool t2x)] []
def H3:eY R:=fun _=>K (.exit 2) [(2,.undef)] []
theorem zs0:L0 k0 (k+1) K=R0 (L0 k0 k K) (H0 K) (H1 K):=by kernel_rfl
theorem zs1:L1 k0 (k+1) K=R1 (L1 k0 k K) (H2 K) (H3 K):=by kernel_rfl
def G0{R:Type}(k0:Nat)(hx0:yT R)(hx1:yS R):Nat→sZ R
 |0=>fun _ _ _ _ _ _=>none
 |k+1=>R0 (G0 k0 hx0 hx1 k) hx0 hx1
theorem aS:∀ k,L0 k0 k K=G0 k0 (H0 K) (H1 K) k:=bP rfl fun k ih=>by rw[zs0,G0];(try simp only[ih]);try rfl
def G1{R:Type}(k0:Nat)(hx2:jM R)(hx3:eY R):Nat→sZ R
 |0=>fun _ _ _ _ _ _=>none
 |k+1=>R1 (G1 k0 hx2 hx3 k) hx2 hx3
theorem dP:∀ k,L1 k0 k K=G1 k0 (H2 K) (H3 K) k:=bP rfl fun k ih=>by rw[zs1,G1];(try simp only[ih,aS]);try rfl
variable (f0:Int) (f1 f2:List U8)
def aA:au (Bool×Unit):=dw Tryz.prog [.tmp 2] IK Ik (f0,f1,f2,())
theorem bf:H0 (K0 k0 (aA f0 f1 f2))=A0 f0 f1 f2:=by kernel_rfl
theorem dB:H1 (K0 k0 (aA f0 f1 f2))=A1 (L1 k0 k0 (K1 k0 (aA f0 f1 f2))) f0 f1 f2:=by kernel_rfl
theorem mG:H2 (K1 k0 (aA f0 f1 f2))=A2 f0 f1 f2:=by kernel_rfl
theorem qR:H3 (K1 k0 (aA f0 f1 f2))=A3 f0 f1 f2:=by kernel_rfl
def FF:Option (Bool×Unit):=T (G0 k0 (A0 f0 f1 f2) (A1 (G1 k0 (A2 f0 f1 f2) (A3 f0 f1 f2) k0) f0 f1 f2) k0) f0 f1 f2
theorem aZ:dA Tryz.prog (aW dG) aB k0 44 IK Ik [] (f0,f1,f2,())=FF k0 f0 f1 f2:=Eq.trans (b:=T (L0 k0 k0 (K0 k0 (aA f0 f1 f2))) f0 f1 f2) (by kernel_rfl) (by rw[FF];(try simp only[aS,dP,bf,dB,mG,qR]);try rfl)
def _root_.Go.Rv.JK:=fun x:U3=>FF (300+x.2.1.length+x.2.2.1.length) x.1 x.2.1 x.2.2.1
abbrev _root_.Go.Rv.Qv:aG:=⟨IK,Ik,JK,[]⟩
theorem _root_.Go.Rv.Zt:aF Dr Tryz.prog 44 Qv:=dJ mix (.c DI (.c Df (.c Ju (.c BV .nil)))) (by kernel_rfl) fun x=>⟨aB,_,aZ _ _ _ _⟩
end iP
def SB.T(n:Int):Option (Bool×Unit):=(ny (n,0,1000000,())).bind fun y1=>some (y1.1,())
def DC:=fun x:Int×Unit=>SB.T x.1
abbrev aaL:aG:=⟨[.v false [CT.int .i64]],[(false,[CT.bool])],DC,[]⟩
theorem aao:aF Dr Tryz.prog 115 aaL:=bC mix (.c zX .nil) (by kernel_rfl) fun x=>by kernel_rfl
def PN.T(l0 l1 l2:Int):Option (Bool×Unit):=(gy (l0,())).bind fun y1=>cond y1.1 ((ji (l1,())).bind fun y2=>cond y2.1 ((DC (l2,())).bind fun y3=>some (y3.1,())) (some (false,()))) (some (false,()))
def BZ:=fun x:U9=>PN.T x.1 x.2.1 x.2.2.1
abbrev H9:aG:=⟨[.v true ct0],[(false,[CT.bool])],BZ,[]⟩
theorem Yv:aF Dr Tryz.prog 93 H9:=bC mix (.c DI (.c Df (.c aao .nil))) (by kernel_rfl) fun x=>by kernel_rfl
abbrev H7:Is:=[.v false [CT.sl ct0]]
abbrev G9:Os:=[(false,[CT.bool])]
namespace jY
def aB:Nat→List Nat×List Nat:=fun k=>if k=2 then([0,5,6,7],[0,2])else([],[])
def zrc{R:Type}(k0:Nat)(p:List Nat):Env→List Ob→au R→Option R:=bJ Tryz.prog (aW [(93,[],H9)]) 34 0 aB k0 (cO p (dI Tryz.prog 45))
def R0{R:Type}(nx0:Fp R)(ex0:OL R)(ex1:OJ R)(list2 t5x:List U9)(t6x t7x:Int):Option R:=cond (decide (t7x<t6x)) (if 0≤t7x∧t7x<(t5x.length:Int)then(BZ ((rd (0,0,0,()) t5x t7x).1,(rd (0,0,0,()) t5x t7x).2.1,(rd (0,0,0,()) t5x t7x).2.2.1,())).bind fun y1=>cond (!y1.1) (ex0 list2 false) (cond (decide (t7x>0)) (if 0≤(af (t7x - 1))∧(af (t7x - 1))<(list2.length:Int)then cond (decide ((rd (0,0,0,()) list2 (af (t7x - 1))).1≥(rd (0,0,0,()) t5x t7x).1)) (ex0 list2 false) (nx0 list2 t5x t6x (af (t7x+1)))else none) (nx0 list2 t5x t6x (af (t7x+1))))else none) (ex1 list2)
def A0(list:List U9)(list2:List U9)(t2x:Bool):Option (Bool×Unit):=some (t2x,())
def A1(list:List U9)(list2:List U9):Option (Bool×Unit):=some ((decide ((list2.length:Int)≤60)),())
def T(lo0:Fp (Bool×Unit))(list:List U9):Option (Bool×Unit):=lo0 list list (list.length:Int) 0
def K0{R:Type}(k0:Nat)(K:au R):au R:=bF 0 (bI (fun env ob=>zrc k0 [1,1] env ob (K)) (K))
def L0:Fp R:=fun list2 t5x t6x t7x=>iter 0 [0,5,6,7] [0,2] (zrc k0 [1,0,1,0,0]) k [(0,.sl ct0 list2),(5,.sl ct0 t5x),(6,.int .i64 t6x),(7,.int .i64 t7x)] [] K
def H0:OL R:=fun list2 t2x=>K .ret [(0,.sl ct0 list2),(2,.bool t2x)] []
def H1:OJ R:=fun list2=>K (.exit 0) [(0,.sl ct0 list2),(2,.undef)] []
theorem zs0:L0 k0 (k+1) K=R0 (L0 k0 k K) (H0 K) (H1 K):=by kernel_rfl
def G0{R:Type}(k0:Nat)(hx0:OL R)(hx1:OJ R):Nat→Fp R
 |0=>fun _ _ _ _=>none
 |k+1=>R0 (G0 k0 hx0 hx1 k) hx0 hx1
theorem aS:∀ k,L0 k0 k K=G0 k0 (H0 K) (H1 K) k:=bP rfl fun k ih=>by rw[zs0,G0];(try simp only[ih]);try rfl
variable (list:List U9)
def aA:au (Bool×Unit):=dw Tryz.prog [.tmp 2] H7 G9 (list,())
theorem bf:H0 (K0 k0 (aA list))=A0 list:=by kernel_rfl
theorem dB:H1 (K0 k0 (aA list))=A1 list:=by kernel_rfl
def FF:Option (Bool×Unit):=T (G0 k0 (A0 list) (A1 list) k0) list
theorem aZ:dA Tryz.prog (aW [(93,[],H9)]) aB k0 45 H7 G9 [] (list,())=FF k0 list:=Eq.trans (b:=T (L0 k0 k0 (K0 k0 (aA list))) list) (by kernel_rfl) (by rw[FF];(try simp only[aS,bf,dB]);try rfl)
def _root_.Go.Rv.IW:=fun x:(List U9)×Unit=>FF (300+x.1.length) x.1
abbrev _root_.Go.Rv.PW:aG:=⟨H7,G9,IW,[]⟩
theorem _root_.Go.Rv.YH:aF Dr Tryz.prog 45 PW:=dJ mix (.c Yv .nil) (by kernel_rfl) fun x=>⟨aB,_,aZ _ _⟩
end jY
abbrev Hz:Is:=[.v true jg]
abbrev G8:Os:=[(false,[CT.bool])]
namespace kN
def dG:Tb:=[(43,[],Ul),(44,[],Qv),(45,[],PW)]
def aB:Nat→List Nat×List Nat:=fun k=>if k=4 then([1,46,47,48],[2])else([],[])
def zrc{R:Type}(k0:Nat)(p:List Nat):Env→List Ob→au R→Option R:=bJ Tryz.prog (aW dG) 78 0 aB k0 (cO p (dI Tryz.prog 12))
def R0{R:Type}(nx0:Fj R)(ex0:jM R)(ex1:eY R)(t46x:List U9)(t47x t48x s s7 s8 s9:Int)(s10 s11:List U8)(s12:List U9):Option R:=cond (decide (t48x<t47x)) (if 0≤t48x∧t48x<(t46x.length:Int)then if 0≤t48x∧t48x<(s11.length:Int)then cond ((rd (0,0,0,()) t46x t48x).1 != (rd (0,0,0,0,()) s11 t48x).1) (ex0 false) ((ny ((rd (0,0,0,()) t46x t48x).2.2.1,(af (s8+1)),(af (s8+s)),())).bind fun y1=>cond (!y1.1) (ex0 false) (nx0 t46x t47x (af (t48x+1)) s s7 s8 s9 s10 s11 s12))else none else none) (ex1 ())
def A0(s0 s1 s2 s3:Int)(s4 s5:List U8)(s6:List U9)(t2x:Bool):Option (Bool×Unit):=some (t2x,())
def A1(s0 s1 s2 s3:Int)(s4 s5:List U8)(s6:List U9)(_u:Unit):Option (Bool×Unit):=some (true,())
def T(lo0:Fj (Bool×Unit))(s0 s1 s2 s3:Int)(s4 s5:List U8)(s6:List U9):Option (Bool×Unit):=(ny (s0,1,1000,())).bind fun y1=>cond (!y1.1) (some (false,())) ((ny (s2,0,999000,())).bind fun y2=>cond (!y2.1) (some (false,())) ((ny (s1,0,s2,())).bind fun y3=>cond (!y3.1) (some (false,())) ((JK (s3,s4,s5,())).bind fun y4=>cond (!y4.1) (some (false,())) ((IW (s6,())).bind fun y5=>cond (!y5.1) (some (false,())) (cond ((s6.length:Int) != (s5.length:Int)) (some (false,())) (lo0 s6 (s6.length:Int) 0 s0 s1 s2 s3 s4 s5 s6))))))
def K0{R:Type}(k0:Nat)(K:au R):au R:=bF 0 (bI (fun env ob=>zrc k0 [1,1,1] env ob (K)) (K))
def L0:Fj R:=fun t46x t47x t48x s s7 s8 s9 s10 s11 s12=>iter 0 [1,46,47,48] [2] (zrc k0 [1,1,0,1,0,0]) k [(1,.ptr 0 0 0 0),(46,.sl ct0 t46x),(47,.int .i64 t47x),(48,.int .i64 t48x)] [.box [.int .i64 s,.int .i64 s7,.int .i64 s8,.int .i64 s9,.sl aC s10,.sl aC s11,.sl ct0 s12]] K
def H0:jM R:=fun t2x=>K .ret [(2,.bool t2x)] []
def H1:eY R:=fun _=>K (.exit 0) [(2,.undef)] []
theorem zs0:L0 k0 (k+1) K=R0 (L0 k0 k K) (H0 K) (H1 K):=by kernel_rfl
def G0{R:Type}(k0:Nat)(hx0:jM R)(hx1:eY R):Nat→Fj R
 |0=>fun _ _ _ _ _ _ _ _ _ _=>none
 |k+1=>R0 (G0 k0 hx0 hx1 k) hx0 hx1
theorem aS:∀ k,L0 k0 k K=G0 k0 (H0 K) (H1 K) k:=bP rfl fun k ih=>by rw[zs0,G0];(try simp only[ih]);try rfl
variable (s0 s1 s2 s3:Int) (s4 s5:List U8) (s6:List U9)
def aA:au (Bool×Unit):=dw Tryz.prog [.tmp 2] Hz G8 (s0,s1,s2,s3,s4,s5,s6,())
theorem bf:H0 (K0 k0 (aA s0 s1 s2 s3 s4 s5 s6))=A0 s0 s1 s2 s3 s4 s5 s6:=by kernel_rfl
theorem dB:H1 (K0 k0 (aA s0 s1 s2 s3 s4 s5 s6))=A1 s0 s1 s2 s3 s4 s5 s6:=by kernel_rfl
def FF:Option (Bool×Unit):=T (G0 k0 (A0 s0 s1 s2 s3 s4 s5 s6) (A1 s0 s1 s2 s3 s4 s5 s6) k0) s0 s1 s2 s3 s4 s5 s6
theorem aZ:dA Tryz.prog (aW dG) aB k0 12 Hz G8 [] (s0,s1,s2,s3,s4,s5,s6,())=FF k0 s0 s1 s2 s3 s4 s5 s6:=Eq.trans (b:=T (L0 k0 k0 (K0 k0 (aA s0 s1 s2 s3 s4 s5 s6))) s0 s1 s2 s3 s4 s5 s6) (by kernel_rfl) (by rw[FF];(try simp only[aS,bf,dB]);try rfl)
def _root_.Go.Rv.IV:=fun x:U1=>FF (300+x.2.2.2.2.1.length+x.2.2.2.2.2.1.length+x.2.2.2.2.2.2.1.length) x.1 x.2.1 x.2.2.1 x.2.2.2.1 x.2.2.2.2.1 x.2.2.2.2.2.1 x.2.2.2.2.2.2.1
abbrev _root_.Go.Rv.Zd:aG:=⟨Hz,G8,IV,[]⟩
theorem _root_.Go.Rv.YG:aF Dr Tryz.prog 12 Zd:=dJ mix (.c zX (.c Zt (.c YH .nil))) (by kernel_rfl) fun x=>⟨aB,_,aZ _ _ _ _ _ _ _ _⟩
end kN
def zL.T(e0 e1 e2 e3 e4:Int):Option (Bool×Unit):=cond (e2==0) (cond (e0==1) ((ji (e3,())).bind fun y1=>(kz (e4,())).bind fun y2=>(gy (e1,())).bind fun y3=>cond y3.1 (cond y1.1 (some (y2.1,())) (some (false,()))) (cond (e0==8) (cond (e1==0) (cond y1.1 (some (y2.1,())) (some (false,()))) (some (false,()))) (some (false,())))) (cond (e0==6) ((ji (e3,())).bind fun y4=>(kz (e4,())).bind fun y5=>(gy (e1,())).bind fun y6=>cond y6.1 (cond y4.1 (some (y5.1,())) (some (false,()))) (cond (e0==8) (cond (e1==0) (cond y4.1 (some (y5.1,())) (some (false,()))) (some (false,()))) (some (false,())))) (cond (e0==3) ((ji (e3,())).bind fun y7=>(gy (e1,())).bind fun y8=>cond y8.1 (cond (e2==0) (cond y7.1 (some ((e4==0),())) (some (false,()))) (some (false,()))) (cond (e0==8) (cond (e1==0) (cond (e2==0) (cond y7.1 (some ((e4==0),())) (some (false,()))) (some (false,()))) (some (false,()))) (some (false,())))) (cond (e0==8) ((ji (e3,())).bind fun y9=>(gy (e1,())).bind fun y10=>cond y10.1 (cond (e2==0) (cond y9.1 (some ((e4==0),())) (some (false,()))) (some (false,()))) (cond (e0==8) (cond (e1==0) (cond (e2==0) (cond y9.1 (some ((e4==0),())) (some (false,()))) (some (false,()))) (some (false,()))) (some (false,())))) (cond (e0==4) ((kz (e3,())).bind fun y11=>(gy (e1,())).bind fun y12=>cond y12.1 (cond (e2==0) (cond y11.1 (some ((e4==0),())) (some (false,()))) (some (false,()))) (cond (e0==8) (cond (e1==0) (cond (e2==0) (cond y11.1 (some ((e4==0),())) (some (false,()))) (some (false,()))) (some (false,()))) (some (false,())))) (cond (e0==5) ((gy (e1,())).bind fun y13=>cond y13.1 (cond (e3==0) (some ((e4==0),())) (some (false,()))) (cond (e0==8) (cond (e1==0) (cond (e3==0) (some ((e4==0),())) (some (false,()))) (some (false,()))) (some (false,())))) (cond (e0==2) ((gy (e1,())).bind fun y14=>cond y14.1 (cond (e2==0) (cond (e3==0) (some ((e4==0),())) (some (false,()))) (some (false,()))) (cond (e0==8) (cond (e1==0) (cond (e2==0) (cond (e3==0) (some ((e4==0),())) (some (false,()))) (some (false,()))) (some (false,()))) (some (false,())))) (cond (e0==7) ((gy (e1,())).bind fun y15=>cond y15.1 (cond (e2==0) (cond (e3==0) (some ((e4==0),())) (some (false,()))) (some (false,()))) (cond (e0==8) (cond (e1==0) (cond (e2==0) (cond (e3==0) (some ((e4==0),())) (some (false,()))) (some (false,()))) (some (false,()))) (some (false,())))) (some (false,())))))))))) ((gy (e2,())).bind fun y16=>cond (e0==1) ((ji (e3,())).bind fun y17=>(kz (e4,())).bind fun y18=>(gy (e1,())).bind fun y19=>cond y19.1 (cond y16.1 (cond y17.1 (some (y18.1,())) (some (false,()))) (some (false,()))) (cond (e0==8) (cond (e1==0) (cond y16.1 (cond y17.1 (some (y18.1,())) (some (false,()))) (some (false,()))) (some (false,()))) (some (false,())))) (cond (e0==6) ((ji (e3,())).bind fun y20=>(kz (e4,())).bind fun y21=>(gy (e1,())).bind fun y22=>cond y22.1 (cond y16.1 (cond y20.1 (some (y21.1,())) (some (false,()))) (some (false,()))) (cond (e0==8) (cond (e1==0) (cond y16.1 (cond y20.1 (some (y21.1,())) (some (false,()))) (some (false,()))) (some (false,()))) (some (false,())))) (cond (e0==3) ((ji (e3,())).bind fun y23=>(gy (e1,())).bind fun y24=>cond y24.1 (cond (e2==0) (cond y23.1 (some ((e4==0),())) (some (false,()))) (some (false,()))) (cond (e0==8) (cond (e1==0) (cond (e2==0) (cond y23.1 (some ((e4==0),())) (some (false,()))) (some (false,()))) (some (false,()))) (some (false,())))) (cond (e0==8) ((ji (e3,())).bind fun y25=>(gy (e1,())).bind fun y26=>cond y26.1 (cond (e2==0) (cond y25.1 (some ((e4==0),())) (some (false,()))) (some (false,()))) (cond (e0==8) (cond (e1==0) (cond (e2==0) (cond y25.1 (some ((e4==0),())) (some (false,()))) (some (false,()))) (some (false,()))) (some (false,())))) (cond (e0==4) ((kz (e3,())).bind fun y27=>(gy (e1,())).bind fun y28=>cond y28.1 (cond (e2==0) (cond y27.1 (some ((e4==0),())) (some (false,()))) (some (false,()))) (cond (e0==8) (cond (e1==0) (cond (e2==0) (cond y27.1 (some ((e4==0),())) (some (false,()))) (some (false,()))) (some (false,()))) (some (false,())))) (cond (e0==5) ((gy (e1,())).bind fun y29=>cond y29.1 (cond y16.1 (cond (e3==0) (some ((e4==0),())) (some (false,()))) (some (false,()))) (cond (e0==8) (cond (e1==0) (cond y16.1 (cond (e3==0) (some ((e4==0),())) (some (false,()))) (some (false,()))) (some (false,()))) (some (false,())))) (cond (e0==2) ((gy (e1,())).bind fun y30=>cond y30.1 (cond (e2==0) (cond (e3==0) (some ((e4==0),())) (some (false,()))) (some (false,()))) (cond (e0==8) (cond (e1==0) (cond (e2==0) (cond (e3==0) (some ((e4==0),())) (some (false,()))) (some (false,()))) (some (false,()))) (some (false,())))) (cond (e0==7) ((gy (e1,())).bind fun y31=>cond y31.1 (cond (e2==0) (cond (e3==0) (some ((e4==0),())) (some (false,()))) (some (false,()))) (cond (e0==8) (cond (e1==0) (cond (e2==0) (cond (e3==0) (some ((e4==0),())) (some (false,()))) (some (false,()))) (some (false,()))) (some (false,())))) (some (false,()))))))))))
def oP:=fun x:U6=>zL.T x.1 x.2.1 x.2.2.1 x.2.2.2.1 x.2.2.2.2.1
abbrev ZP:aG:=⟨[.v true fZ],[(false,[CT.bool])],oP,[]⟩
theorem Zu:aF Dr Tryz.prog 98 ZP:=bC mix (.c DI (.c Df (.c Ju .nil))) (by kernel_rfl) fun x=>by kernel_rfl
def SC.T(e0 e1 e2 e3 e4:Int):Option (Bool×Unit):=(oP (e0,e1,e2,e3,e4,())).bind fun y1=>cond y1.1 (cond (e0 != 6) (some (true,())) (some ((decide (e2<e1)),()))) (some (false,()))
def KC:=fun x:U6=>SC.T x.1 x.2.1 x.2.2.1 x.2.2.2.1 x.2.2.2.2.1
abbrev aaM:aG:=⟨[.v true fZ],[(false,[CT.bool])],KC,[]⟩
theorem aap:aF Dr Tryz.prog 71 aaM:=bC mix (.c Zu .nil) (by kernel_rfl) fun x=>by kernel_rfl
def RV.T(o0 o1 o2 o3 o4:Int):Option (Bool×Unit):=cond (o0==1) ((gy (o1,())).bind fun y1=>cond y1.1 (cond (o2==0) ((ji (o3,())).bind fun y2=>cond y2.1 ((kz (o4,())).bind fun y3=>some (y3.1,())) (some (false,()))) ((gy (o2,())).bind fun y4=>cond y4.1 ((ji (o3,())).bind fun y5=>cond y5.1 ((kz (o4,())).bind fun y6=>some (y6.1,())) (some (false,()))) (some (false,())))) (some (false,()))) (cond (o0==2) ((gy (o1,())).bind fun y7=>cond y7.1 (some (((o0==2)&&((o1==o1)&&((o2==0)&&((o3==0)&&((o4==0)&&true))))),())) (some (false,()))) (cond (o0==4) (some (((o0==o0)&&((o1==0)&&((o2==0)&&((o3==0)&&((o4==0)&&true))))),())) (cond (o0==5) (some (((o0==o0)&&((o1==0)&&((o2==0)&&((o3==0)&&((o4==0)&&true))))),())) ((mY (o0,o1,o2,o3,o4,())).bind fun y8=>(KC (y8.1,y8.2.1,y8.2.2.1,y8.2.2.2.1,y8.2.2.2.2.1,())).bind fun y9=>some (y9.1,())))))
def Du:=fun x:U6=>RV.T x.1 x.2.1 x.2.2.1 x.2.2.2.1 x.2.2.2.2.1
abbrev aaB:aG:=⟨[.v true fZ],[(false,[CT.bool])],Du,[]⟩
theorem aac:aF Dr Tryz.prog 32 aaB:=bC mix (.c DI (.c Df (.c Ju (.c aap (.c QB .nil))))) (by kernel_rfl) fun x=>by kernel_rfl
def GL.T(s:List U8):Option ((List U8)×Unit):=if s.length=0 then(@ite _ (some ([],())=if([]:List U8).length+s.length≤maxRow then some ((([]:List U8)++s),())else none) (Classical.propDecidable _) (if([]:List U8).length+s.length≤maxRow then some ((([]:List U8)++s),())else none) none)else if([]:List U8).length+s.length≤maxRow then some ((([]:List U8)++s),())else none
def GI:=fun x:(List U8)×Unit=>GL.T x.1
abbrev Yg:aG:=⟨[.v false [CT.sl aC]],[(false,[CT.sl aC])],GI,[]⟩
theorem Ye:aF Dr Tryz.prog 99 Yg:=bC mix .nil (by kernel_rfl) fun x=>by kernel_rfl
def Gz.T(s:List U8):Option ((List U8)×Unit):=if s.length=0 then(@ite _ (some ([],())=if([]:List U8).length+s.length≤maxRow then some ((([]:List U8)++s),())else none) (Classical.propDecidable _) (if([]:List U8).length+s.length≤maxRow then some ((([]:List U8)++s),())else none) none)else if([]:List U8).length+s.length≤maxRow then some ((([]:List U8)++s),())else none
def Gx:=fun x:(List U8)×Unit=>Gz.T x.1
abbrev Yd:aG:=⟨[.v false [CT.sl aC]],[(false,[CT.sl aC])],Gx,[]⟩
theorem X6:aF Dr Tryz.prog 100 Yd:=bC mix .nil (by kernel_rfl) fun x=>by kernel_rfl
def JE.T(f0:Int)(f1 f2:List U8):Option (U3):=(GI (f1,())).bind fun y1=>(Gx (f2,())).bind fun y2=>some (f0,y1.1,y2.1,())
def IX:=fun x:U3=>JE.T x.1 x.2.1 x.2.2.1
abbrev Zf:aG:=⟨[.v true gI],[(true,gI)],IX,[]⟩
theorem YJ:aF Dr Tryz.prog 73 Zf:=bC mix (.c Ye (.c X6 .nil)) (by kernel_rfl) fun x=>by kernel_rfl
def IL.T(s0 s1 s2 s3:Int)(s4 s5:List U8)(s6:List U9):Option (U1):=(IX (s3,s4,s5,())).bind fun y1=>(BQ (s6,())).bind fun y2=>some (s0,s1,s2,y1.1,y1.2.1,y1.2.2.1,y2.1,())
def Ic:=fun x:U1=>IL.T x.1 x.2.1 x.2.2.1 x.2.2.2.1 x.2.2.2.2.1 x.2.2.2.2.2.1 x.2.2.2.2.2.2.1
abbrev YB:aG:=⟨[.v true jg],[(true,jg)],Ic,[]⟩
theorem Yu:aF Dr Tryz.prog 33 YB:=bC mix (.c YJ (.c Po .nil)) (by kernel_rfl) fun x=>by kernel_rfl
def uz.T(s0 s1 s2 s3:Int)(s4 s5:List U8)(s6:List U9)(o0 o1 o2 o3 o4:Int):Option (U0):=(IV (s0,s1,s2,s3,s4,s5,s6,())).bind fun y1=>cond (!y1.1) (some (0,0,0,0,[],[],[],0,0,1,())) ((Du (o0,o1,o2,o3,o4,())).bind fun y2=>cond (!y2.1) (some (0,0,0,0,[],[],[],0,0,1,())) ((Ic (s0,s1,s2,s3,s4,s5,s6,())).bind fun y3=>(wG (y3.1,y3.2.1,y3.2.2.1,y3.2.2.2.1,y3.2.2.2.2.1,y3.2.2.2.2.2.1,y3.2.2.2.2.2.2.1,o0,o1,o2,o3,o4,())).bind fun y4=>cond (y4.2.2.1 != 0) (some (0,0,0,0,[],[],[],0,0,y4.2.2.1,())) (some (y4.2.2.2.1,y4.2.2.2.2.1,y4.2.2.2.2.2.1,y4.2.2.2.2.2.2.1,y4.2.2.2.2.2.2.2.1,y4.2.2.2.2.2.2.2.2.1,y4.2.2.2.2.2.2.2.2.2.1,y4.1,y4.2.1,0,()))))
def oU:=fun x:Int×Int×Int×Int×(List U8)×(List U8)×(List U9)×U6=>uz.T x.1 x.2.1 x.2.2.1 x.2.2.2.1 x.2.2.2.2.1 x.2.2.2.2.2.1 x.2.2.2.2.2.2.1 x.2.2.2.2.2.2.2.1 x.2.2.2.2.2.2.2.2.1 x.2.2.2.2.2.2.2.2.2.1 x.2.2.2.2.2.2.2.2.2.2.1 x.2.2.2.2.2.2.2.2.2.2.2.1
abbrev aag:aG:=⟨[.v true jg,.v true fZ],[(true,Fa)],oU,[]⟩
theorem ZK:aF KN Tryz.prog 10 aag:=bC mix (.c YG (.c aac (.c Yu (.c P7 .nil)))) (by kernel_rfl) fun x=>by kernel_rfl
def JP.T(code more:List (Int×Unit)):Option (Bool×Unit):=cond (decide ((code.length:Int)>1048576)) (some (true,())) (cond (decide ((more.length:Int)>1048576)) (some (true,())) ((Ce (code,())).bind fun y1=>(zk (y1.1,y1.2.1,y1.2.2.1,y1.2.2.2.1,y1.2.2.2.2.1,y1.2.2.2.2.2.1,y1.2.2.2.2.2.2.1,())).bind fun y2=>cond (!y2.1) (some (true,())) ((wY (more,0,200,())).bind fun y3=>(wY (more,1,100,())).bind fun y4=>(wY (more,2,9,())).bind fun y5=>(oU (y1.1,y1.2.1,y1.2.2.1,y1.2.2.2.1,y1.2.2.2.2.1,y1.2.2.2.2.2.1,y1.2.2.2.2.2.2.1,1,(af (1+y3.1)),0,y4.1,(af (1+y5.1)),())).bind fun y6=>cond (!((y6.2.2.2.2.2.2.2.2.2.1==7)==(decide (y1.2.2.1<(af (y1.2.1+y1.1)))))) (some (false,())) ((oU (y1.1,y1.2.1,y1.2.2.1,y1.2.2.2.1,y1.2.2.2.2.1,y1.2.2.2.2.2.1,y1.2.2.2.2.2.2.1,5,0,0,0,0,())).bind fun y7=>cond (y7.2.2.2.2.2.2.2.2.2.1 != 0) (some (false,())) (cond ((y7.2.2.2.2.2.2.1.length:Int) != 0) (some (false,())) (cond ((y7.2.2.2.2.2.1.length:Int) != 0) (some (false,())) ((oU (y7.1,y7.2.1,y7.2.2.1,y7.2.2.2.1,y7.2.2.2.2.1,y7.2.2.2.2.2.1,y7.2.2.2.2.2.2.1,1,(af (1+y3.1)),0,y4.1,(af (1+y5.1)),())).bind fun y8=>some ((y8.2.2.2.2.2.2.2.2.2.1==7),()))))))))
def Jl:=fun x:(List (Int×Unit))×(List (Int×Unit))×Unit=>JP.T x.1 x.2.1
abbrev Qd:aG:=⟨[.v false [CT.sh [CT.int .u8]],.v false [CT.sh [CT.int .u8]]],[(false,[CT.bool])],Jl,[]⟩
theorem YU:aF KN Tryz.prog 3 Qd:=bC mix (.c Yy (.c Il (.c aaU (.c ZK .nil)))) (by kernel_rfl) fun x=>by kernel_rfl
end Go.Rv
end
