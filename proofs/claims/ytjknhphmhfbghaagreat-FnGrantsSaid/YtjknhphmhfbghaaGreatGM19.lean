/- What functions come to on pure values (printed by a program of ours). -/
import Derived.Test.YtjknhphmhfbghaaGreatGM18
set_option linter.unusedVariables false
set_option linter.unusedSimpArgs false
set_option linter.unusedSectionVars false
set_option maxRecDepth 100000
noncomputable section
namespace Go.Rv
open Go.Proofs
variable {Dr:Kn} {R:Type} (k0 k:Nat) (K:au R)
abbrev Hr:Is:=[.m qW,.v true jh,.v false [CT.int .i64]]
abbrev Ho:Os:=[(false,[CT.sl gy])]
namespace lH
def aC:Nat→List Nat×List Nat:=fun k=>if k=2 then([0,2,4,7],[7])else([],[])
def zrc{R:Type}(k0:Nat)(p:List Nat):Env→List Ob→au R→Option R:=bJ Tryz.prog (aW [(11,[],uq),(28,[],IJ)]) 31 1 aC k0 (cO p (dI Tryz.prog 49))
def R0{R:Type}(nx1:FU R)(nx0:FT R)(ex0:BM R)(n2:Int)(s:List (Int×Unit))(s4 s5 s6 x x7 x8 x9:Int)(x10 x11:List U8)(x12:List U9)(out:List U6):Option R:=cond (decide (n2>0)) ((wC (s,s4,s5,s6,x,x7,x8,x9,x10,x11,x12,())).bind fun y1=>if out.length+[(y1.1,y1.2.1,y1.2.2.1,y1.2.2.2.1,y1.2.2.2.2.1,())].length≤maxRow then(jF (x,x7,x8,x9,x10,x11,x12,y1.1,y1.2.1,y1.2.2.1,y1.2.2.2.1,y1.2.2.2.2.1,())).bind fun y2=>cond (y2.2.2.2.2.2.2.2.2.2.1==0) (nx1 (af (n2 - 1)) y1.2.2.2.2.2.1 y1.2.2.2.2.2.2.1 y1.2.2.2.2.2.2.2.1 y1.2.2.2.2.2.2.2.2.1 y2.1 y2.2.1 y2.2.2.1 y2.2.2.2.1 (out++[(y1.1,y1.2.1,y1.2.2.1,y1.2.2.2.1,y1.2.2.2.2.1,())]) y2.2.2.2.2.1 y2.2.2.2.2.2.1 y2.2.2.2.2.2.2.1) (nx0 (af (n2 - 1)) y1.2.2.2.2.2.1 y1.2.2.2.2.2.2.1 y1.2.2.2.2.2.2.2.1 y1.2.2.2.2.2.2.2.2.1 x x7 x8 x9 x10 x11 x12 (out++[(y1.1,y1.2.1,y1.2.2.1,y1.2.2.2.1,y1.2.2.2.2.1,())]))else none) (ex0 s s4 s5 s6 out)
def R1{R:Type}(nx1:FU R)(ex0:BM R)(n2:Int)(s:List (Int×Unit))(s4 s5 s6 x x7 x8 x9:Int)(out:List U6)(o3 o4:List U8)(o5:List U9):Option R:=cond (decide (n2>0)) ((wC (s,s4,s5,s6,x,x7,x8,x9,o3,o4,o5,())).bind fun y1=>if out.length+[(y1.1,y1.2.1,y1.2.2.1,y1.2.2.2.1,y1.2.2.2.2.1,())].length≤maxRow then(jF (x,x7,x8,x9,o3,o4,o5,y1.1,y1.2.1,y1.2.2.1,y1.2.2.2.1,y1.2.2.2.2.1,())).bind fun y2=>cond (y2.2.2.2.2.2.2.2.2.2.1==0) (nx1 (af (n2 - 1)) y1.2.2.2.2.2.1 y1.2.2.2.2.2.2.1 y1.2.2.2.2.2.2.2.1 y1.2.2.2.2.2.2.2.2.1 y2.1 y2.2.1 y2.2.2.1 y2.2.2.2.1 (out++[(y1.1,y1.2.1,y1.2.2.1,y1.2.2.2.1,y1.2.2.2.2.1,())]) y2.2.2.2.2.1 y2.2.2.2.2.2.1 y2.2.2.2.2.2.2.1) (nx1 (af (n2 - 1)) y1.2.2.2.2.2.1 y1.2.2.2.2.2.2.1 y1.2.2.2.2.2.2.2.1 y1.2.2.2.2.2.2.2.2.1 x x7 x8 x9 (out++[(y1.1,y1.2.1,y1.2.2.1,y1.2.2.2.1,y1.2.2.2.2.1,())]) o3 o4 o5)else none) (ex0 s s4 s5 s6 out)
def A0(s0:List (Int×Unit))(s1 s2 s3 x0 x1 x2 x3:Int)(x4 x5:List U8)(x6:List U9)(n:Int)(o0:List (Int×Unit))(o02 o03 o04:Int)(out:List U6):Option ((List U6)×U5):=some (out,o0,o02,o03,o04,())
def T(lo0:FT ((List U6)×U5))(s0:List (Int×Unit))(s1 s2 s3 x0 x1 x2 x3:Int)(x4 x5:List U8)(x6:List U9)(n:Int):Option ((List U6)×U5):=lo0 n s0 s1 s2 s3 x0 x1 x2 x3 x4 x5 x6 ([]:List U6)
def K0{R:Type}(k0:Nat)(K:au R):au R:=bF 0 (bI (fun env ob=>zrc k0 [1,1,1] env ob (K)) (K))
def L0:FT R:=fun n2 s s4 s5 s6 x x7 x8 x9 x10 x11 x12 out=>iter 1 [0,2,4,7] [7] (zrc k0 [1,1,0,0,0]) k [(0,.ptr 0 0 0 0),(2,.int .i64 n2),(4,.ptr 1 0 0 0),(7,.own 2)] [.box [.sh [CT.int .u8] s,.int .i64 s4,.int .u64 s5,.int .i64 s6],.box [.int .i64 x,.int .i64 x7,.int .i64 x8,.int .i64 x9,.sl aA x10,.sl aA x11,.sl ct0 x12],.arr gy out] K
def L1:FU R:=fun n2 s s4 s5 s6 x x7 x8 x9 out o3 o4 o5=>iter 1 [0,2,4,7] [7] (zrc k0 [1,1,0,0,0]) k [(0,.ptr 0 0 0 0),(2,.int .i64 n2),(4,.ptr 1 0 0 0),(7,.own 2)] [.box [.sh [CT.int .u8] s,.int .i64 s4,.int .u64 s5,.int .i64 s6],.box [.int .i64 x,.int .i64 x7,.int .i64 x8,.int .i64 x9,.own 3,.own 4,.own 5],.arr gy out,.arr aA o3,.arr aA o4,.arr ct0 o5] K
def H0:BM R:=fun o0 o02 o03 o04 out=>K (.exit 0) [(7,.own 1)] [.box [.sh [CT.int .u8] o0,.int .i64 o02,.int .u64 o03,.int .i64 o04],.arr gy out]
theorem zs0:L0 k0 (k+1) K=R0 (L1 k0 k K) (L0 k0 k K) (H0 K):=by kernel_rfl
theorem zs1:L1 k0 (k+1) K=R1 (L1 k0 k K) (H0 K):=by kernel_rfl
def G1{R:Type}(k0:Nat)(hx0:BM R):Nat→FU R
 |0=>fun _ _ _ _ _ _ _ _ _ _ _ _ _=>none
 |k+1=>R1 (G1 k0 hx0 k) hx0
theorem dL:∀ k,L1 k0 k K=G1 k0 (H0 K) k:=bK rfl fun k ih=>by rw[zs1,G1];(try simp only[ih]);try rfl
def G0{R:Type}(k0:Nat)(hx0:BM R):Nat→FT R
 |0=>fun _ _ _ _ _ _ _ _ _ _ _ _ _=>none
 |k+1=>R0 (G1 k0 hx0 k) (G0 k0 hx0 k) hx0
theorem aS:∀ k,L0 k0 k K=G0 k0 (H0 K) k:=bK rfl fun k ih=>by rw[zs0,G0];(try simp only[ih,dL]);try rfl
variable (s0:List (Int×Unit)) (s1 s2 s3 x0 x1 x2 x3:Int) (x4 x5:List U8) (x6:List U9) (n:Int)
def aB:au ((List U6)×U5):=dm Tryz.prog [.tmp 6] Hr Ho (s0,s1,s2,s3,x0,x1,x2,x3,x4,x5,x6,n,())
theorem aZ:H0 (K0 k0 (aB s0 s1 s2 s3 x0 x1 x2 x3 x4 x5 x6 n))=A0 s0 s1 s2 s3 x0 x1 x2 x3 x4 x5 x6 n:=by kernel_rfl
def FF:Option ((List U6)×U5):=T (G0 k0 (A0 s0 s1 s2 s3 x0 x1 x2 x3 x4 x5 x6 n) k0) s0 s1 s2 s3 x0 x1 x2 x3 x4 x5 x6 n
theorem aY:dB Tryz.prog (aW [(11,[],uq),(28,[],IJ)]) aC k0 49 Hr Ho [] (s0,s1,s2,s3,x0,x1,x2,x3,x4,x5,x6,n,())=FF k0 s0 s1 s2 s3 x0 x1 x2 x3 x4 x5 x6 n:=Eq.trans (b:=T (L0 k0 k0 (K0 k0 (aB s0 s1 s2 s3 x0 x1 x2 x3 x4 x5 x6 n))) s0 s1 s2 s3 x0 x1 x2 x3 x4 x5 x6 n) (by kernel_rfl) (by rw[FF];(try simp only[dL,aS,aZ]);try rfl)
def _root_.Go.Rv.Ir:=fun x:(List (Int×Unit))×Int×Int×Int×Int×Int×Int×Int×(List U8)×(List U8)×(List U9)×Int×Unit=>FF (400) x.1 x.2.1 x.2.2.1 x.2.2.2.1 x.2.2.2.2.1 x.2.2.2.2.2.1 x.2.2.2.2.2.2.1 x.2.2.2.2.2.2.2.1 x.2.2.2.2.2.2.2.2.1 x.2.2.2.2.2.2.2.2.2.1 x.2.2.2.2.2.2.2.2.2.2.1 x.2.2.2.2.2.2.2.2.2.2.2.1
abbrev _root_.Go.Rv.PO:aG:=⟨Hr,Ho,Ir,[]⟩
theorem _root_.Go.Rv.YT:aF Dr Tryz.prog 49 PO:=dJ mix (.c CY (.c PL .nil)) (by kernel_rfl) fun x=>⟨aC,_,aY _ _ _ _ _ _ _ _ _ _ _ _ _⟩
end lH
def Ro.T(length cap:Int):Option (U1):=(zu (length,())).bind fun y1=>cond (!y1.1) (some (0,0,0,0,[],[],[],())) ((dZ (cap,())).bind fun y2=>cond (!y2.1) (some (0,0,0,0,[],[],[],())) (some (length,0,0,cap,[],[],[],())))
def Df:=fun x:aK=>Ro.T x.1 x.2.1
abbrev QG:aG:=⟨[.v false [CT.int .i64],.v false [CT.int .i64]],[(true,jh)],Df,[]⟩
theorem ZG:aF Dr Tryz.prog 58 QG:=bg mix (.c Qk (.c uo .nil)) (by kernel_rfl) fun x=>by kernel_rfl
abbrev JZ:Is:=[.v true jh,.v false [CT.sl gy]]
abbrev JA:Os:=[(false,[CT.sl ct0]),(true,jh)]
namespace qx
def aC:Nat→List Nat×List Nat:=fun k=>if k=4 then([1,5,6,7,8],[5,6,7])else([],[])
def zrc{R:Type}(k0:Nat)(p:List Nat):Env→List Ob→au R→Option R:=bJ Tryz.prog (aW [(11,[],uq),(42,[],uD)]) 42 0 aC k0 (cO p (dI Tryz.prog 96))
def R0{R:Type}(nx0:FQ R)(ex0:OY R)(list2:List U6)(i t5x t5x2 t5x3 t5x4:Int)(out:List U9)(now now2 now3 now4:Int)(o3 o4:List U8)(o5:List U9):Option R:=cond (decide (i<(list2.length:Int))) (if 0≤i∧i<(list2.length:Int)then(jF (now,now2,now3,now4,o3,o4,o5,(rd (0,0,0,0,0,()) list2 i).1,(rd (0,0,0,0,0,()) list2 i).2.1,(rd (0,0,0,0,0,()) list2 i).2.2.1,(rd (0,0,0,0,0,()) list2 i).2.2.2.1,(rd (0,0,0,0,0,()) list2 i).2.2.2.2.1,())).bind fun y1=>if out.length+[(y1.2.2.2.2.2.2.2.1,y1.2.2.2.2.2.2.2.2.1,y1.2.2.2.2.2.2.2.2.2.1,())].length≤maxRow then cond (y1.2.2.2.2.2.2.2.2.2.1==0) (nx0 list2 (af (i+1)) t5x t5x2 t5x3 t5x4 (out++[(y1.2.2.2.2.2.2.2.1,y1.2.2.2.2.2.2.2.2.1,y1.2.2.2.2.2.2.2.2.2.1,())]) y1.1 y1.2.1 y1.2.2.1 y1.2.2.2.1 y1.2.2.2.2.1 y1.2.2.2.2.2.1 y1.2.2.2.2.2.2.1) (nx0 list2 (af (i+1)) t5x t5x2 t5x3 t5x4 (out++[(y1.2.2.2.2.2.2.2.1,y1.2.2.2.2.2.2.2.2.1,y1.2.2.2.2.2.2.2.2.2.1,())]) now now2 now3 now4 o3 o4 o5)else none else none) (ex0 t5x t5x2 t5x3 t5x4 out now now2 now3 now4 o3 o4 o5)
def A0(s0 s1 s2 s3:Int)(s4 s5:List U8)(s6:List U9)(list:List U6)(t5x t5x2 t5x3 t5x4:Int)(out:List U9)(now now2 now3 now4:Int)(o3 o4:List U8)(o5:List U9):Option ((List U9)×U1):=some (out,now,now2,now3,now4,o3,o4,o5,())
def T(lo0:FQ ((List U9)×U1))(s0 s1 s2 s3:Int)(s4 s5:List U8)(s6:List U9)(list:List U6):Option ((List U9)×U1):=(nX (s0,s1,s2,s3,s4,s5,s6,())).bind fun y1=>lo0 list 0 0 0 0 0 ([]:List U9) y1.1 y1.2.1 y1.2.2.1 y1.2.2.2.1 y1.2.2.2.2.1 y1.2.2.2.2.2.1 y1.2.2.2.2.2.2.1
def K0{R:Type}(k0:Nat)(K:au R):au R:=bF 0 (bI (fun env ob=>zrc k0 [1,1,1,1] env ob (K)) (K))
def L0:FQ R:=fun list2 i t5x t5x2 t5x3 t5x4 out now now2 now3 now4 o3 o4 o5=>iter 0 [1,5,6,7,8] [5,6,7] (zrc k0 [1,1,1,0,1,0,0]) k [(1,.sl gy list2),(5,.ptr 0 0 0 0),(6,.own 1),(7,.ptr 2 0 0 0),(8,.int .i64 i)] [.box [.int .i64 t5x,.int .i64 t5x2,.int .i64 t5x3,.int .i64 t5x4,.nils,.nils,.nils],.arr ct0 out,.box [.int .i64 now,.int .i64 now2,.int .i64 now3,.int .i64 now4,.own 3,.own 4,.own 5],.arr aA o3,.arr aA o4,.arr ct0 o5] K
def H0:OY R:=fun t5x t5x2 t5x3 t5x4 out now now2 now3 now4 o3 o4 o5=>K (.exit 0) [(5,.ptr 0 0 0 0),(6,.own 1),(7,.ptr 2 0 0 0)] [.box [.int .i64 t5x,.int .i64 t5x2,.int .i64 t5x3,.int .i64 t5x4,.nils,.nils,.nils],.arr ct0 out,.box [.int .i64 now,.int .i64 now2,.int .i64 now3,.int .i64 now4,.own 3,.own 4,.own 5],.arr aA o3,.arr aA o4,.arr ct0 o5]
theorem zs0:L0 k0 (k+1) K=R0 (L0 k0 k K) (H0 K):=by kernel_rfl
def G0{R:Type}(k0:Nat)(hx0:OY R):Nat→FQ R
 |0=>fun _ _ _ _ _ _ _ _ _ _ _ _ _ _=>none
 |k+1=>R0 (G0 k0 hx0 k) hx0
theorem aS:∀ k,L0 k0 k K=G0 k0 (H0 K) k:=bK rfl fun k ih=>by rw[zs0,G0];(try simp only[ih]);try rfl
variable (s0 s1 s2 s3:Int) (s4 s5:List U8) (s6:List U9) (list:List U6)
def aB:au ((List U9)×U1):=dm Tryz.prog [.tmp 4,.cell 5 29] JZ JA (s0,s1,s2,s3,s4,s5,s6,list,())
theorem aZ:H0 (K0 k0 (aB s0 s1 s2 s3 s4 s5 s6 list))=A0 s0 s1 s2 s3 s4 s5 s6 list:=by kernel_rfl
def FF:Option ((List U9)×U1):=T (G0 k0 (A0 s0 s1 s2 s3 s4 s5 s6 list) k0) s0 s1 s2 s3 s4 s5 s6 list
theorem aY:dB Tryz.prog (aW [(11,[],uq),(42,[],uD)]) aC k0 96 JZ JA [] (s0,s1,s2,s3,s4,s5,s6,list,())=FF k0 s0 s1 s2 s3 s4 s5 s6 list:=Eq.trans (b:=T (L0 k0 k0 (K0 k0 (aB s0 s1 s2 s3 s4 s5 s6 list))) s0 s1 s2 s3 s4 s5 s6 list) (by kernel_rfl) (by rw[FF];(try simp only[aS,aZ]);try rfl)
def _root_.Go.Rv.KI:=fun x:Int×Int×Int×Int×(List U8)×(List U8)×(List U9)×(List U6)×Unit=>FF (300+x.2.2.2.2.1.length+x.2.2.2.2.2.1.length+x.2.2.2.2.2.2.1.length+x.2.2.2.2.2.2.2.1.length) x.1 x.2.1 x.2.2.1 x.2.2.2.1 x.2.2.2.2.1 x.2.2.2.2.2.1 x.2.2.2.2.2.2.1 x.2.2.2.2.2.2.2.1
abbrev _root_.Go.Rv.aa4:aG:=⟨JZ,JA,KI,[]⟩
theorem _root_.Go.Rv.aaF:aF Dr Tryz.prog 96 aa4:=dJ mix (.c CY (.c zG .nil)) (by kernel_rfl) fun x=>⟨aC,_,aY _ _ _ _ _ _ _ _ _⟩
end qx
def Kr.T(s0 s1 s2 s3:Int)(s4 s5:List U8)(s6:List U9)(list:List U6):Option (U1):=cond (decide ((list.length:Int)>400)) (some (0,0,0,0,[],[],[],())) ((Cm (s0,s1,s2,s3,s4,s5,s6,())).bind fun y1=>cond (!y1.1) ((nX (s0,s1,s2,s3,s4,s5,s6,())).bind fun y2=>some (y2.1,y2.2.1,y2.2.2.1,y2.2.2.2.1,y2.2.2.2.2.1,y2.2.2.2.2.2.1,y2.2.2.2.2.2.2.1,())) (cond (decide ((list.length:Int)>300)) ((nX (s0,s1,s2,s3,s4,s5,s6,())).bind fun y3=>some (y3.1,y3.2.1,y3.2.2.1,y3.2.2.2.1,y3.2.2.2.2.1,y3.2.2.2.2.2.1,y3.2.2.2.2.2.2.1,())) ((KI (s0,s1,s2,s3,s4,s5,s6,list,())).bind fun y4=>some (y4.2.1,y4.2.2.1,y4.2.2.2.1,y4.2.2.2.2.1,y4.2.2.2.2.2.1,y4.2.2.2.2.2.2.1,y4.2.2.2.2.2.2.2.1,()))))
def zx:=fun x:Int×Int×Int×Int×(List U8)×(List U8)×(List U9)×(List U6)×Unit=>Kr.T x.1 x.2.1 x.2.2.1 x.2.2.2.1 x.2.2.2.2.1 x.2.2.2.2.2.1 x.2.2.2.2.2.2.1 x.2.2.2.2.2.2.2.1
abbrev QH:aG:=⟨[.v true jh,.v false [CT.sl gy]],[(true,jh)],zx,[]⟩
theorem ZH:aF Dr Tryz.prog 59 QH:=bg mix (.c PU (.c zG (.c aaF .nil))) (by kernel_rfl) fun x=>by kernel_rfl
abbrev Hl:Is:=[.m qW]
abbrev Hf:Os:=[(true,jh)]
namespace mO
def dF:Tb:=[(11,[],uq),(48,[],Qr),(49,[],PO),(50,[],Q7),(58,[],QG),(59,[],QH)]
def aC:Nat→List Nat×List Nat:=fun k=>if k=3 then([0,2,3,4],[0,2,3])else([],[])
def zrc{R:Type}(k0:Nat)(p:List Nat):Env→List Ob→au R→Option R:=bJ Tryz.prog (aW dF) 78 1 aC k0 (cO p (dI Tryz.prog 27))
def R0{R:Type}(nx0:FP R)(ex0:OX R)(kx:Int)(s:List (Int×Unit))(s4 s5 s6 t2x t2x2 t2x3 t2x4 x x2 x3 x4:Int)(o3 o4:List U8)(o5:List U9):Option R:=cond (decide (kx>0)) ((jF (x,x2,x3,x4,o3,o4,o5,4,0,0,0,0,())).bind fun y1=>nx0 (af (kx - 1)) s s4 s5 s6 t2x t2x2 t2x3 t2x4 y1.1 y1.2.1 y1.2.2.1 y1.2.2.2.1 y1.2.2.2.2.1 y1.2.2.2.2.2.1 y1.2.2.2.2.2.2.1) (ex0 s s4 s5 s6 t2x t2x2 t2x3 t2x4 x x2 x3 x4 o3 o4 o5)
def A0(s0:List (Int×Unit))(s1 s2 s3:Int)(s:List (Int×Unit))(s4 s5 s6 t2x t2x2 t2x3 t2x4 x x2 x3 x4:Int)(o3 o4:List U8)(o5:List U9):Option (Int×Int×Int×Int×(List U8)×(List U8)×(List U9)×U5):=(aT (s,s4,s5,s6,(af (6+s6)),())).bind fun y1=>(Ir (y1.2.1,y1.2.2.1,y1.2.2.2.1,y1.2.2.2.2.1,x,x2,x3,x4,o3,o4,o5,y1.1,())).bind fun y2=>(zx (x,x2,x3,x4,o3,o4,o5,y2.1,())).bind fun y3=>(eY (y2.2.1,y2.2.2.1,y2.2.2.2.1,y2.2.2.2.2.1,12,())).bind fun y4=>cond y4.1 ((aT (y4.2.1,y4.2.2.1,y4.2.2.2.1,y4.2.2.2.2.1,6,())).bind fun y5=>cond (y5.1==0) ((aT (y5.2.1,y5.2.2.1,y5.2.2.2.1,y5.2.2.2.2.1,3,())).bind fun y6=>if 0≤y6.1∧y6.1<([(0,()),(1000,()),(1001,())].length:Int)then some (([(0,()),(1000,()),(1001,())].getD ((y6.1).toNat) (0,())).1,y3.2.1,y3.2.2.1,y3.2.2.2.1,y3.2.2.2.2.1,y3.2.2.2.2.2.1,y3.2.2.2.2.2.2.1,y6.2.1,y6.2.2.1,y6.2.2.2.1,y6.2.2.2.2.1,())else none) (cond (y5.1==1) (some (y3.1,(af (y3.2.2.1+1)),y3.2.2.1,y3.2.2.2.1,y3.2.2.2.2.1,y3.2.2.2.2.2.1,y3.2.2.2.2.2.2.1,y5.2.1,y5.2.2.1,y5.2.2.2.1,y5.2.2.2.2.1,())) (cond (y5.1==2) (some (y3.1,y3.2.1,(af (y3.2.2.1+1)),y3.2.2.2.1,y3.2.2.2.2.1,y3.2.2.2.2.2.1,y3.2.2.2.2.2.2.1,y5.2.1,y5.2.2.1,y5.2.2.2.1,y5.2.2.2.2.1,())) (cond (y5.1==3) (if y3.2.2.2.2.2.2.1.length+[(900,0,(af (y3.2.2.1+1)),())].length≤maxRow then some (y3.1,y3.2.1,y3.2.2.1,y3.2.2.2.1,y3.2.2.2.2.1,y3.2.2.2.2.2.1,(y3.2.2.2.2.2.2.1++[(900,0,(af (y3.2.2.1+1)),())]),y5.2.1,y5.2.2.1,y5.2.2.2.1,y5.2.2.2.2.1,())else none) (cond (y5.1==4) (some (y3.1,y3.2.1,y3.2.2.1,(-1),y3.2.2.2.2.1,y3.2.2.2.2.2.1,y3.2.2.2.2.2.2.1,y5.2.1,y5.2.2.1,y5.2.2.2.1,y5.2.2.2.2.1,())) ((aT (y5.2.1,y5.2.2.1,y5.2.2.2.1,y5.2.2.2.2.1,2,())).bind fun y7=>some (5,998997,(af (999000 - y7.1)),9,[],[],[],y7.2.1,y7.2.2.1,y7.2.2.2.1,y7.2.2.2.2.1,()))))))) (some (y3.1,y3.2.1,y3.2.2.1,y3.2.2.2.1,y3.2.2.2.2.1,y3.2.2.2.2.2.1,y3.2.2.2.2.2.2.1,y4.2.1,y4.2.2.1,y4.2.2.2.1,y4.2.2.2.2.1,()))
def T(lo0:FP (Int×Int×Int×Int×(List U8)×(List U8)×(List U9)×U5))(s0:List (Int×Unit))(s1 s2 s3:Int):Option (Int×Int×Int×Int×(List U8)×(List U8)×(List U9)×U5):=(aT (s0,s1,s2,s3,6,())).bind fun y1=>(aT (y1.2.1,y1.2.2.1,y1.2.2.2.1,y1.2.2.2.2.1,200,())).bind fun y2=>(Df ((af (1+y1.1)),y2.1,())).bind fun y3=>(aT (y2.2.1,y2.2.2.1,y2.2.2.2.1,y2.2.2.2.2.1,5,())).bind fun y4=>lo0 y4.1 y4.2.1 y4.2.2.1 y4.2.2.2.1 y4.2.2.2.2.1 0 0 0 0 y3.1 y3.2.1 y3.2.2.1 y3.2.2.2.1 y3.2.2.2.2.1 y3.2.2.2.2.2.1 y3.2.2.2.2.2.2.1
def K0{R:Type}(k0:Nat)(K:au R):au R:=bF 0 (bI (fun env ob=>zrc k0 [1,1,1] env ob (K)) (K))
def L0:FP R:=fun kx s s4 s5 s6 t2x t2x2 t2x3 t2x4 x x2 x3 x4 o3 o4 o5=>iter 1 [0,2,3,4] [0,2,3] (zrc k0 [1,1,0,1,0,0]) k [(0,.ptr 0 0 0 0),(2,.ptr 1 0 0 0),(3,.ptr 2 0 0 0),(4,.int .i64 kx)] [.box [.sh [CT.int .u8] s,.int .i64 s4,.int .u64 s5,.int .i64 s6],.box [.int .i64 t2x,.int .i64 t2x2,.int .i64 t2x3,.int .i64 t2x4,.nils,.nils,.nils],.box [.int .i64 x,.int .i64 x2,.int .i64 x3,.int .i64 x4,.own 3,.own 4,.own 5],.arr aA o3,.arr aA o4,.arr ct0 o5] K
def H0:OX R:=fun s s4 s5 s6 t2x t2x2 t2x3 t2x4 x x2 x3 x4 o3 o4 o5=>K (.exit 0) [(0,.ptr 0 0 0 0),(2,.ptr 1 0 0 0),(3,.ptr 2 0 0 0)] [.box [.sh [CT.int .u8] s,.int .i64 s4,.int .u64 s5,.int .i64 s6],.box [.int .i64 t2x,.int .i64 t2x2,.int .i64 t2x3,.int .i64 t2x4,.nils,.nils,.nils],.box [.int .i64 x,.int .i64 x2,.int .i64 x3,.int .i64 x4,.own 3,.own 4,.own 5],.arr aA o3,.arr aA o4,.arr ct0 o5]
theorem zs0:L0 k0 (k+1) K=R0 (L0 k0 k K) (H0 K):=by kernel_rfl
def G0{R:Type}(k0:Nat)(hx0:OX R):Nat→FP R
 |0=>fun _ _ _ _ _ _ _ _ _ _ _ _ _ _ _ _=>none
 |k+1=>R0 (G0 k0 hx0 k) hx0
theorem aS:∀ k,L0 k0 k K=G0 k0 (H0 K) k:=bK rfl fun k ih=>by rw[zs0,G0];(try simp only[ih]);try rfl
variable (s0:List (Int×Unit)) (s1 s2 s3:Int)
def aB:au (Int×Int×Int×Int×(List U8)×(List U8)×(List U9)×U5):=dm Tryz.prog [.cell 2 29] Hl Hf (s0,s1,s2,s3,())
theorem aZ:H0 (K0 k0 (aB s0 s1 s2 s3))=A0 s0 s1 s2 s3:=by kernel_rfl
def FF:Option (Int×Int×Int×Int×(List U8)×(List U8)×(List U9)×U5):=T (G0 k0 (A0 s0 s1 s2 s3) k0) s0 s1 s2 s3
theorem aY:dB Tryz.prog (aW dF) aC k0 27 Hl Hf [] (s0,s1,s2,s3,())=FF k0 s0 s1 s2 s3:=Eq.trans (b:=T (L0 k0 k0 (K0 k0 (aB s0 s1 s2 s3))) s0 s1 s2 s3) (by kernel_rfl) (by rw[FF];(try simp only[aS,aZ]);try rfl)
def _root_.Go.Rv.Hq:=fun x:U5=>FF (300+x.1.length) x.1 x.2.1 x.2.2.1 x.2.2.2.1
abbrev _root_.Go.Rv.YP:aG:=⟨Hl,Hf,Hq,[]⟩
theorem _root_.Go.Rv.YN:aF Dr Tryz.prog 27 YP:=dJ mix (.c CY (.c P8 (.c YT (.c wK (.c ZG (.c ZH .nil)))))) (by kernel_rfl) fun x=>⟨aC,_,aY _ _ _ _ _⟩
end mO
def Qj.T(code:List (Int×Unit)):Option (Int×Int×Int×Int×(List U8)×(List U8)×(List U9)×U6):=(Dc (code,())).bind fun y1=>(Hq (y1.1,y1.2.1,y1.2.2.1,y1.2.2.2.1,())).bind fun y2=>(wC (y2.2.2.2.2.2.2.2.1,y2.2.2.2.2.2.2.2.2.1,y2.2.2.2.2.2.2.2.2.2.1,y2.2.2.2.2.2.2.2.2.2.2.1,y2.1,y2.2.1,y2.2.2.1,y2.2.2.2.1,y2.2.2.2.2.1,y2.2.2.2.2.2.1,y2.2.2.2.2.2.2.1,())).bind fun y3=>some (y2.1,y2.2.1,y2.2.2.1,y2.2.2.2.1,y2.2.2.2.2.1,y2.2.2.2.2.2.1,y2.2.2.2.2.2.2.1,y3.1,y3.2.1,y3.2.2.1,y3.2.2.2.1,y3.2.2.2.2.1,())
def Cf:=fun x:(List (Int×Unit))×Unit=>Qj.T x.1
abbrev P6:aG:=⟨[.v false [CT.sh [CT.int .u8]]],[(true,jh),(true,gy)],Cf,[]⟩
theorem YZ:aF Dr Tryz.prog 7 P6:=bg mix (.c ZF (.c YN (.c PL .nil))) (by kernel_rfl) fun x=>by kernel_rfl
def Wx.T(n low high:Int):Option (Bool×Unit):=cond (decide (low≤n)) (some ((decide (n≤high)),())) (some (false,()))
def nC:=fun x:U9=>Wx.T x.1 x.2.1 x.2.2.1
abbrev UL:aG:=⟨[.v false [CT.int .i64],.v false [CT.int .i64],.v false [CT.int .i64]],[(false,[CT.bool])],nC,[]⟩
theorem Aa:aF Dr Tryz.prog 43 UL:=bg mix .nil (by kernel_rfl) fun x=>by kernel_rfl
def Ej.T(n:Int):Option (Bool×Unit):=(nC (n,1,1000000,())).bind fun y1=>some (y1.1,())
def gG:=fun x:Int×Unit=>Ej.T x.1
abbrev TB:aG:=⟨[.v false [CT.int .i64]],[(false,[CT.bool])],gG,[]⟩
theorem DV:aF Dr Tryz.prog 68 TB:=bg mix (.c Aa .nil) (by kernel_rfl) fun x=>by kernel_rfl
def D5.T(n:Int):Option (Bool×Unit):=(nC (n,0,1125899906842624,())).bind fun y1=>some (y1.1,())
def jm:=fun x:Int×Unit=>D5.T x.1
abbrev Sj:aG:=⟨[.v false [CT.int .i64]],[(false,[CT.bool])],jm,[]⟩
theorem Dq:aF Dr Tryz.prog 69 Sj:=bg mix (.c Aa .nil) (by kernel_rfl) fun x=>by kernel_rfl
def DJ.T(n:Int):Option (Bool×Unit):=(nC (n,1,1073741824,())).bind fun y1=>some (y1.1,())
def kC:=fun x:Int×Unit=>DJ.T x.1
abbrev Rh:aG:=⟨[.v false [CT.int .i64]],[(false,[CT.bool])],kC,[]⟩
theorem JE:aF Dr Tryz.prog 70 Rh:=bg mix (.c Aa .nil) (by kernel_rfl) fun x=>by kernel_rfl
abbrev Ja:Is:=[.v true gu]
abbrev IC:Os:=[(false,[CT.bool])]
namespace iP
def dF:Tb:=[(68,[],TB),(69,[],Sj),(70,[],Rh),(92,[],PS)]
def aC:Nat→List Nat×List Nat:=fun k=>if k=4 then([1,25,26,27],[1,2])else if k=11 then([1,78,79,80],[2])else([],[])
def zrc{R:Type}(k0:Nat)(p:List Nat):Env→List Ob→au R→Option R:=bJ Tryz.prog (aW dF) 125 0 aC k0 (cO p (dI Tryz.prog 44))
def R0{R:Type}(nx0:tC R)(ex0:yY R)(ex1:yX R)(t25x:List U8)(t26x t27x f:Int)(f3 f4:List U8):Option R:=cond (decide (t27x<t26x)) (if 0≤t27x∧t27x<(t25x.length:Int)then if 0≤t27x∧t27x≤(f3.length:Int)then(gG ((rd (0,0,0,0,()) t25x t27x).1,())).bind fun y1=>cond (!y1.1) (ex0 false f f3 f4) (cond (decide (t27x>0)) (if 0≤(af (t27x - 1))∧(af (t27x - 1))<(f3.length:Int)then cond (decide ((rd (0,0,0,0,()) f3 (af (t27x - 1))).1≥(rd (0,0,0,0,()) t25x t27x).1)) (ex0 false f f3 f4) ((mP (0,(f3.take (t27x.toNat)),[],(rd (0,0,0,0,()) t25x t27x).2.1,())).bind fun y2=>cond (!y2.1) (ex0 false f f3 f4) ((jm ((rd (0,0,0,0,()) t25x t27x).2.2.1,())).bind fun y3=>cond (!y3.1) (ex0 false f f3 f4) ((kC ((rd (0,0,0,0,()) t25x t27x).2.2.2.1,())).bind fun y4=>cond (!y4.1) (ex0 false f f3 f4) (nx0 t25x t26x (af (t27x+1)) f f3 f4))))else none) ((mP (0,(f3.take (t27x.toNat)),[],(rd (0,0,0,0,()) t25x t27x).2.1,())).bind fun y5=>cond (!y5.1) (ex0 false f f3 f4) ((jm ((rd (0,0,0,0,()) t25x t27x).2.2.1,())).bind fun y6=>cond (!y6.1) (ex0 false f f3 f4) ((kC ((rd (0,0,0,0,()) t25x t27x).2.2.2.1,())).bind fun y7=>cond (!y7.1) (ex0 false f f3 f4) (nx0 t25x t26x (af (t27x+1)) f f3 f4)))))else none else none) (ex1 f f3 f4)
def R1{R:Type}(nx1:tC R)(ex2:ji R)(ex3:dY R)(t78x:List U8)(t79x t80x f:Int)(f3 f4:List U8):Option R:=cond (decide (t80x<t79x)) (if 0≤t80x∧t80x<(t78x.length:Int)then(gG ((rd (0,0,0,0,()) t78x t80x).1,())).bind fun y1=>cond (!y1.1) (ex2 false) (cond (decide (t80x>0)) (if 0≤(af (t80x - 1))∧(af (t80x - 1))<(f4.length:Int)then cond (decide ((rd (0,0,0,0,()) f4 (af (t80x - 1))).1≥(rd (0,0,0,0,()) t78x t80x).1)) (ex2 false) ((mP (f,f3,f4,(rd (0,0,0,0,()) t78x t80x).2.1,())).bind fun y2=>cond (!y2.1) (ex2 false) ((jm ((rd (0,0,0,0,()) t78x t80x).2.2.1,())).bind fun y3=>cond (!y3.1) (ex2 false) ((kC ((rd (0,0,0,0,()) t78x t80x).2.2.2.1,())).bind fun y4=>cond (!y4.1) (ex2 false) (nx1 t78x t79x (af (t80x+1)) f f3 f4))))else none) ((mP (f,f3,f4,(rd (0,0,0,0,()) t78x t80x).2.1,())).bind fun y5=>cond (!y5.1) (ex2 false) ((jm ((rd (0,0,0,0,()) t78x t80x).2.2.1,())).bind fun y6=>cond (!y6.1) (ex2 false) ((kC ((rd (0,0,0,0,()) t78x t80x).2.2.2.1,())).bind fun y7=>cond (!y7.1) (ex2 false) (nx1 t78x t79x (af (t80x+1)) f f3 f4)))))else none) (ex3 ())
def A0(f0:Int)(f1 f2:List U8)(t2x:Bool)(f:Int)(f3 f4:List U8):Option (Bool×Unit):=some (t2x,())
def A1(lo1:tC (Bool×Unit))(f0:Int)(f1 f2:List U8)(f:Int)(f3 f4:List U8):Option (Bool×Unit):=lo1 f4 (f4.length:Int) 0 f f3 f4
def A2(f0:Int)(f1 f2:List U8)(t2x:Bool):Option (Bool×Unit):=some (t2x,())
def A3(f0:Int)(f1 f2:List U8)(_u:Unit):Option (Bool×Unit):=some (true,())
def T(lo0:tC (Bool×Unit))(f0:Int)(f1 f2:List U8):Option (Bool×Unit):=(jm (f0,())).bind fun y1=>cond (!y1.1) (some (false,())) (cond (decide ((f1.length:Int)>30)) (some (false,())) (cond (decide ((f2.length:Int)>60)) (some (false,())) (lo0 f1 (f1.length:Int) 0 f0 f1 f2)))
def K0{R:Type}(k0:Nat)(K:au R):au R:=bF 0 (bI (fun env ob=>zrc k0 [1,1,1] env ob (K)) (K))
def K1{R:Type}(k0:Nat)(K:au R):au R:=bF 2 (bI (fun env ob=>zrc k0 [1,1,1,1] env ob (K)) (K))
def L0:tC R:=fun t25x t26x t27x f f3 f4=>iter 0 [1,25,26,27] [1,2] (zrc k0 [1,1,0,1,0,0]) k [(1,.ptr 0 0 0 0),(25,.sl aA t25x),(26,.int .i64 t26x),(27,.int .i64 t27x)] [.box [.int .i64 f,.sl aA f3,.sl aA f4]] K
def L1:tC R:=fun t78x t79x t80x f f3 f4=>iter 0 [1,78,79,80] [2] (zrc k0 [1,1,1,0,1,0,0]) k [(1,.ptr 0 0 0 0),(78,.sl aA t78x),(79,.int .i64 t79x),(80,.int .i64 t80x)] [.box [.int .i64 f,.sl aA f3,.sl aA f4]] K
def H0:yY R:=fun t2x f f3 f4=>K .ret [(1,.ptr 0 0 0 0),(2,.bool t2x)] [.box [.int .i64 f,.sl aA f3,.sl aA f4]]
def H1:yX R:=fun f f3 f4=>K (.exit 0) [(1,.ptr 0 0 0 0),(2,.undef)] [.box [.int .i64 f,.sl aA f3,.sl aA f4]]
def H2:ji R:=fun t2x=>K .ret [(2,.bool t2x)] []
def H3:dY R:=fun _=>K (.exit 2) [(2,.undef)] []
theorem zs0:L0 k0 (k+1) K=R0 (L0 k0 k K) (H0 K) (H1 K):=by kernel_rfl
theorem zs1:L1 k0 (k+1) K=R1 (L1 k0 k K) (H2 K) (H3 K):=by kernel_rfl
def G0{R:Type}(k0:Nat)(hx0:yY R)(hx1:yX R):Nat→tC R
 |0=>fun _ _ _ _ _ _=>none
 |k+1=>R0 (G0 k0 hx0 hx1 k) hx0 hx1
theorem aS:∀ k,L0 k0 k K=G0 k0 (H0 K) (H1 K) k:=bK rfl fun k ih=>by rw[zs0,G0];(try simp only[ih]);try rfl
def G1{R:Type}(k0:Nat)(hx2:ji R)(hx3:dY R):Nat→tC R
 |0=>fun _ _ _ _ _ _=>none
 |k+1=>R1 (G1 k0 hx2 hx3 k) hx2 hx3
theorem dL:∀ k,L1 k0 k K=G1 k0 (H2 K) (H3 K) k:=bK rfl fun k ih=>by rw[zs1,G1];(try simp only[ih,aS]);try rfl
variable (f0:Int) (f1 f2:List U8)
def aB:au (Bool×Unit):=dm Tryz.prog [.tmp 2] Ja IC (f0,f1,f2,())
theorem aZ:H0 (K0 k0 (aB f0 f1 f2))=A0 f0 f1 f2:=by kernel_rfl
theorem dw:H1 (K0 k0 (aB f0 f1 f2))=A1 (L1 k0 k0 (K1 k0 (aB f0 f1 f2))) f0 f1 f2:=by kernel_rfl
theorem lF:H2 (K1 k0 (aB f0 f1 f2))=A2 f0 f1 f2:=by kernel_rfl
theorem qU:H3 (K1 k0 (aB f0 f1 f2))=A3 f0 f1 f2:=by kernel_rfl
def FF:Option (Bool×Unit):=T (G0 k0 (A0 f0 f1 f2) (A1 (G1 k0 (A2 f0 f1 f2) (A3 f0 f1 f2) k0) f0 f1 f2) k0) f0 f1 f2
theorem aY:dB Tryz.prog (aW dF) aC k0 44 Ja IC [] (f0,f1,f2,())=FF k0 f0 f1 f2:=Eq.trans (b:=T (L0 k0 k0 (K0 k0 (aB f0 f1 f2))) f0 f1 f2) (by kernel_rfl) (by rw[FF];(try simp only[aS,dL,aZ,dw,lF,qU]);try rfl)
def _root_.Go.Rv.Dj:=fun x:U3=>FF (300+x.2.1.length+x.2.2.1.length) x.1 x.2.1 x.2.2.1
abbrev _root_.Go.Rv.QL:aG:=⟨Ja,IC,Dj,[]⟩
theorem _root_.Go.Rv.Qn:aF Dr Tryz.prog 44 QL:=dJ mix (.c DV (.c Dq (.c JE (.c BX .nil)))) (by kernel_rfl) fun x=>⟨aC,_,aY _ _ _ _⟩
end iP
def Tt.T(n:Int):Option (Bool×Unit):=(nC (n,0,1000000,())).bind fun y1=>some (y1.1,())
def DT:=fun x:Int×Unit=>Tt.T x.1
abbrev aa7:aG:=⟨[.v false [CT.int .i64]],[(false,[CT.bool])],DT,[]⟩
theorem aaJ:aF Dr Tryz.prog 115 aa7:=bg mix (.c Aa .nil) (by kernel_rfl) fun x=>by kernel_rfl
def P9.T(l0 l1 l2:Int):Option (Bool×Unit):=(gG (l0,())).bind fun y1=>cond y1.1 ((jm (l1,())).bind fun y2=>cond y2.1 ((DT (l2,())).bind fun y3=>some (y3.1,())) (some (false,()))) (some (false,()))
def Cb:=fun x:U9=>P9.T x.1 x.2.1 x.2.2.1
abbrev Ip:aG:=⟨[.v true ct0],[(false,[CT.bool])],Cb,[]⟩
theorem YV:aF Dr Tryz.prog 93 Ip:=bg mix (.c DV (.c Dq (.c aaJ .nil))) (by kernel_rfl) fun x=>by kernel_rfl
abbrev Il:Is:=[.v false [CT.sl ct0]]
abbrev Hz:Os:=[(false,[CT.bool])]
namespace ku
def aC:Nat→List Nat×List Nat:=fun k=>if k=2 then([0,5,6,7],[0,2])else([],[])
def zrc{R:Type}(k0:Nat)(p:List Nat):Env→List Ob→au R→Option R:=bJ Tryz.prog (aW [(93,[],Ip)]) 34 0 aC k0 (cO p (dI Tryz.prog 45))
def R0{R:Type}(nx0:FO R)(ex0:OW R)(ex1:OV R)(list2 t5x:List U9)(t6x t7x:Int):Option R:=cond (decide (t7x<t6x)) (if 0≤t7x∧t7x<(t5x.length:Int)then(Cb ((rd (0,0,0,()) t5x t7x).1,(rd (0,0,0,()) t5x t7x).2.1,(rd (0,0,0,()) t5x t7x).2.2.1,())).bind fun y1=>cond (!y1.1) (ex0 list2 false) (cond (decide (t7x>0)) (if 0≤(af (t7x - 1))∧(af (t7x - 1))<(list2.length:Int)then cond (decide ((rd (0,0,0,()) list2 (af (t7x - 1))).1≥(rd (0,0,0,()) t5x t7x).1)) (ex0 list2 false) (nx0 list2 t5x t6x (af (t7x+1)))else none) (nx0 list2 t5x t6x (af (t7x+1))))else none) (ex1 list2)
def A0(list:List U9)(list2:List U9)(t2x:Bool):Option (Bool×Unit):=some (t2x,())
def A1(list:List U9)(list2:List U9):Option (Bool×Unit):=some ((decide ((list2.length:Int)≤60)),())
def T(lo0:FO (Bool×Unit))(list:List U9):Option (Bool×Unit):=lo0 list list (list.length:Int) 0
def K0{R:Type}(k0:Nat)(K:au R):au R:=bF 0 (bI (fun env ob=>zrc k0 [1,1] env ob (K)) (K))
def L0:FO R:=fun list2 t5x t6x t7x=>iter 0 [0,5,6,7] [0,2] (zrc k0 [1,0,1,0,0]) k [(0,.sl ct0 list2),(5,.sl ct0 t5x),(6,.int .i64 t6x),(7,.int .i64 t7x)] [] K
def H0:OW R:=fun list2 t2x=>K .ret [(0,.sl ct0 list2),(2,.bool t2x)] []
def H1:OV R:=fun list2=>K (.exit 0) [(0,.sl ct0 list2),(2,.undef)] []
theorem zs0:L0 k0 (k+1) K=R0 (L0 k0 k K) (H0 K) (H1 K):=by kernel_rfl
def G0{R:Type}(k0:Nat)(hx0:OW R)(hx1:OV R):Nat→FO R
 |0=>fun _ _ _ _=>none
 |k+1=>R0 (G0 k0 hx0 hx1 k) hx0 hx1
theorem aS:∀ k,L0 k0 k K=G0 k0 (H0 K) (H1 K) k:=bK rfl fun k ih=>by rw[zs0,G0];(try simp only[ih]);try rfl
variable (list:List U9)
def aB:au (Bool×Unit):=dm Tryz.prog [.tmp 2] Il Hz (list,())
theorem aZ:H0 (K0 k0 (aB list))=A0 list:=by kernel_rfl
theorem dw:H1 (K0 k0 (aB list))=A1 list:=by kernel_rfl
def FF:Option (Bool×Unit):=T (G0 k0 (A0 list) (A1 list) k0) list
theorem aY:dB Tryz.prog (aW [(93,[],Ip)]) aC k0 45 Il Hz [] (list,())=FF k0 list:=Eq.trans (b:=T (L0 k0 k0 (K0 k0 (aB list))) list) (by kernel_rfl) (by rw[FF];(try simp only[aS,aZ,dw]);try rfl)
def _root_.Go.Rv.CG:=fun x:(List U9)×Unit=>FF (300+x.1.length) x.1
abbrev _root_.Go.Rv.Qe:aG:=⟨Il,Hz,CG,[]⟩
theorem _root_.Go.Rv.PX:aF Dr Tryz.prog 45 Qe:=dJ mix (.c YV .nil) (by kernel_rfl) fun x=>⟨aC,_,aY _ _⟩
end ku
abbrev Ik:Is:=[.v true jh]
abbrev Hy:Os:=[(false,[CT.bool])]
namespace kP
def dF:Tb:=[(43,[],UL),(44,[],QL),(45,[],Qe)]
def aC:Nat→List Nat×List Nat:=fun k=>if k=4 then([1,46,47,48],[2])else([],[])
def zrc{R:Type}(k0:Nat)(p:List Nat):Env→List Ob→au R→Option R:=bJ Tryz.prog (aW dF) 78 0 aC k0 (cO p (dI Tryz.prog 12))
def R0{R:Type}(nx0:FN R)(ex0:ji R)(ex1:dY R)(t46x:List U9)(t47x t48x s s7 s8 s9:Int)(s10 s11:List U8)(s12:List U9):Option R:=cond (decide (t48x<t47x)) (if 0≤t48x∧t48x<(t46x.length:Int)then if 0≤t48x∧t48x<(s11.length:Int)then cond ((rd (0,0,0,()) t46x t48x).1 != (rd (0,0,0,0,()) s11 t48x).1) (ex0 false) ((nC ((rd (0,0,0,()) t46x t48x).2.2.1,(af (s8+1)),(af (s8+s)),())).bind fun y1=>cond (!y1.1) (ex0 false) (nx0 t46x t47x (af (t48x+1)) s s7 s8 s9 s10 s11 s12))else none else none) (ex1 ())
def A0(s0 s1 s2 s3:Int)(s4 s5:List U8)(s6:List U9)(t2x:Bool):Option (Bool×Unit):=some (t2x,())
def A1(s0 s1 s2 s3:Int)(s4 s5:List U8)(s6:List U9)(_u:Unit):Option (Bool×Unit):=some (true,())
def T(lo0:FN (Bool×Unit))(s0 s1 s2 s3:Int)(s4 s5:List U8)(s6:List U9):Option (Bool×Unit):=(nC (s0,1,1000,())).bind fun y1=>cond (!y1.1) (some (false,())) ((nC (s2,0,999000,())).bind fun y2=>cond (!y2.1) (some (false,())) ((nC (s1,0,s2,())).bind fun y3=>cond (!y3.1) (some (false,())) ((Dj (s3,s4,s5,())).bind fun y4=>cond (!y4.1) (some (false,())) ((CG (s6,())).bind fun y5=>cond (!y5.1) (some (false,())) (cond ((s6.length:Int) != (s5.length:Int)) (some (false,())) (lo0 s6 (s6.length:Int) 0 s0 s1 s2 s3 s4 s5 s6))))))
def K0{R:Type}(k0:Nat)(K:au R):au R:=bF 0 (bI (fun env ob=>zrc k0 [1,1,1] env ob (K)) (K))
def L0:FN R:=fun t46x t47x t48x s s7 s8 s9 s10 s11 s12=>iter 0 [1,46,47,48] [2] (zrc k0 [1,1,0,1,0,0]) k [(1,.ptr 0 0 0 0),(46,.sl ct0 t46x),(47,.int .i64 t47x),(48,.int .i64 t48x)] [.box [.int .i64 s,.int .i64 s7,.int .i64 s8,.int .i64 s9,.sl aA s10,.sl aA s11,.sl ct0 s12]] K
def H0:ji R:=fun t2x=>K .ret [(2,.bool t2x)] []
def H1:dY R:=fun _=>K (.exit 0) [(2,.undef)] []
theorem zs0:L0 k0 (k+1) K=R0 (L0 k0 k K) (H0 K) (H1 K):=by kernel_rfl
def G0{R:Type}(k0:Nat)(hx0:ji R)(hx1:dY R):Nat→FN R
 |0=>fun _ _ _ _ _ _ _ _ _ _=>none
 |k+1=>R0 (G0 k0 hx0 hx1 k) hx0 hx1
theorem aS:∀ k,L0 k0 k K=G0 k0 (H0 K) (H1 K) k:=bK rfl fun k ih=>by rw[zs0,G0];(try simp only[ih]);try rfl
variable (s0 s1 s2 s3:Int) (s4 s5:List U8) (s6:List U9)
def aB:au (Bool×Unit):=dm Tryz.prog [.tmp 2] Ik Hy (s0,s1,s2,s3,s4,s5,s6,())
theorem aZ:H0 (K0 k0 (aB s0 s1 s2 s3 s4 s5 s6))=A0 s0 s1 s2 s3 s4 s5 s6:=by kernel_rfl
theorem dw:H1 (K0 k0 (aB s0 s1 s2 s3 s4 s5 s6))=A1 s0 s1 s2 s3 s4 s5 s6:=by kernel_rfl
def FF:Option (Bool×Unit):=T (G0 k0 (A0 s0 s1 s2 s3 s4 s5 s6) (A1 s0 s1 s2 s3 s4 s5 s6) k0) s0 s1 s2 s3 s4 s5 s6
theorem aY:dB Tryz.prog (aW dF) aC k0 12 Ik Hy [] (s0,s1,s2,s3,s4,s5,s6,())=FF k0 s0 s1 s2 s3 s4 s5 s6:=Eq.trans (b:=T (L0 k0 k0 (K0 k0 (aB s0 s1 s2 s3 s4 s5 s6))) s0 s1 s2 s3 s4 s5 s6) (by kernel_rfl) (by rw[FF];(try simp only[aS,aZ,dw]);try rfl)
def _root_.Go.Rv.CB:=fun x:U1=>FF (300+x.2.2.2.2.1.length+x.2.2.2.2.2.1.length+x.2.2.2.2.2.2.1.length) x.1 x.2.1 x.2.2.1 x.2.2.2.1 x.2.2.2.2.1 x.2.2.2.2.2.1 x.2.2.2.2.2.2.1
abbrev _root_.Go.Rv.Qd:aG:=⟨Ik,Hy,CB,[]⟩
theorem _root_.Go.Rv.PW:aF Dr Tryz.prog 12 Qd:=dJ mix (.c Aa (.c Qn (.c PX .nil))) (by kernel_rfl) fun x=>⟨aC,_,aY _ _ _ _ _ _ _ _⟩
end kP
def zO.T(e0 e1 e2 e3 e4:Int):Option (Bool×Unit):=cond (e2==0) (cond (e0==1) ((jm (e3,())).bind fun y1=>(kC (e4,())).bind fun y2=>(gG (e1,())).bind fun y3=>cond y3.1 (cond y1.1 (some (y2.1,())) (some (false,()))) (cond (e0==8) (cond (e1==0) (cond y1.1 (some (y2.1,())) (some (false,()))) (some (false,()))) (some (false,())))) (cond (e0==6) ((jm (e3,())).bind fun y4=>(kC (e4,())).bind fun y5=>(gG (e1,())).bind fun y6=>cond y6.1 (cond y4.1 (some (y5.1,())) (some (false,()))) (cond (e0==8) (cond (e1==0) (cond y4.1 (some (y5.1,())) (some (false,()))) (some (false,()))) (some (false,())))) (cond (e0==3) ((jm (e3,())).bind fun y7=>(gG (e1,())).bind fun y8=>cond y8.1 (cond (e2==0) (cond y7.1 (some ((e4==0),())) (some (false,()))) (some (false,()))) (cond (e0==8) (cond (e1==0) (cond (e2==0) (cond y7.1 (some ((e4==0),())) (some (false,()))) (some (false,()))) (some (false,()))) (some (false,())))) (cond (e0==8) ((jm (e3,())).bind fun y9=>(gG (e1,())).bind fun y10=>cond y10.1 (cond (e2==0) (cond y9.1 (some ((e4==0),())) (some (false,()))) (some (false,()))) (cond (e0==8) (cond (e1==0) (cond (e2==0) (cond y9.1 (some ((e4==0),())) (some (false,()))) (some (false,()))) (some (false,()))) (some (false,())))) (cond (e0==4) ((kC (e3,())).bind fun y11=>(gG (e1,())).bind fun y12=>cond y12.1 (cond (e2==0) (cond y11.1 (some ((e4==0),())) (some (false,()))) (some (false,()))) (cond (e0==8) (cond (e1==0) (cond (e2==0) (cond y11.1 (some ((e4==0),())) (some (false,()))) (some (false,()))) (some (false,()))) (some (false,())))) (cond (e0==5) ((gG (e1,())).bind fun y13=>cond y13.1 (cond (e3==0) (some ((e4==0),())) (some (false,()))) (cond (e0==8) (cond (e1==0) (cond (e3==0) (some ((e4==0),())) (some (false,()))) (some (false,()))) (some (false,())))) (cond (e0==2) ((gG (e1,())).bind fun y14=>cond y14.1 (cond (e2==0) (cond (e3==0) (some ((e4==0),())) (some (false,()))) (some (false,()))) (cond (e0==8) (cond (e1==0) (cond (e2==0) (cond (e3==0) (some ((e4==0),())) (some (false,()))) (some (false,()))) (some (false,()))) (some (false,())))) (cond (e0==7) ((gG (e1,())).bind fun y15=>cond y15.1 (cond (e2==0) (cond (e3==0) (some ((e4==0),())) (some (false,()))) (some (false,()))) (cond (e0==8) (cond (e1==0) (cond (e2==0) (cond (e3==0) (some ((e4==0),())) (some (false,()))) (some (false,()))) (some (false,()))) (some (false,())))) (some (false,())))))))))) ((gG (e2,())).bind fun y16=>cond (e0==1) ((jm (e3,())).bind fun y17=>(kC (e4,())).bind fun y18=>(gG (e1,())).bind fun y19=>cond y19.1 (cond y16.1 (cond y17.1 (some (y18.1,())) (some (false,()))) (some (false,()))) (cond (e0==8) (cond (e1==0) (cond y16.1 (cond y17.1 (some (y18.1,())) (some (false,()))) (some (false,()))) (some (false,()))) (some (false,())))) (cond (e0==6) ((jm (e3,())).bind fun y20=>(kC (e4,())).bind fun y21=>(gG (e1,())).bind fun y22=>cond y22.1 (cond y16.1 (cond y20.1 (some (y21.1,())) (some (false,()))) (some (false,()))) (cond (e0==8) (cond (e1==0) (cond y16.1 (cond y20.1 (some (y21.1,())) (some (false,()))) (some (false,()))) (some (false,()))) (some (false,())))) (cond (e0==3) ((jm (e3,())).bind fun y23=>(gG (e1,())).bind fun y24=>cond y24.1 (cond (e2==0) (cond y23.1 (some ((e4==0),())) (some (false,()))) (some (false,()))) (cond (e0==8) (cond (e1==0) (cond (e2==0) (cond y23.1 (some ((e4==0),())) (some (false,()))) (some (false,()))) (some (false,()))) (some (false,())))) (cond (e0==8) ((jm (e3,())).bind fun y25=>(gG (e1,())).bind fun y26=>cond y26.1 (cond (e2==0) (cond y25.1 (some ((e4==0),())) (some (false,()))) (some (false,()))) (cond (e0==8) (cond (e1==0) (cond (e2==0) (cond y25.1 (some ((e4==0),())) (some (false,()))) (some (false,()))) (some (false,()))) (some (false,())))) (cond (e0==4) ((kC (e3,())).bind fun y27=>(gG (e1,())).bind fun y28=>cond y28.1 (cond (e2==0) (cond y27.1 (some ((e4==0),())) (some (false,()))) (some (false,()))) (cond (e0==8) (cond (e1==0) (cond (e2==0) (cond y27.1 (some ((e4==0),())) (some (false,()))) (some (false,()))) (some (false,()))) (some (false,())))) (cond (e0==5) ((gG (e1,())).bind fun y29=>cond y29.1 (cond y16.1 (cond (e3==0) (some ((e4==0),())) (some (false,()))) (some (false,()))) (cond (e0==8) (cond (e1==0) (cond y16.1 (cond (e3==0) (some ((e4==0),())) (some (false,()))) (some (false,()))) (some (false,()))) (some (false,())))) (cond (e0==2) ((gG (e1,())).bind fun y30=>cond y30.1 (cond (e2==0) (cond (e3==0) (some ((e4==0),())) (some (false,()))) (some (false,()))) (cond (e0==8) (cond (e1==0) (cond (e2==0) (cond (e3==0) (some ((e4==0),())) (some (false,()))) (some (false,()))) (some (false,()))) (some (false,())))) (cond (e0==7) ((gG (e1,())).bind fun y31=>cond y31.1 (cond (e2==0) (cond (e3==0) (some ((e4==0),())) (some (false,()))) (some (false,()))) (cond (e0==8) (cond (e1==0) (cond (e2==0) (cond (e3==0) (some ((e4==0),())) (some (false,()))) (some (false,()))) (some (false,()))) (some (false,())))) (some (false,()))))))))))
def oV:=fun x:U6=>zO.T x.1 x.2.1 x.2.2.1 x.2.2.2.1 x.2.2.2.2.1
abbrev aak:aG:=⟨[.v true gy],[(false,[CT.bool])],oV,[]⟩
theorem ZQ:aF Dr Tryz.prog 98 aak:=bg mix (.c DV (.c Dq (.c JE .nil))) (by kernel_rfl) fun x=>by kernel_rfl
def Tv.T(e0 e1 e2 e3 e4:Int):Option (Bool×Unit):=(oV (e0,e1,e2,e3,e4,())).bind fun y1=>cond y1.1 (cond (e0 != 6) (some (true,())) (some ((decide (e2<e1)),()))) (some (false,()))
def KL:=fun x:U6=>Tv.T x.1 x.2.1 x.2.2.1 x.2.2.2.1 x.2.2.2.2.1
abbrev aa8:aG:=⟨[.v true gy],[(false,[CT.bool])],KL,[]⟩
theorem aaK:aF Dr Tryz.prog 71 aa8:=bg mix (.c ZQ .nil) (by kernel_rfl) fun x=>by kernel_rfl
def SN.T(o0 o1 o2 o3 o4:Int):Option (Bool×Unit):=cond (o0==1) ((gG (o1,())).bind fun y1=>cond y1.1 (cond (o2==0) ((jm (o3,())).bind fun y2=>cond y2.1 ((kC (o4,())).bind fun y3=>some (y3.1,())) (some (false,()))) ((gG (o2,())).bind fun y4=>cond y4.1 ((jm (o3,())).bind fun y5=>cond y5.1 ((kC (o4,())).bind fun y6=>some (y6.1,())) (some (false,()))) (some (false,())))) (some (false,()))) (cond (o0==2) ((gG (o1,())).bind fun y7=>cond y7.1 (some (((o0==2)&&((o1==o1)&&((o2==0)&&((o3==0)&&((o4==0)&&true))))),())) (some (false,()))) (cond (o0==4) (some (((o0==o0)&&((o1==0)&&((o2==0)&&((o3==0)&&((o4==0)&&true))))),())) (cond (o0==5) (some (((o0==o0)&&((o1==0)&&((o2==0)&&((o3==0)&&((o4==0)&&true))))),())) ((mZ (o0,o1,o2,o3,o4,())).bind fun y8=>(KL (y8.1,y8.2.1,y8.2.2.1,y8.2.2.2.1,y8.2.2.2.2.1,())).bind fun y9=>some (y9.1,())))))
def DI:=fun x:U6=>SN.T x.1 x.2.1 x.2.2.1 x.2.2.2.1 x.2.2.2.2.1
abbrev aaV:aG:=⟨[.v true gy],[(false,[CT.bool])],DI,[]⟩
theorem aaz:aF Dr Tryz.prog 32 aaV:=bg mix (.c DV (.c Dq (.c JE (.c aaK (.c QT .nil))))) (by kernel_rfl) fun x=>by kernel_rfl
def He.T(s:List U8):Option ((List U8)×Unit):=if s.length=0 then(@ite _ (some ([],())=if([]:List U8).length+s.length≤maxRow then some ((([]:List U8)++s),())else none) (Classical.propDecidable _) (if([]:List U8).length+s.length≤maxRow then some ((([]:List U8)++s),())else none) none)else if([]:List U8).length+s.length≤maxRow then some ((([]:List U8)++s),())else none
def G8:=fun x:(List U8)×Unit=>He.T x.1
abbrev YH:aG:=⟨[.v false [CT.sl aA]],[(false,[CT.sl aA])],G8,[]⟩
theorem YF:aF Dr Tryz.prog 99 YH:=bg mix .nil (by kernel_rfl) fun x=>by kernel_rfl
def G6.T(s:List U8):Option ((List U8)×Unit):=if s.length=0 then(@ite _ (some ([],())=if([]:List U8).length+s.length≤maxRow then some ((([]:List U8)++s),())else none) (Classical.propDecidable _) (if([]:List U8).length+s.length≤maxRow then some ((([]:List U8)++s),())else none) none)else if([]:List U8).length+s.length≤maxRow then some ((([]:List U8)++s),())else none
def GY:=fun x:(List U8)×Unit=>G6.T x.1
abbrev YE:aG:=⟨[.v false [CT.sl aA]],[(false,[CT.sl aA])],GY,[]⟩
theorem Yx:aF Dr Tryz.prog 100 YE:=bg mix .nil (by kernel_rfl) fun x=>by kernel_rfl
def JO.T(f0:Int)(f1 f2:List U8):Option (U3):=(G8 (f1,())).bind fun y1=>(GY (f2,())).bind fun y2=>some (f0,y1.1,y2.1,())
def Je:=fun x:U3=>JO.T x.1 x.2.1 x.2.2.1
abbrev ZC:aG:=⟨[.v true gu],[(true,gu)],Je,[]⟩
theorem Zi:aF Dr Tryz.prog 73 ZC:=bg mix (.c YF (.c Yx .nil)) (by kernel_rfl) fun x=>by kernel_rfl
def Jb.T(s0 s1 s2 s3:Int)(s4 s5:List U8)(s6:List U9):Option (U1):=(Je (s3,s4,s5,())).bind fun y1=>(BR (s6,())).bind fun y2=>some (s0,s1,s2,y1.1,y1.2.1,y1.2.2.1,y2.1,())
def Iu:=fun x:U1=>Jb.T x.1 x.2.1 x.2.2.1 x.2.2.2.1 x.2.2.2.2.1 x.2.2.2.2.2.1 x.2.2.2.2.2.2.1
abbrev Zc:aG:=⟨[.v true jh],[(true,jh)],Iu,[]⟩
theorem YU:aF Dr Tryz.prog 33 Zc:=bg mix (.c Zi (.c PE .nil)) (by kernel_rfl) fun x=>by kernel_rfl
def uI.T(s0 s1 s2 s3:Int)(s4 s5:List U8)(s6:List U9)(o0 o1 o2 o3 o4:Int):Option (U0):=(CB (s0,s1,s2,s3,s4,s5,s6,())).bind fun y1=>cond (!y1.1) (some (0,0,0,0,[],[],[],0,0,1,())) ((DI (o0,o1,o2,o3,o4,())).bind fun y2=>cond (!y2.1) (some (0,0,0,0,[],[],[],0,0,1,())) ((Iu (s0,s1,s2,s3,s4,s5,s6,())).bind fun y3=>(wL (y3.1,y3.2.1,y3.2.2.1,y3.2.2.2.1,y3.2.2.2.2.1,y3.2.2.2.2.2.1,y3.2.2.2.2.2.2.1,o0,o1,o2,o3,o4,())).bind fun y4=>cond (y4.2.2.1 != 0) (some (0,0,0,0,[],[],[],0,0,y4.2.2.1,())) (some (y4.2.2.2.1,y4.2.2.2.2.1,y4.2.2.2.2.2.1,y4.2.2.2.2.2.2.1,y4.2.2.2.2.2.2.2.1,y4.2.2.2.2.2.2.2.2.1,y4.2.2.2.2.2.2.2.2.2.1,y4.1,y4.2.1,0,()))))
def uz:=fun x:Int×Int×Int×Int×(List U8)×(List U8)×(List U9)×U6=>uI.T x.1 x.2.1 x.2.2.1 x.2.2.2.1 x.2.2.2.2.1 x.2.2.2.2.2.1 x.2.2.2.2.2.2.1 x.2.2.2.2.2.2.2.1 x.2.2.2.2.2.2.2.2.1 x.2.2.2.2.2.2.2.2.2.1 x.2.2.2.2.2.2.2.2.2.2.1 x.2.2.2.2.2.2.2.2.2.2.2.1
abbrev Ri:aG:=⟨[.v true jh,.v true gy],[(true,Fz)],uz,[]⟩
theorem aaf:aF KN Tryz.prog 10 Ri:=bg mix (.c PW (.c aaz (.c YU (.c Qm .nil)))) (by kernel_rfl) fun x=>by kernel_rfl
def QZ.T(f0:Int)(f1 f2:List U8):Option ((List aK)×Unit):=(Dj (f0,f1,f2,())).bind fun y1=>cond (!y1.1) (some ([],())) ((oQ (f0,f1,f2,())).bind fun y2=>some (y2.2.1,()))
def CW:=fun x:U3=>QZ.T x.1 x.2.1 x.2.2.1
abbrev Qu:aG:=⟨[.v true gu],[(false,[CT.sl dX])],CW,[]⟩
theorem Zw:aF KN Tryz.prog 13 Qu:=bg mix (.c Qn (.c PY .nil)) (by kernel_rfl) fun x=>by kernel_rfl
def QB.T(list:List U9)(now id:Int):Option (Int×Unit):=(CG (list,())).bind fun y1=>cond (!y1.1) (some (0,())) ((uM (list,now,id,())).bind fun y2=>some (y2.1,()))
def CJ:=fun x:(List U9)×aK=>QB.T x.1 x.2.1 x.2.2.1
abbrev Qg:aG:=⟨[.v false [CT.sl ct0],.v false [CT.int .i64],.v false [CT.int .i64]],[(false,[CT.int .i64])],CJ,[]⟩
theorem Zh:aF Dr Tryz.prog 14 Qg:=bg mix (.c PX (.c Ry .nil)) (by kernel_rfl) fun x=>by kernel_rfl
def Uc.T(a b:Int):Option (Int×Unit):=cond (decide (a<b)) (some (a,())) (some (b,()))
def DX:=fun x:aK=>Uc.T x.1 x.2.1
abbrev SX:aG:=⟨[.v false [CT.int .i64],.v false [CT.int .i64]],[(false,[CT.int .i64])],DX,[]⟩
theorem aa0:aF Dr Tryz.prog 15 SX:=bg mix .nil (by kernel_rfl) fun x=>by kernel_rfl
def Ud.T(a b:Int):Option (Int×Unit):=cond (decide (a>b)) (some (a,())) (some (b,()))
def DY:=fun x:aK=>Ud.T x.1 x.2.1
abbrev SY:aG:=⟨[.v false [CT.int .i64],.v false [CT.int .i64]],[(false,[CT.int .i64])],DY,[]⟩
theorem aa1:aF Dr Tryz.prog 16 SY:=bg mix .nil (by kernel_rfl) fun x=>by kernel_rfl
abbrev Ju:Is:=[.v false [CT.sh [CT.int .u8]]]
abbrev IX:Os:=[(false,[CT.bool])]
namespace gQ
def dF:Tb:=[(7,[],P6),(10,[],Ri),(11,[],uq),(12,[],Qd),(13,[],Qu),(14,[],Qg),(15,[],SX),(16,[],SY)]
def aC:Nat→List Nat×List Nat:=fun k=>if k=12 then([3,4,5,6,7,8],[3,4,5,6])else if k=20 then([4,5,10],[2])else([],[])
def zrc{R:Type}(k0:Nat)(p:List Nat):Env→List Ob→au R→Option R:=bJ Tryz.prog (aW dF) 130 0 aC k0 (cO p (dI Tryz.prog 4))
def R0{R:Type}(nx0:FM R)(ex0:OU R)(share i s s2 s3 s4 o o2 o3 o4 o5 x x2 x3 x4 x5 x6 x7:Int)(p:List aK)(o42 o52:List U8)(o6:List U9)(o7 o8:List U8)(o9:List U9):Option R:=cond (decide (i<(p.length:Int))) (if 0≤i∧i<(p.length:Int)then cond ((p.getD i.toNat (0,0,())).1==o2) (if 0≤i∧i<(p.length:Int)then nx0 ((p.getD i.toNat (0,0,())).2.1) (af (i+1)) s s2 s3 s4 o o2 o3 o4 o5 x x2 x3 x4 x5 x6 x7 p o42 o52 o6 o7 o8 o9 else none) (nx0 share (af (i+1)) s s2 s3 s4 o o2 o3 o4 o5 x x2 x3 x4 x5 x6 x7 p o42 o52 o6 o7 o8 o9)else none) (ex0 share s s2 s3 s4 o o2 o3 o4 o5 x x2 x3 x4 x5 x6 x7 o42 o52 o6 o7 o8 o9)
def R1{R:Type}(nx1:FK R)(ex1:ji R)(ex2:dY R)(i o o2 o3 o4 o5 x x2 x3 x4 x5 x6 x7:Int)(o22 o32:List U8)(o42:List U9):Option R:=cond (decide (i<(o42.length:Int))) (if 0≤i∧i<(o42.length:Int)then cond ((o42.getD i.toNat (0,0,0,())).1==o2) (if 0≤i∧i<(o42.length:Int)then ex1 (((o42.getD i.toNat (0,0,0,())).1==o2)&&(((o42.getD i.toNat (0,0,0,())).2.1==x5)&&(((o42.getD i.toNat (0,0,0,())).2.2.1==x6)&&true)))else none) (nx1 (af (i+1)) o o2 o3 o4 o5 x x2 x3 x4 x5 x6 x7 o22 o32 o42)else none) (ex2 ())
def A0(lo1:FK (Bool×Unit))(code:List (Int×Unit))(share s s2 s3 s4 o o2 o3 o4 o5 x x2 x3 x4 x5 x6 x7:Int)(o32 o42:List U8)(o52:List U9)(o6 o7:List U8)(o8:List U9):Option (Bool×Unit):=if([]:List U9).length+o52.length≤maxRow then(CJ ((([]:List U9)++o52),s3,o2,())).bind fun y1=>cond (decide (share<0)) (some (false,())) ((DY (0,(af (s4 - y1.1)),())).bind fun y2=>(DX (share,y2.1,())).bind fun y3=>cond (x5 != y3.1) (some (false,())) (lo1 0 o o2 o3 o4 o5 x x2 x3 x4 x5 x6 x7 o6 o7 o8))else none
def A1(code:List (Int×Unit))(t2x:Bool):Option (Bool×Unit):=some (t2x,())
def A2(code:List (Int×Unit))(_u:Unit):Option (Bool×Unit):=some (false,())
def T(lo0:FM (Bool×Unit))(code:List (Int×Unit)):Option (Bool×Unit):=cond (decide ((code.length:Int)>1048576)) (some (true,())) ((Cf (code,())).bind fun y1=>cond (y1.2.2.2.2.2.2.2.1 != 1) (some (true,())) ((jF (y1.1,y1.2.1,y1.2.2.1,y1.2.2.2.1,y1.2.2.2.2.1,y1.2.2.2.2.2.1,y1.2.2.2.2.2.2.1,y1.2.2.2.2.2.2.2.1,y1.2.2.2.2.2.2.2.2.1,y1.2.2.2.2.2.2.2.2.2.1,y1.2.2.2.2.2.2.2.2.2.2.1,y1.2.2.2.2.2.2.2.2.2.2.2.1,())).bind fun y2=>cond (y2.2.2.2.2.2.2.2.2.2.1 != 0) (some (true,())) ((uz (y1.1,y1.2.1,y1.2.2.1,y1.2.2.2.1,y1.2.2.2.2.1,y1.2.2.2.2.2.1,y1.2.2.2.2.2.2.1,y1.2.2.2.2.2.2.2.1,y1.2.2.2.2.2.2.2.2.1,y1.2.2.2.2.2.2.2.2.2.1,y1.2.2.2.2.2.2.2.2.2.2.1,y1.2.2.2.2.2.2.2.2.2.2.2.1,())).bind fun y3=>cond (y3.2.2.2.2.2.2.2.2.2.1 != 0) (some (false,())) ((CB (y3.1,y3.2.1,y3.2.2.1,y3.2.2.2.1,y3.2.2.2.2.1,y3.2.2.2.2.2.1,y3.2.2.2.2.2.2.1,())).bind fun y4=>cond (!y4.1) (some (false,())) (cond (y3.2.2.2.2.2.2.2.2.1 != (af (y1.2.2.1+y1.1))) (some (false,())) ((CW (y3.2.2.2.1,y3.2.2.2.2.1,y3.2.2.2.2.2.1,())).bind fun y5=>lo0 (-1) 0 y1.1 y1.2.1 y1.2.2.1 y1.2.2.2.1 y1.2.2.2.2.2.2.2.1 y1.2.2.2.2.2.2.2.2.1 y1.2.2.2.2.2.2.2.2.2.1 y1.2.2.2.2.2.2.2.2.2.2.1 y1.2.2.2.2.2.2.2.2.2.2.2.1 y3.1 y3.2.1 y3.2.2.1 y3.2.2.2.1 y3.2.2.2.2.2.2.2.1 y3.2.2.2.2.2.2.2.2.1 y3.2.2.2.2.2.2.2.2.2.1 y5.1 y1.2.2.2.2.1 y1.2.2.2.2.2.1 y1.2.2.2.2.2.2.1 y3.2.2.2.2.1 y3.2.2.2.2.2.1 y3.2.2.2.2.2.2.1))))))
def K0{R:Type}(k0:Nat)(K:au R):au R:=bF 0 (bI (fun env ob=>zrc k0 [1,1,1,1,1,1,1,1,1] env ob (K)) (K))
def K1{R:Type}(k0:Nat)(K:au R):au R:=bF 2 (bI (fun env ob=>zrc k0 [1,1,1,1,1,1,1,1,1,1,1,1] env ob (K)) (K))
def L0:FM R:=fun share i s s2 s3 s4 o o2 o3 o4 o5 x x2 x3 x4 x5 x6 x7 p o42 o52 o6 o7 o8 o9=>iter 0 [3,4,5,6,7,8] [3,4,5,6] (zrc k0 [1,1,1,1,1,1,1,1,0,1,0,0]) k [(3,.ptr 0 0 0 0),(4,.ptr 1 0 0 0),(5,.ptr 2 0 0 0),(6,.int .i64 share),(7,.own 3),(8,.int .i64 i)] [.box [.int .i64 s,.int .i64 s2,.int .i64 s3,.int .i64 s4,.own 4,.own 5,.own 6],.box [.int .i64 o,.int .i64 o2,.int .i64 o3,.int .i64 o4,.int .i64 o5],.box [.int .i64 x,.int .i64 x2,.int .i64 x3,.int .i64 x4,.own 7,.own 8,.own 9,.int .i64 x5,.int .i64 x6,.int .i64 x7],.arr dX p,.arr aA o42,.arr aA o52,.arr ct0 o6,.arr aA o7,.arr aA o8,.arr ct0 o9] K
def L1:FK R:=fun i o o2 o3 o4 o5 x x2 x3 x4 x5 x6 x7 o22 o32 o42=>iter 0 [4,5,10] [2] (zrc k0 [1,1,1,1,1,1,1,1,1,1,1,0,1,0,0]) k [(4,.ptr 0 0 0 0),(5,.ptr 1 0 0 0),(10,.int .i64 i)] [.box [.int .i64 o,.int .i64 o2,.int .i64 o3,.int .i64 o4,.int .i64 o5],.box [.int .i64 x,.int .i64 x2,.int .i64 x3,.int .i64 x4,.own 2,.own 3,.own 4,.int .i64 x5,.int .i64 x6,.int .i64 x7],.arr aA o22,.arr aA o32,.arr ct0 o42] K
def H0:OU R:=fun share s s2 s3 s4 o o2 o3 o4 o5 x x2 x3 x4 x5 x6 x7 o32 o42 o52 o6 o7 o8=>K (.exit 0) [(3,.ptr 0 0 0 0),(4,.ptr 1 0 0 0),(5,.ptr 2 0 0 0),(6,.int .i64 share)] [.box [.int .i64 s,.int .i64 s2,.int .i64 s3,.int .i64 s4,.own 3,.own 4,.own 5],.box [.int .i64 o,.int .i64 o2,.int .i64 o3,.int .i64 o4,.int .i64 o5],.box [.int .i64 x,.int .i64 x2,.int .i64 x3,.int .i64 x4,.own 6,.own 7,.own 8,.int .i64 x5,.int .i64 x6,.int .i64 x7],.arr aA o32,.arr aA o42,.arr ct0 o52,.arr aA o6,.arr aA o7,.arr ct0 o8]
def H1:ji R:=fun t2x=>K .ret [(2,.bool t2x)] []
def H2:dY R:=fun _=>K (.exit 2) [(2,.undef)] []
theorem zs0:L0 k0 (k+1) K=R0 (L0 k0 k K) (H0 K):=by kernel_rfl
theorem zs1:L1 k0 (k+1) K=R1 (L1 k0 k K) (H1 K) (H2 K):=by kernel_rfl
def G0{R:Type}(k0:Nat)(hx0:OU R):Nat→FM R
 |0=>fun _ _ _ _ _ _ _ _ _ _ _ _ _ _ _ _ _ _ _ _ _ _ _ _ _=>none
 |k+1=>R0 (G0 k0 hx0 k) hx0
theorem aS:∀ k,L0 k0 k K=G0 k0 (H0 K) k:=bK rfl fun k ih=>by rw[zs0,G0];(try simp only[ih]);try rfl
def G1{R:Type}(k0:Nat)(hx1:ji R)(hx2:dY R):Nat→FK R
 |0=>fun _ _ _ _ _ _ _ _ _ _ _ _ _ _ _ _=>none
 |k+1=>R1 (G1 k0 hx1 hx2 k) hx1 hx2
theorem dL:∀ k,L1 k0 k K=G1 k0 (H1 K) (H2 K) k:=bK rfl fun k ih=>by rw[zs1,G1];(try simp only[ih,aS]);try rfl
variable (code:List (Int×Unit))
def aB:au (Bool×Unit):=dm Tryz.prog [.tmp 2] Ju IX (code,())
theorem aZ:H0 (K0 k0 (aB code))=A0 (L1 k0 k0 (K1 k0 (aB code))) code:=by kernel_rfl
theorem dw:H1 (K1 k0 (aB code))=A1 code:=by kernel_rfl
theorem lF:H2 (K1 k0 (aB code))=A2 code:=by kernel_rfl
def FF:Option (Bool×Unit):=T (G0 k0 (A0 (G1 k0 (A1 code) (A2 code) k0) code) k0) code
theorem aY:dB Tryz.prog (aW dF) aC k0 4 Ju IX [] (code,())=FF k0 code:=Eq.trans (b:=T (L0 k0 k0 (K0 k0 (aB code))) code) (by kernel_rfl) (by rw[FF];(try simp only[aS,dL,aZ,dw,lF]);try rfl)
def _root_.Go.Rv.Kq:=fun x:(List (Int×Unit))×Unit=>FF (300+x.1.length) x.1
abbrev _root_.Go.Rv.Rf:aG:=⟨Ju,IX,Kq,[]⟩
theorem _root_.Go.Rv.aad:aF KN Tryz.prog 4 Rf:=dJ mix (.c YZ (.c aaf (.c CY (.c PW (.c Zw (.c Zh (.c aa0 (.c aa1 .nil)))))))) (by kernel_rfl) fun x=>⟨aC,_,aY _ _⟩
end gQ
end Go.Rv
end
