/- Plain facts: words_srv, words_srvo. -/
import Derived.Test.YtmgahpicfjpjaaaGreatEM36
set_option linter.unusedVariables false
set_option linter.unusedSimpArgs false
set_option linter.unusedSectionVars false
namespace Go.Rv
theorem afE(x0:Int)(x1:Int)(x2:Int)(x3:Int) :MS (x0,x1,x2,x3,())=some (x0,x1,x2,x3,()):=by
 rfl
theorem aeS(l:List (Int×Int×Int×Int×Unit))(hl:l.length≤1048576):L9 (l,())=some (l,()):=by
 show pF.FF (300+l.length) l=_
 simp only[pF.FF,pF.T]
 rw[if_pos (by omega)]
 refine copies (n:=l.length) (fun i=>l.getD i (0,0,0,0,())) (fun k i out=>pF.G0 (300+l.length) (fun out=>pF.A0 l out) k l (i:Nat) out) _ (fun k i out hi ho=> ?_) (fun k=> ?_) (300+l.length) 0 _ (by omega) (by omega) (by simp) (by intro j h hj;omega)
 ·have hw:af ((i:Int)+1)=((i+1:Nat):Int):=aH _ (by omega)
  simp only[pF.G0,pF.R0,bJ,afE,Option.bind_some,hw]
  rw[decide_eq_true (by omega),cond_true,if_pos (by omega),if_pos (by omega)]
  rfl
 ·simp only[pF.G0,pF.R0]
  rw[decide_eq_false (by omega),cond_false]
  exact congrArg (fun x=>some (x,())) (EI l (0,0,0,0,()))
theorem aeQ(x0:Int)(x1:Int)(x2:Int)(x3:Int) :L6 (x0,x1,x2,x3,())=some (x0,x1,x2,x3,()):=by
 rfl
theorem aeb(l:List (Int×Int×Int×Int×Unit))(hl:l.length≤1048576):Lj (l,())=some (l,()):=by
 show oZ.FF (300+l.length) l=_
 simp only[oZ.FF,oZ.T]
 rw[if_pos (by omega)]
 refine copies (n:=l.length) (fun i=>l.getD i (0,0,0,0,())) (fun k i out=>oZ.G0 (300+l.length) (fun out=>oZ.A0 l out) k l (i:Nat) out) _ (fun k i out hi ho=> ?_) (fun k=> ?_) (300+l.length) 0 _ (by omega) (by omega) (by simp) (by intro j h hj;omega)
 ·have hw:af ((i:Int)+1)=((i+1:Nat):Int):=aH _ (by omega)
  simp only[oZ.G0,oZ.R0,bJ,aeQ,Option.bind_some,hw]
  rw[decide_eq_true (by omega),cond_true,if_pos (by omega),if_pos (by omega)]
  rfl
 ·simp only[oZ.G0,oZ.R0]
  rw[decide_eq_false (by omega),cond_false]
  exact congrArg (fun x=>some (x,())) (EI l (0,0,0,0,()))
theorem agv(x0:Int)(x1:List (Int×Int×Int×Int×Unit))(x2:List (Int×Int×Int×Int×Unit))(h_x1:x1.length≤1048576)(h_x2:x2.length≤1048576):Ed (x0,x1,x2,())=some (x0,x1,x2,()):=by
 simp(disch:=assumption) only[Ed,UL.T,aeS,aeb,Option.bind_some]
theorem afD(x0:Int)(x1:Int)(x2:Int) :MR (x0,x1,x2,())=some (x0,x1,x2,()):=by
 rfl
theorem aeR(l:List (Int×Int×Int×Unit))(hl:l.length≤1048576):L8 (l,())=some (l,()):=by
 show pz.FF (300+l.length) l=_
 simp only[pz.FF,pz.T]
 rw[if_pos (by omega)]
 refine copies (n:=l.length) (fun i=>l.getD i (0,0,0,())) (fun k i out=>pz.G0 (300+l.length) (fun out=>pz.A0 l out) k l (i:Nat) out) _ (fun k i out hi ho=> ?_) (fun k=> ?_) (300+l.length) 0 _ (by omega) (by omega) (by simp) (by intro j h hj;omega)
 ·have hw:af ((i:Int)+1)=((i+1:Nat):Int):=aH _ (by omega)
  simp only[pz.G0,pz.R0,bJ,afD,Option.bind_some,hw]
  rw[decide_eq_true (by omega),cond_true,if_pos (by omega),if_pos (by omega)]
  rfl
 ·simp only[pz.G0,pz.R0]
  rw[decide_eq_false (by omega),cond_false]
  exact congrArg (fun x=>some (x,())) (EI l (0,0,0,()))
theorem aeP(x0:Int)(x1:Int)(x2:Int)(x3:Int)(x4:List (Int×Int×Int×Int×Unit))(x5:List (Int×Int×Int×Int×Unit))(x6:List (Int×Int×Int×Unit))(h_x4:x4.length≤1048576)(h_x5:x5.length≤1048576)(h_x6:x6.length≤1048576):uK (x0,x1,x2,x3,x4,x5,x6,())=some (x0,x1,x2,x3,x4,x5,x6,()):=by
 simp(disch:=assumption) only[uK,TR.T,agv,aeR,Option.bind_some]
theorem agb(x0:Int)(x1:Int)(x2:Int)(x3:Int) :DY (x0,x1,x2,x3,x0,x1,x2,x3,())=some (true,()):=by
 simp(disch:=assumption) only[DY,Ur.T,Option.bind_some,bne_self_eq_false,cond_false,Bool.not_true]
theorem afo(l:List (Int×Int×Int×Int×Unit))(hl:l.length≤1048576):Md (l,l,())=some (true,()):=by
 show ng.FF (300+l.length+l.length) l l=_
 simp only[ng.FF,ng.T,bne_self_eq_false,cond_false]
 rw[←FU l.length]
 refine qW (g:=fun k i=>ng.G0 (300+l.length+l.length) (fun t=>ng.A0 l l t) (fun _=>ng.A1 l l ()) k l l (i:Nat)) (fun k i hi _=> ?_) (fun _ k=> ?_) _ (by omega)
 ·have hw:af ((i:Int)+1)=((i+1:Nat):Int):=aH _ (by omega)
  simp only[ng.G0,ng.R0,bJ,agb,Option.bind_some,hw]
  grind [=dK]
 ·simp only[ng.G0,ng.R0,ng.A1];grind [=dK]
theorem afm(x0:Int)(x1:Int)(x2:Int)(x3:Int) :DJ (x0,x1,x2,x3,x0,x1,x2,x3,())=some (true,()):=by
 simp(disch:=assumption) only[DJ,Ua.T,Option.bind_some,bne_self_eq_false,cond_false,Bool.not_true]
theorem aeB(l:List (Int×Int×Int×Int×Unit))(hl:l.length≤1048576):Ll (l,l,())=some (true,()):=by
 show mX.FF (300+l.length+l.length) l l=_
 simp only[mX.FF,mX.T,bne_self_eq_false,cond_false]
 rw[←FU l.length]
 refine qW (g:=fun k i=>mX.G0 (300+l.length+l.length) (fun t=>mX.A0 l l t) (fun _=>mX.A1 l l ()) k l l (i:Nat)) (fun k i hi _=> ?_) (fun _ k=> ?_) _ (by omega)
 ·have hw:af ((i:Int)+1)=((i+1:Nat):Int):=aH _ (by omega)
  simp only[mX.G0,mX.R0,bJ,afm,Option.bind_some,hw]
  grind [=dK]
 ·simp only[mX.G0,mX.R0,mX.A1];grind [=dK]
theorem agU(x0:Int)(x1:List (Int×Int×Int×Int×Unit))(x2:List (Int×Int×Int×Int×Unit))(h_x1:x1.length≤1048576)(h_x2:x2.length≤1048576):Ef (x0,x1,x2,x0,x1,x2,())=some (true,()):=by
 simp(disch:=assumption) only[Ef,UN.T,afo,aeB,Option.bind_some,bne_self_eq_false,cond_false,Bool.not_true]
theorem aga(x0:Int)(x1:Int)(x2:Int) :DX (x0,x1,x2,x0,x1,x2,())=some (true,()):=by
 simp(disch:=assumption) only[DX,Uo.T,Option.bind_some,bne_self_eq_false,cond_false,Bool.not_true]
theorem afn(l:List (Int×Int×Int×Unit))(hl:l.length≤1048576):Mc (l,l,())=some (true,()):=by
 show mZ.FF (300+l.length+l.length) l l=_
 simp only[mZ.FF,mZ.T,bne_self_eq_false,cond_false]
 rw[←FU l.length]
 refine qW (g:=fun k i=>mZ.G0 (300+l.length+l.length) (fun t=>mZ.A0 l l t) (fun _=>mZ.A1 l l ()) k l l (i:Nat)) (fun k i hi _=> ?_) (fun _ k=> ?_) _ (by omega)
 ·have hw:af ((i:Int)+1)=((i+1:Nat):Int):=aH _ (by omega)
  simp only[mZ.G0,mZ.R0,bJ,aga,Option.bind_some,hw]
  grind [=dK]
 ·simp only[mZ.G0,mZ.R0,mZ.A1];grind [=dK]
theorem WU(x0:Int)(x1:Int)(x2:Int)(x3:Int)(x4:List (Int×Int×Int×Int×Unit))(x5:List (Int×Int×Int×Int×Unit))(x6:List (Int×Int×Int×Unit))(h_x4:x4.length≤1048576)(h_x5:x5.length≤1048576)(h_x6:x6.length≤1048576):uM (x0,x1,x2,x3,x4,x5,x6,x0,x1,x2,x3,x4,x5,x6,())=some (true,()):=by
 simp(disch:=assumption) only[uM,TY.T,agU,afn,Option.bind_some,bne_self_eq_false,cond_false,Bool.not_true]
theorem aeW(l:List (Int×Int×Int×Int×Unit))(left:Int)(h0:0≤left)(h1:left≤1048576)(hl:l.length≤140737488355328):∃ z,DC (l,left,())=some (z,())∧yT z left [l.length]:=by
 simp only[DC,TU.T]
 rw[aH (left - l.length) (by omega)]
 by_cases h:left - (l.length:Int)<0
 ·rw[decide_eq_true h];exact⟨_,rfl,by omega,by omega⟩
 ·rw[decide_eq_false h];exact⟨_,rfl,by omega,fun _ n hn=>by simp at hn;omega⟩
theorem aec(l:List (Int×Int×Int×Int×Unit))(left:Int)(h0:0≤left)(h1:left≤1048576)(hl:l.length≤140737488355328):∃ z,Dq (l,left,())=some (z,())∧yT z left [l.length]:=by
 simp only[Dq,Tv.T]
 rw[aH (left - l.length) (by omega)]
 by_cases h:left - (l.length:Int)<0
 ·rw[decide_eq_true h];exact⟨_,rfl,by omega,by omega⟩
 ·rw[decide_eq_false h];exact⟨_,rfl,by omega,fun _ n hn=>by simp at hn;omega⟩
theorem agw(x0:Int)(x1:List (Int×Int×Int×Int×Unit))(x2:List (Int×Int×Int×Int×Unit))(left:Int)(h0:0≤left)(h1:left≤1048576)(h_x1:x1.length≤140737488355328)(h_x2:x2.length≤140737488355328):∃ z,Ee (x0,x1,x2,left,())=some (z,())∧yT z left [x1.length,x2.length]:=by
 obtain⟨z0,hz0,ha0,hb0⟩:=aeW x1 left (by omega) (by omega) h_x1
 simp only[List.mem_cons,List.not_mem_nil,or_false,forall_eq_or_imp,forall_eq]at hb0
 simp only[Ee,UM.T,hz0,Option.bind_some,cond_false]
 by_cases g0:z0<0
 ·rw[decide_eq_true g0];exact⟨_,rfl,by omega,by omega⟩
 rw[decide_eq_false g0]
 obtain⟨z1,hz1,ha1,hb1⟩:=aec x2 z0 (by omega) (by omega) h_x2
 simp only[List.mem_cons,List.not_mem_nil,or_false,forall_eq_or_imp,forall_eq]at hb1
 simp only[hz1,Option.bind_some,cond_false]
 by_cases g1:z1<0
 ·rw[decide_eq_true g1];exact⟨_,rfl,by omega,by omega⟩
 rw[decide_eq_false g1]
 refine⟨_,rfl,by omega,fun _ n hn=> ?_⟩
 simp only[List.mem_cons,List.not_mem_nil,or_false]at hn
 omega
theorem aeV(l:List (Int×Int×Int×Unit))(left:Int)(h0:0≤left)(h1:left≤1048576)(hl:l.length≤140737488355328):∃ z,Dz (l,left,())=some (z,())∧yT z left [l.length]:=by
 simp only[Dz,TT.T]
 rw[aH (left - l.length) (by omega)]
 by_cases h:left - (l.length:Int)<0
 ·rw[decide_eq_true h];exact⟨_,rfl,by omega,by omega⟩
 ·rw[decide_eq_false h];exact⟨_,rfl,by omega,fun _ n hn=>by simp at hn;omega⟩
theorem aeU(x0:Int)(x1:Int)(x2:Int)(x3:Int)(x4:List (Int×Int×Int×Int×Unit))(x5:List (Int×Int×Int×Int×Unit))(x6:List (Int×Int×Int×Unit))(left:Int)(h0:0≤left)(h1:left≤1048576)(h_x4:x4.length≤140737488355328)(h_x5:x5.length≤140737488355328)(h_x6:x6.length≤140737488355328):∃ z,Dy (x0,x1,x2,x3,x4,x5,x6,left,())=some (z,())∧yT z left [x4.length,x5.length,x6.length]:=by
 obtain⟨z0,hz0,ha0,hb0⟩:=agw x3 x4 x5 left (by omega) (by omega) h_x4 h_x5
 simp only[List.mem_cons,List.not_mem_nil,or_false,forall_eq_or_imp,forall_eq]at hb0
 simp only[Dy,TS.T,hz0,Option.bind_some,cond_false]
 by_cases g0:z0<0
 ·rw[decide_eq_true g0];exact⟨_,rfl,by omega,by omega⟩
 rw[decide_eq_false g0]
 obtain⟨z1,hz1,ha1,hb1⟩:=aeV x6 z0 (by omega) (by omega) h_x6
 simp only[List.mem_cons,List.not_mem_nil,or_false,forall_eq_or_imp,forall_eq]at hb1
 simp only[hz1,Option.bind_some,cond_false]
 by_cases g1:z1<0
 ·rw[decide_eq_true g1];exact⟨_,rfl,by omega,by omega⟩
 rw[decide_eq_false g1]
 refine⟨_,rfl,by omega,fun _ n hn=> ?_⟩
 simp only[List.mem_cons,List.not_mem_nil,or_false]at hn
 omega
def xK(k:Int)(i:Nat):Int×Int×Int×Int×Unit:=((k+4*(i:Int)),(k+4*(i:Int)+1),(k+4*(i:Int)+2),(k+4*(i:Int)+3),())
theorem afa(l:List (Int×Int×Int×Int×Unit))(k:Int)(h0:0≤k)(h1:k≤72057594037927936)(hl:l.length≤1048576):∃ y:List (Int×Int×Int×Int×Unit),KC (l,k,())=some (k+4*(l.length:Int),y,())∧KE (y,k,())=some (k+4*(l.length:Int),()):=by
 refine⟨List.ofFn fun i:Fin l.length=>xK k i, ?_, ?_⟩
 ·show mV.FF (300+l.length) l k=_
  simp only[mV.FF,mV.T]
  refine Eq.trans (congrArg (fun z=>mV.G0 (300+l.length) (fun kx o=>mV.A0 l k kx o) (300+l.length) z 0 l) (show k=k+4*((0:Nat):Int) by omega))
   (copies (n:=l.length) (xK k) (fun q i out=>mV.G0 (300+l.length) (fun kx o=>mV.A0 l k kx o) q (k+4*((i:Nat):Int)) (i:Nat) out) (some (k+4*(l.length:Int),List.ofFn fun i:Fin l.length=>xK k i,())) (fun q i out hi ho=> ?_) (fun q=> ?_) (300+l.length) 0 l (by omega) (by omega) rfl (by intro j h hj;omega))
  ·have hw:af ((i:Int)+1)=((i+1:Nat):Int):=aH _ (by omega)
   have v1:af (k+4*(i:Int)+1)=k+4*(i:Int)+1:=(aH _ (by omega)).trans (by omega)
   have v2:af (k+4*(i:Int)+1+1)=k+4*(i:Int)+2:=(aH _ (by omega)).trans (by omega)
   have v3:af (k+4*(i:Int)+2+1)=k+4*(i:Int)+3:=(aH _ (by omega)).trans (by omega)
   have v4:af (k+4*(i:Int)+3+1)=k+4*(i:Int)+4:=(aH _ (by omega)).trans (by omega)
   have hnx:k+4*((i+1:Nat):Int)=k+4*(i:Int)+4:=by omega
   simp only[mV.G0,mV.R0,hw,v1,v2,v3,v4,hnx,List.length_set,Int.toNat_natCast,List.set_set,ho]
   rw[decide_eq_true (by omega),cond_true]
   simp only[if_pos (show 0≤(i:Int)∧(i:Int)<(l.length:Int) by omega),D7 _ _ _ _ (show i<out.length by omega)]
   rfl
  ·simp only[mV.G0,mV.R0]
   rw[decide_eq_false (by simp),cond_false]
   rfl
 ·show lg.FF (300+(List.ofFn fun i:Fin l.length=>xK k i).length) _ k=_
  simp only[lg.FF,lg.T,List.length_ofFn]
  generalize hy:(List.ofFn fun i:Fin l.length=>xK k i)=y
  have hyl:y.length=l.length:=by rw[←hy,List.length_ofFn]
  have hyg:∀ i:Nat,i<l.length→y.getD i (0,0,0,0,())=((k+4*(i:Int)),(k+4*(i:Int)+1),(k+4*(i:Int)+2),(k+4*(i:Int)+3),()):=fun i hi=>by rw[←hy];exact Pq (xK k) _ _ hi
  refine Eq.trans (congrArg (fun z=>lg.G0 (300+l.length) (fun kx t=>lg.A0 y k kx t) (fun kx=>lg.A1 y k kx) (300+l.length) y z 0) (show k=k+4*((0:Nat):Int) by omega))
   ((scan (α:=Option (Int×Unit)) l.length (fun _=>True) (fun q i=>lg.G0 (300+l.length) (fun kx t=>lg.A0 y k kx t) (fun kx=>lg.A1 y k kx) q y (k+4*((i:Nat):Int)) (i:Nat)) (some (k+4*(l.length:Int),())) none (fun q i hi _=>⟨fun _=> ?_,fun h=>absurd trivial h⟩) (fun _ q=> ?_) (300+l.length) 0 (by omega) (by omega) (fun _ _=>trivial)).1 (fun _ _=>trivial))
  ·have hw:af ((i:Int)+1)=((i+1:Nat):Int):=aH _ (by omega)
   have v1:af (k+4*(i:Int)+1)=k+4*(i:Int)+1:=(aH _ (by omega)).trans (by omega)
   have v2:af (k+4*(i:Int)+1+1)=k+4*(i:Int)+2:=(aH _ (by omega)).trans (by omega)
   have v3:af (k+4*(i:Int)+2+1)=k+4*(i:Int)+3:=(aH _ (by omega)).trans (by omega)
   have v4:af (k+4*(i:Int)+3+1)=k+4*(i:Int)+4:=(aH _ (by omega)).trans (by omega)
   have hnx:k+4*((i+1:Nat):Int)=k+4*(i:Int)+4:=by omega
   simp only[lg.G0,lg.R0,bJ,hyg i hi,hw,v1,v2,v3,v4,hnx,hyl,bne_self_eq_false,cond_false]
   rw[decide_eq_true (by omega),cond_true]
   simp only[if_pos (show 0≤(i:Int)∧(i:Int)<(l.length:Int) by omega)]
  ·simp only[lg.G0,lg.R0,hyl]
   rw[decide_eq_false (by omega),cond_false]
   rfl
def xC(k:Int)(i:Nat):Int×Int×Int×Int×Unit:=((k+4*(i:Int)),(k+4*(i:Int)+1),(k+4*(i:Int)+2),(k+4*(i:Int)+3),())
theorem aem(l:List (Int×Int×Int×Int×Unit))(k:Int)(h0:0≤k)(h1:k≤72057594037927936)(hl:l.length≤1048576):∃ y:List (Int×Int×Int×Int×Unit),JP (l,k,())=some (k+4*(l.length:Int),y,())∧JQ (y,k,())=some (k+4*(l.length:Int),()):=by
 refine⟨List.ofFn fun i:Fin l.length=>xC k i, ?_, ?_⟩
 ·show mJ.FF (300+l.length) l k=_
  simp only[mJ.FF,mJ.T]
  refine Eq.trans (congrArg (fun z=>mJ.G0 (300+l.length) (fun kx o=>mJ.A0 l k kx o) (300+l.length) z 0 l) (show k=k+4*((0:Nat):Int) by omega))
   (copies (n:=l.length) (xC k) (fun q i out=>mJ.G0 (300+l.length) (fun kx o=>mJ.A0 l k kx o) q (k+4*((i:Nat):Int)) (i:Nat) out) (some (k+4*(l.length:Int),List.ofFn fun i:Fin l.length=>xC k i,())) (fun q i out hi ho=> ?_) (fun q=> ?_) (300+l.length) 0 l (by omega) (by omega) rfl (by intro j h hj;omega))
  ·have hw:af ((i:Int)+1)=((i+1:Nat):Int):=aH _ (by omega)
   have v1:af (k+4*(i:Int)+1)=k+4*(i:Int)+1:=(aH _ (by omega)).trans (by omega)
   have v2:af (k+4*(i:Int)+1+1)=k+4*(i:Int)+2:=(aH _ (by omega)).trans (by omega)
   have v3:af (k+4*(i:Int)+2+1)=k+4*(i:Int)+3:=(aH _ (by omega)).trans (by omega)
   have v4:af (k+4*(i:Int)+3+1)=k+4*(i:Int)+4:=(aH _ (by omega)).trans (by omega)
   have hnx:k+4*((i+1:Nat):Int)=k+4*(i:Int)+4:=by omega
   simp only[mJ.G0,mJ.R0,hw,v1,v2,v3,v4,hnx,List.length_set,Int.toNat_natCast,List.set_set,ho]
   rw[decide_eq_true (by omega),cond_true]
   simp only[if_pos (show 0≤(i:Int)∧(i:Int)<(l.length:Int) by omega),D7 _ _ _ _ (show i<out.length by omega)]
   rfl
  ·simp only[mJ.G0,mJ.R0]
   rw[decide_eq_false (by simp),cond_false]
   rfl
 ·show kY.FF (300+(List.ofFn fun i:Fin l.length=>xC k i).length) _ k=_
  simp only[kY.FF,kY.T,List.length_ofFn]
  generalize hy:(List.ofFn fun i:Fin l.length=>xC k i)=y
  have hyl:y.length=l.length:=by rw[←hy,List.length_ofFn]
  have hyg:∀ i:Nat,i<l.length→y.getD i (0,0,0,0,())=((k+4*(i:Int)),(k+4*(i:Int)+1),(k+4*(i:Int)+2),(k+4*(i:Int)+3),()):=fun i hi=>by rw[←hy];exact Pq (xC k) _ _ hi
  refine Eq.trans (congrArg (fun z=>kY.G0 (300+l.length) (fun kx t=>kY.A0 y k kx t) (fun kx=>kY.A1 y k kx) (300+l.length) y z 0) (show k=k+4*((0:Nat):Int) by omega))
   ((scan (α:=Option (Int×Unit)) l.length (fun _=>True) (fun q i=>kY.G0 (300+l.length) (fun kx t=>kY.A0 y k kx t) (fun kx=>kY.A1 y k kx) q y (k+4*((i:Nat):Int)) (i:Nat)) (some (k+4*(l.length:Int),())) none (fun q i hi _=>⟨fun _=> ?_,fun h=>absurd trivial h⟩) (fun _ q=> ?_) (300+l.length) 0 (by omega) (by omega) (fun _ _=>trivial)).1 (fun _ _=>trivial))
  ·have hw:af ((i:Int)+1)=((i+1:Nat):Int):=aH _ (by omega)
   have v1:af (k+4*(i:Int)+1)=k+4*(i:Int)+1:=(aH _ (by omega)).trans (by omega)
   have v2:af (k+4*(i:Int)+1+1)=k+4*(i:Int)+2:=(aH _ (by omega)).trans (by omega)
   have v3:af (k+4*(i:Int)+2+1)=k+4*(i:Int)+3:=(aH _ (by omega)).trans (by omega)
   have v4:af (k+4*(i:Int)+3+1)=k+4*(i:Int)+4:=(aH _ (by omega)).trans (by omega)
   have hnx:k+4*((i+1:Nat):Int)=k+4*(i:Int)+4:=by omega
   simp only[kY.G0,kY.R0,bJ,hyg i hi,hw,v1,v2,v3,v4,hnx,hyl,bne_self_eq_false,cond_false]
   rw[decide_eq_true (by omega),cond_true]
   simp only[if_pos (show 0≤(i:Int)∧(i:Int)<(l.length:Int) by omega)]
  ·simp only[kY.G0,kY.R0,hyl]
   rw[decide_eq_false (by omega),cond_false]
   rfl
theorem agG(x0:Int)(x1:List (Int×Int×Int×Int×Unit))(x2:List (Int×Int×Int×Int×Unit))(k:Int)(h0:0≤k)(h1:k≤9007199254740992)(h_x1:x1.length≤1048576)(h_x2:x2.length≤1048576):∃ (y_x1:List (Int×Int×Int×Int×Unit)) (y_x2:List (Int×Int×Int×Int×Unit)),DF (x0,x1,x2,k,())=some (k+4*(x1.length:Int)+4*(x2.length:Int),x0,y_x1,y_x2,())∧DI (x0,y_x1,y_x2,k,())=some (k+4*(x1.length:Int)+4*(x2.length:Int),()):=by
 obtain⟨y_x1,a0,b0⟩:=afa x1 (k) (by omega) (by omega) h_x1
 obtain⟨y_x2,a1,b1⟩:=aem x2 (k+4*(x1.length:Int)) (by omega) (by omega) h_x2
 have n0:decide (k+4*(x1.length:Int)<0)=false:=decide_eq_false (by omega)
 have n1:decide (k+4*(x1.length:Int)+4*(x2.length:Int)<0)=false:=decide_eq_false (by omega)
 exact⟨y_x1,y_x2,by simp only[DF,TV.T,a0,a1,Option.bind_some],by simp only[DI,TW.T,b0,b1,n0,n1,Option.bind_some,cond_false]⟩
def xJ(k:Int)(i:Nat):Int×Int×Int×Unit:=((k+3*(i:Int)),(k+3*(i:Int)+1),(k+3*(i:Int)+2),())
theorem ae9(l:List (Int×Int×Int×Unit))(k:Int)(h0:0≤k)(h1:k≤72057594037927936)(hl:l.length≤1048576):∃ y:List (Int×Int×Int×Unit),KA (l,k,())=some (k+3*(l.length:Int),y,())∧KD (y,k,())=some (k+3*(l.length:Int),()):=by
 refine⟨List.ofFn fun i:Fin l.length=>xJ k i, ?_, ?_⟩
 ·show mQ.FF (300+l.length) l k=_
  simp only[mQ.FF,mQ.T]
  refine Eq.trans (congrArg (fun z=>mQ.G0 (300+l.length) (fun kx o=>mQ.A0 l k kx o) (300+l.length) z 0 l) (show k=k+3*((0:Nat):Int) by omega))
   (copies (n:=l.length) (xJ k) (fun q i out=>mQ.G0 (300+l.length) (fun kx o=>mQ.A0 l k kx o) q (k+3*((i:Nat):Int)) (i:Nat) out) (some (k+3*(l.length:Int),List.ofFn fun i:Fin l.length=>xJ k i,())) (fun q i out hi ho=> ?_) (fun q=> ?_) (300+l.length) 0 l (by omega) (by omega) rfl (by intro j h hj;omega))
  ·have hw:af ((i:Int)+1)=((i+1:Nat):Int):=aH _ (by omega)
   have v1:af (k+3*(i:Int)+1)=k+3*(i:Int)+1:=(aH _ (by omega)).trans (by omega)
   have v2:af (k+3*(i:Int)+1+1)=k+3*(i:Int)+2:=(aH _ (by omega)).trans (by omega)
   have v3:af (k+3*(i:Int)+2+1)=k+3*(i:Int)+3:=(aH _ (by omega)).trans (by omega)
   have hnx:k+3*((i+1:Nat):Int)=k+3*(i:Int)+3:=by omega
   simp only[mQ.G0,mQ.R0,hw,v1,v2,v3,hnx,List.length_set,Int.toNat_natCast,List.set_set,ho]
   rw[decide_eq_true (by omega),cond_true]
   simp only[if_pos (show 0≤(i:Int)∧(i:Int)<(l.length:Int) by omega),D7 _ _ _ _ (show i<out.length by omega)]
   rfl
  ·simp only[mQ.G0,mQ.R0]
   rw[decide_eq_false (by simp),cond_false]
   rfl
 ·show kZ.FF (300+(List.ofFn fun i:Fin l.length=>xJ k i).length) _ k=_
  simp only[kZ.FF,kZ.T,List.length_ofFn]
  generalize hy:(List.ofFn fun i:Fin l.length=>xJ k i)=y
  have hyl:y.length=l.length:=by rw[←hy,List.length_ofFn]
  have hyg:∀ i:Nat,i<l.length→y.getD i (0,0,0,())=((k+3*(i:Int)),(k+3*(i:Int)+1),(k+3*(i:Int)+2),()):=fun i hi=>by rw[←hy];exact Pq (xJ k) _ _ hi
  refine Eq.trans (congrArg (fun z=>kZ.G0 (300+l.length) (fun kx t=>kZ.A0 y k kx t) (fun kx=>kZ.A1 y k kx) (300+l.length) y z 0) (show k=k+3*((0:Nat):Int) by omega))
   ((scan (α:=Option (Int×Unit)) l.length (fun _=>True) (fun q i=>kZ.G0 (300+l.length) (fun kx t=>kZ.A0 y k kx t) (fun kx=>kZ.A1 y k kx) q y (k+3*((i:Nat):Int)) (i:Nat)) (some (k+3*(l.length:Int),())) none (fun q i hi _=>⟨fun _=> ?_,fun h=>absurd trivial h⟩) (fun _ q=> ?_) (300+l.length) 0 (by omega) (by omega) (fun _ _=>trivial)).1 (fun _ _=>trivial))
  ·have hw:af ((i:Int)+1)=((i+1:Nat):Int):=aH _ (by omega)
   have v1:af (k+3*(i:Int)+1)=k+3*(i:Int)+1:=(aH _ (by omega)).trans (by omega)
   have v2:af (k+3*(i:Int)+1+1)=k+3*(i:Int)+2:=(aH _ (by omega)).trans (by omega)
   have v3:af (k+3*(i:Int)+2+1)=k+3*(i:Int)+3:=(aH _ (by omega)).trans (by omega)
   have hnx:k+3*((i+1:Nat):Int)=k+3*(i:Int)+3:=by omega
   simp only[kZ.G0,kZ.R0,bJ,hyg i hi,hw,v1,v2,v3,hnx,hyl,bne_self_eq_false,cond_false]
   rw[decide_eq_true (by omega),cond_true]
   simp only[if_pos (show 0≤(i:Int)∧(i:Int)<(l.length:Int) by omega)]
  ·simp only[kZ.G0,kZ.R0,hyl]
   rw[decide_eq_false (by omega),cond_false]
   rfl
theorem WE(x0:Int)(x1:Int)(x2:Int)(x3:Int)(x4:List (Int×Int×Int×Int×Unit))(x5:List (Int×Int×Int×Int×Unit))(x6:List (Int×Int×Int×Unit))(k:Int)(h0:0≤k)(h1:k≤1125899906842624)(h_x4:x4.length≤1048576)(h_x5:x5.length≤1048576)(h_x6:x6.length≤1048576):∃ (y_x4:List (Int×Int×Int×Int×Unit)) (y_x5:List (Int×Int×Int×Int×Unit)) (y_x6:List (Int×Int×Int×Unit)),zF (x0,x1,x2,x3,x4,x5,x6,k,())=some (k+4*(x4.length:Int)+4*(x5.length:Int)+3*(x6.length:Int),x0,x1,x2,x3,y_x4,y_x5,y_x6,())∧zG (x0,x1,x2,x3,y_x4,y_x5,y_x6,k,())=some (k+4*(x4.length:Int)+4*(x5.length:Int)+3*(x6.length:Int),()):=by
 obtain⟨y_x4,y_x5,a0,b0⟩:=agG x3 x4 x5 (k) (by omega) (by omega) h_x4 h_x5
 obtain⟨y_x6,a1,b1⟩:=ae9 x6 (k+4*(x4.length:Int)+4*(x5.length:Int)) (by omega) (by omega) h_x6
 have n0:decide (k+4*(x4.length:Int)+4*(x5.length:Int)<0)=false:=decide_eq_false (by omega)
 have n1:decide (k+4*(x4.length:Int)+4*(x5.length:Int)+3*(x6.length:Int)<0)=false:=decide_eq_false (by omega)
 exact⟨y_x4,y_x5,y_x6,by simp only[zF,SK.T,a0,a1,Option.bind_some],by simp only[zG,SL.T,b0,b1,n0,n1,Option.bind_some,cond_false]⟩
theorem ahD(x0:Int)(x1:Int)(x2:Int)(x3:Int)(x4:Int) :NH (x0,x1,x2,x3,x4,())=some (x0,x1,x2,x3,x4,()):=by
 rfl
theorem ag5(l:List (Int×Int×Int×Int×Int×Unit))(hl:l.length≤1048576):xg (l,())=some (l,()):=by
 show pK.FF (300+l.length) l=_
 simp only[pK.FF,pK.T]
 rw[if_pos (by omega)]
 refine copies (n:=l.length) (fun i=>l.getD i (0,0,0,0,0,())) (fun k i out=>pK.G0 (300+l.length) (fun out=>pK.A0 l out) k l (i:Nat) out) _ (fun k i out hi ho=> ?_) (fun k=> ?_) (300+l.length) 0 _ (by omega) (by omega) (by simp) (by intro j h hj;omega)
 ·have hw:af ((i:Int)+1)=((i+1:Nat):Int):=aH _ (by omega)
  simp only[pK.G0,pK.R0,bJ,ahD,Option.bind_some,hw]
  rw[decide_eq_true (by omega),cond_true,if_pos (by omega),if_pos (by omega)]
  rfl
 ·simp only[pK.G0,pK.R0]
  rw[decide_eq_false (by omega),cond_false]
  exact congrArg (fun x=>some (x,())) (EI l (0,0,0,0,0,()))
theorem ahS(x0:Int)(x1:Int)(x2:Int)(x3:Int)(x4:Int) :Ep (x0,x1,x2,x3,x4,x0,x1,x2,x3,x4,())=some (true,()):=by
 simp(disch:=assumption) only[Ep,VS.T,Option.bind_some,bne_self_eq_false,cond_false,Bool.not_true]
theorem ahm(l:List (Int×Int×Int×Int×Int×Unit))(hl:l.length≤1048576):Ns (l,l,())=some (true,()):=by
 show nD.FF (300+l.length+l.length) l l=_
 simp only[nD.FF,nD.T,bne_self_eq_false,cond_false]
 rw[←FU l.length]
 refine qW (g:=fun k i=>nD.G0 (300+l.length+l.length) (fun t=>nD.A0 l l t) (fun _=>nD.A1 l l ()) k l l (i:Nat)) (fun k i hi _=> ?_) (fun _ k=> ?_) _ (by omega)
 ·have hw:af ((i:Int)+1)=((i+1:Nat):Int):=aH _ (by omega)
  simp only[nD.G0,nD.R0,bJ,ahS,Option.bind_some,hw]
  grind [=dK]
 ·simp only[nD.G0,nD.R0,nD.A1];grind [=dK]
theorem ag7(l:List (Int×Int×Int×Int×Int×Unit))(left:Int)(h0:0≤left)(h1:left≤1048576)(hl:l.length≤140737488355328):∃ z,Em (l,left,())=some (z,())∧yT z left [l.length]:=by
 simp only[Em,Vs.T]
 rw[aH (left - l.length) (by omega)]
 by_cases h:left - (l.length:Int)<0
 ·rw[decide_eq_true h];exact⟨_,rfl,by omega,by omega⟩
 ·rw[decide_eq_false h];exact⟨_,rfl,by omega,fun _ n hn=>by simp at hn;omega⟩
def PO(k:Int)(i:Nat):Int×Int×Int×Int×Int×Unit:=((k+5*(i:Int)),(k+5*(i:Int)+1),(k+5*(i:Int)+2),(k+5*(i:Int)+3),(k+5*(i:Int)+4),())
theorem ahe(l:List (Int×Int×Int×Int×Int×Unit))(k:Int)(h0:0≤k)(h1:k≤72057594037927936)(hl:l.length≤1048576):∃ y:List (Int×Int×Int×Int×Int×Unit),MV (l,k,())=some (k+5*(l.length:Int),y,()):=by
 refine⟨List.ofFn fun i:Fin l.length=>PO k i, ?_⟩
 ·show ni.FF (300+l.length) l k=_
  simp only[ni.FF,ni.T]
  refine Eq.trans (congrArg (fun z=>ni.G0 (300+l.length) (fun kx o=>ni.A0 l k kx o) (300+l.length) z 0 l) (show k=k+5*((0:Nat):Int) by omega))
   (copies (n:=l.length) (PO k) (fun q i out=>ni.G0 (300+l.length) (fun kx o=>ni.A0 l k kx o) q (k+5*((i:Nat):Int)) (i:Nat) out) (some (k+5*(l.length:Int),List.ofFn fun i:Fin l.length=>PO k i,())) (fun q i out hi ho=> ?_) (fun q=> ?_) (300+l.length) 0 l (by omega) (by omega) rfl (by intro j h hj;omega))
  ·have hw:af ((i:Int)+1)=((i+1:Nat):Int):=aH _ (by omega)
   have v1:af (k+5*(i:Int)+1)=k+5*(i:Int)+1:=(aH _ (by omega)).trans (by omega)
   have v2:af (k+5*(i:Int)+1+1)=k+5*(i:Int)+2:=(aH _ (by omega)).trans (by omega)
   have v3:af (k+5*(i:Int)+2+1)=k+5*(i:Int)+3:=(aH _ (by omega)).trans (by omega)
   have v4:af (k+5*(i:Int)+3+1)=k+5*(i:Int)+4:=(aH _ (by omega)).trans (by omega)
   have v5:af (k+5*(i:Int)+4+1)=k+5*(i:Int)+5:=(aH _ (by omega)).trans (by omega)
   have hnx:k+5*((i+1:Nat):Int)=k+5*(i:Int)+5:=by omega
   simp only[ni.G0,ni.R0,hw,v1,v2,v3,v4,v5,hnx,List.length_set,Int.toNat_natCast,List.set_set,ho]
   rw[decide_eq_true (by omega),cond_true]
   simp only[if_pos (show 0≤(i:Int)∧(i:Int)<(l.length:Int) by omega),D7 _ _ _ _ (show i<out.length by omega)]
   rfl
  ·simp only[ni.G0,ni.R0]
   rw[decide_eq_false (by simp),cond_false]
   rfl
end Go.Rv
