/- Plain facts: words_srvm, words_srvo, words_srva. -/
import Derived.Test.YtmgahpicfjpjaaaGreatRM36
set_option linter.unusedVariables false
set_option linter.unusedSimpArgs false
set_option linter.unusedSectionVars false
namespace Go.Rv
theorem afC(x0:Int)(x1:Int)(x2:Int)(x3:Int) :MQ (x0,x1,x2,x3,())=some (x0,x1,x2,x3,()):=by
 rfl
theorem aeN(l:List (Int×Int×Int×Int×Unit))(hl:l.length≤1048576):L6 (l,())=some (l,()):=by
 show pz.FF (300+l.length) l=_
 simp only[pz.FF,pz.T]
 rw[if_pos (by omega)]
 refine copies (n:=l.length) (fun i=>l.getD i (0,0,0,0,())) (fun k i out=>pz.G0 (300+l.length) (fun out=>pz.A0 l out) k l (i:Nat) out) _ (fun k i out hi ho=> ?_) (fun k=> ?_) (300+l.length) 0 _ (by omega) (by omega) (by simp) (by intro j h hj;omega)
 ·have hw:af ((i:Int)+1)=((i+1:Nat):Int):=aH _ (by omega)
  simp only[pz.G0,pz.R0,bJ,afC,Option.bind_some,hw]
  rw[decide_eq_true (by omega),cond_true,if_pos (by omega),if_pos (by omega)]
  rfl
 ·simp only[pz.G0,pz.R0]
  rw[decide_eq_false (by omega),cond_false]
  exact congrArg (fun x=>some (x,())) (EK l (0,0,0,0,()))
theorem aeL(x0:Int)(x1:Int)(x2:Int)(x3:Int) :LY (x0,x1,x2,x3,())=some (x0,x1,x2,x3,()):=by
 rfl
theorem ad4(l:List (Int×Int×Int×Int×Unit))(hl:l.length≤1048576):Ld (l,())=some (l,()):=by
 show oW.FF (300+l.length) l=_
 simp only[oW.FF,oW.T]
 rw[if_pos (by omega)]
 refine copies (n:=l.length) (fun i=>l.getD i (0,0,0,0,())) (fun k i out=>oW.G0 (300+l.length) (fun out=>oW.A0 l out) k l (i:Nat) out) _ (fun k i out hi ho=> ?_) (fun k=> ?_) (300+l.length) 0 _ (by omega) (by omega) (by simp) (by intro j h hj;omega)
 ·have hw:af ((i:Int)+1)=((i+1:Nat):Int):=aH _ (by omega)
  simp only[oW.G0,oW.R0,bJ,aeL,Option.bind_some,hw]
  rw[decide_eq_true (by omega),cond_true,if_pos (by omega),if_pos (by omega)]
  rfl
 ·simp only[oW.G0,oW.R0]
  rw[decide_eq_false (by omega),cond_false]
  exact congrArg (fun x=>some (x,())) (EK l (0,0,0,0,()))
theorem agu(x0:Int)(x1:List (Int×Int×Int×Int×Unit))(x2:List (Int×Int×Int×Int×Unit))(h_x1:x1.length≤1048576)(h_x2:x2.length≤1048576):Ef (x0,x1,x2,())=some (x0,x1,x2,()):=by
 simp(disch:=assumption) only[Ef,UJ.T,aeN,ad4,Option.bind_some]
theorem afB(x0:Int)(x1:Int)(x2:Int) :MP (x0,x1,x2,())=some (x0,x1,x2,()):=by
 rfl
theorem aeM(l:List (Int×Int×Int×Unit))(hl:l.length≤1048576):LZ (l,())=some (l,()):=by
 show pq.FF (300+l.length) l=_
 simp only[pq.FF,pq.T]
 rw[if_pos (by omega)]
 refine copies (n:=l.length) (fun i=>l.getD i (0,0,0,())) (fun k i out=>pq.G0 (300+l.length) (fun out=>pq.A0 l out) k l (i:Nat) out) _ (fun k i out hi ho=> ?_) (fun k=> ?_) (300+l.length) 0 _ (by omega) (by omega) (by simp) (by intro j h hj;omega)
 ·have hw:af ((i:Int)+1)=((i+1:Nat):Int):=aH _ (by omega)
  simp only[pq.G0,pq.R0,bJ,afB,Option.bind_some,hw]
  rw[decide_eq_true (by omega),cond_true,if_pos (by omega),if_pos (by omega)]
  rfl
 ·simp only[pq.G0,pq.R0]
  rw[decide_eq_false (by omega),cond_false]
  exact congrArg (fun x=>some (x,())) (EK l (0,0,0,()))
theorem aeK(x0:Int)(x1:Int)(x2:Int)(x3:Int)(x4:List (Int×Int×Int×Int×Unit))(x5:List (Int×Int×Int×Int×Unit))(x6:List (Int×Int×Int×Unit))(h_x4:x4.length≤1048576)(h_x5:x5.length≤1048576)(h_x6:x6.length≤1048576):uM (x0,x1,x2,x3,x4,x5,x6,())=some (x0,x1,x2,x3,x4,x5,x6,()):=by
 simp(disch:=assumption) only[uM,TN.T,agu,aeM,Option.bind_some]
theorem aga(x0:Int)(x1:Int)(x2:Int)(x3:Int) :D6 (x0,x1,x2,x3,x0,x1,x2,x3,())=some (true,()):=by
 simp(disch:=assumption) only[D6,Un.T,Option.bind_some,bne_self_eq_false,cond_false,Bool.not_true]
theorem afl(l:List (Int×Int×Int×Int×Unit))(hl:l.length≤1048576):L9 (l,l,())=some (true,()):=by
 show ng.FF (300+l.length+l.length) l l=_
 simp only[ng.FF,ng.T,bne_self_eq_false,cond_false]
 rw[←BG l.length]
 refine qf (g:=fun k i=>ng.G0 (300+l.length+l.length) (fun t=>ng.A0 l l t) (fun _=>ng.A1 l l ()) k l l (i:Nat)) (fun k i hi _=> ?_) (fun _ k=> ?_) _ (by omega)
 ·have hw:af ((i:Int)+1)=((i+1:Nat):Int):=aH _ (by omega)
  simp only[ng.G0,ng.R0,bJ,aga,Option.bind_some,hw]
  grind [=dK]
 ·simp only[ng.G0,ng.R0,ng.A1];grind [=dK]
theorem afj(x0:Int)(x1:Int)(x2:Int)(x3:Int) :DL (x0,x1,x2,x3,x0,x1,x2,x3,())=some (true,()):=by
 simp(disch:=assumption) only[DL,TV.T,Option.bind_some,bne_self_eq_false,cond_false,Bool.not_true]
theorem aev(l:List (Int×Int×Int×Int×Unit))(hl:l.length≤1048576):Le (l,l,())=some (true,()):=by
 show mV.FF (300+l.length+l.length) l l=_
 simp only[mV.FF,mV.T,bne_self_eq_false,cond_false]
 rw[←BG l.length]
 refine qf (g:=fun k i=>mV.G0 (300+l.length+l.length) (fun t=>mV.A0 l l t) (fun _=>mV.A1 l l ()) k l l (i:Nat)) (fun k i hi _=> ?_) (fun _ k=> ?_) _ (by omega)
 ·have hw:af ((i:Int)+1)=((i+1:Nat):Int):=aH _ (by omega)
  simp only[mV.G0,mV.R0,bJ,afj,Option.bind_some,hw]
  grind [=dK]
 ·simp only[mV.G0,mV.R0,mV.A1];grind [=dK]
theorem agT(x0:Int)(x1:List (Int×Int×Int×Int×Unit))(x2:List (Int×Int×Int×Int×Unit))(h_x1:x1.length≤1048576)(h_x2:x2.length≤1048576):Eh (x0,x1,x2,x0,x1,x2,())=some (true,()):=by
 simp(disch:=assumption) only[Eh,UL.T,afl,aev,Option.bind_some,bne_self_eq_false,cond_false,Bool.not_true]
theorem af9(x0:Int)(x1:Int)(x2:Int) :D5 (x0,x1,x2,x0,x1,x2,())=some (true,()):=by
 simp(disch:=assumption) only[D5,Um.T,Option.bind_some,bne_self_eq_false,cond_false,Bool.not_true]
theorem afk(l:List (Int×Int×Int×Unit))(hl:l.length≤1048576):L8 (l,l,())=some (true,()):=by
 show mZ.FF (300+l.length+l.length) l l=_
 simp only[mZ.FF,mZ.T,bne_self_eq_false,cond_false]
 rw[←BG l.length]
 refine qf (g:=fun k i=>mZ.G0 (300+l.length+l.length) (fun t=>mZ.A0 l l t) (fun _=>mZ.A1 l l ()) k l l (i:Nat)) (fun k i hi _=> ?_) (fun _ k=> ?_) _ (by omega)
 ·have hw:af ((i:Int)+1)=((i+1:Nat):Int):=aH _ (by omega)
  simp only[mZ.G0,mZ.R0,bJ,af9,Option.bind_some,hw]
  grind [=dK]
 ·simp only[mZ.G0,mZ.R0,mZ.A1];grind [=dK]
theorem afi(x0:Int)(x1:Int)(x2:Int)(x3:Int)(x4:List (Int×Int×Int×Int×Unit))(x5:List (Int×Int×Int×Int×Unit))(x6:List (Int×Int×Int×Unit))(h_x4:x4.length≤1048576)(h_x5:x5.length≤1048576)(h_x6:x6.length≤1048576):DK (x0,x1,x2,x3,x4,x5,x6,x0,x1,x2,x3,x4,x5,x6,())=some (true,()):=by
 simp(disch:=assumption) only[DK,TU.T,agT,afk,Option.bind_some,bne_self_eq_false,cond_false,Bool.not_true]
theorem aeR(l:List (Int×Int×Int×Int×Unit))(left:Int)(h0:0≤left)(h1:left≤1048576)(hl:l.length≤140737488355328):∃ z,DI (l,left,())=some (z,())∧yR z left [l.length]:=by
 simp only[DI,TS.T]
 rw[aH (left - l.length) (by omega)]
 by_cases h:left - (l.length:Int)<0
 ·rw[decide_eq_true h];exact⟨_,rfl,by omega,by omega⟩
 ·rw[decide_eq_false h];exact⟨_,rfl,by omega,fun _ n hn=>by simp at hn;omega⟩
theorem ad5(l:List (Int×Int×Int×Int×Unit))(left:Int)(h0:0≤left)(h1:left≤1048576)(hl:l.length≤140737488355328):∃ z,Dt (l,left,())=some (z,())∧yR z left [l.length]:=by
 simp only[Dt,Tq.T]
 rw[aH (left - l.length) (by omega)]
 by_cases h:left - (l.length:Int)<0
 ·rw[decide_eq_true h];exact⟨_,rfl,by omega,by omega⟩
 ·rw[decide_eq_false h];exact⟨_,rfl,by omega,fun _ n hn=>by simp at hn;omega⟩
theorem agv(x0:Int)(x1:List (Int×Int×Int×Int×Unit))(x2:List (Int×Int×Int×Int×Unit))(left:Int)(h0:0≤left)(h1:left≤1048576)(h_x1:x1.length≤140737488355328)(h_x2:x2.length≤140737488355328):∃ z,Eg (x0,x1,x2,left,())=some (z,())∧yR z left [x1.length,x2.length]:=by
 obtain⟨z0,hz0,ha0,hb0⟩:=aeR x1 left (by omega) (by omega) h_x1
 simp only[List.mem_cons,List.not_mem_nil,or_false,forall_eq_or_imp,forall_eq]at hb0
 simp only[Eg,UK.T,hz0,Option.bind_some,cond_false]
 by_cases g0:z0<0
 ·rw[decide_eq_true g0];exact⟨_,rfl,by omega,by omega⟩
 rw[decide_eq_false g0]
 obtain⟨z1,hz1,ha1,hb1⟩:=ad5 x2 z0 (by omega) (by omega) h_x2
 simp only[List.mem_cons,List.not_mem_nil,or_false,forall_eq_or_imp,forall_eq]at hb1
 simp only[hz1,Option.bind_some,cond_false]
 by_cases g1:z1<0
 ·rw[decide_eq_true g1];exact⟨_,rfl,by omega,by omega⟩
 rw[decide_eq_false g1]
 refine⟨_,rfl,by omega,fun _ n hn=> ?_⟩
 simp only[List.mem_cons,List.not_mem_nil,or_false]at hn
 omega
theorem aeQ(l:List (Int×Int×Int×Unit))(left:Int)(h0:0≤left)(h1:left≤1048576)(hl:l.length≤140737488355328):∃ z,DF (l,left,())=some (z,())∧yR z left [l.length]:=by
 simp only[DF,TR.T]
 rw[aH (left - l.length) (by omega)]
 by_cases h:left - (l.length:Int)<0
 ·rw[decide_eq_true h];exact⟨_,rfl,by omega,by omega⟩
 ·rw[decide_eq_false h];exact⟨_,rfl,by omega,fun _ n hn=>by simp at hn;omega⟩
theorem aeP(x0:Int)(x1:Int)(x2:Int)(x3:Int)(x4:List (Int×Int×Int×Int×Unit))(x5:List (Int×Int×Int×Int×Unit))(x6:List (Int×Int×Int×Unit))(left:Int)(h0:0≤left)(h1:left≤1048576)(h_x4:x4.length≤140737488355328)(h_x5:x5.length≤140737488355328)(h_x6:x6.length≤140737488355328):∃ z,DC (x0,x1,x2,x3,x4,x5,x6,left,())=some (z,())∧yR z left [x4.length,x5.length,x6.length]:=by
 obtain⟨z0,hz0,ha0,hb0⟩:=agv x3 x4 x5 left (by omega) (by omega) h_x4 h_x5
 simp only[List.mem_cons,List.not_mem_nil,or_false,forall_eq_or_imp,forall_eq]at hb0
 simp only[DC,TQ.T,hz0,Option.bind_some,cond_false]
 by_cases g0:z0<0
 ·rw[decide_eq_true g0];exact⟨_,rfl,by omega,by omega⟩
 rw[decide_eq_false g0]
 obtain⟨z1,hz1,ha1,hb1⟩:=aeQ x6 z0 (by omega) (by omega) h_x6
 simp only[List.mem_cons,List.not_mem_nil,or_false,forall_eq_or_imp,forall_eq]at hb1
 simp only[hz1,Option.bind_some,cond_false]
 by_cases g1:z1<0
 ·rw[decide_eq_true g1];exact⟨_,rfl,by omega,by omega⟩
 rw[decide_eq_false g1]
 refine⟨_,rfl,by omega,fun _ n hn=> ?_⟩
 simp only[List.mem_cons,List.not_mem_nil,or_false]at hn
 omega
def Oi(k:Int)(i:Nat):Int×Int×Int×Int×Unit:=((k+4*(i:Int)),(k+4*(i:Int)+1),(k+4*(i:Int)+2),(k+4*(i:Int)+3),())
theorem ae5(l:List (Int×Int×Int×Int×Unit))(k:Int)(h0:0≤k)(h1:k≤72057594037927936)(hl:l.length≤1048576):∃ y:List (Int×Int×Int×Int×Unit),KA (l,k,())=some (k+4*(l.length:Int),y,()):=by
 refine⟨List.ofFn fun i:Fin l.length=>Oi k i, ?_⟩
 ·show mQ.FF (300+l.length) l k=_
  simp only[mQ.FF,mQ.T]
  refine Eq.trans (congrArg (fun z=>mQ.G0 (300+l.length) (fun kx o=>mQ.A0 l k kx o) (300+l.length) z 0 l) (show k=k+4*((0:Nat):Int) by omega))
   (copies (n:=l.length) (Oi k) (fun q i out=>mQ.G0 (300+l.length) (fun kx o=>mQ.A0 l k kx o) q (k+4*((i:Nat):Int)) (i:Nat) out) (some (k+4*(l.length:Int),List.ofFn fun i:Fin l.length=>Oi k i,())) (fun q i out hi ho=> ?_) (fun q=> ?_) (300+l.length) 0 l (by omega) (by omega) rfl (by intro j h hj;omega))
  ·have hw:af ((i:Int)+1)=((i+1:Nat):Int):=aH _ (by omega)
   have v1:af (k+4*(i:Int)+1)=k+4*(i:Int)+1:=(aH _ (by omega)).trans (by omega)
   have v2:af (k+4*(i:Int)+1+1)=k+4*(i:Int)+2:=(aH _ (by omega)).trans (by omega)
   have v3:af (k+4*(i:Int)+2+1)=k+4*(i:Int)+3:=(aH _ (by omega)).trans (by omega)
   have v4:af (k+4*(i:Int)+3+1)=k+4*(i:Int)+4:=(aH _ (by omega)).trans (by omega)
   have hnx:k+4*((i+1:Nat):Int)=k+4*(i:Int)+4:=by omega
   simp only[mQ.G0,mQ.R0,hw,v1,v2,v3,v4,hnx,List.length_set,Int.toNat_natCast,List.set_set,ho]
   rw[decide_eq_true (by omega),cond_true]
   simp only[if_pos (show 0≤(i:Int)∧(i:Int)<(l.length:Int) by omega),Aa _ _ _ _ (show i<out.length by omega)]
   rfl
  ·simp only[mQ.G0,mQ.R0]
   rw[decide_eq_false (by simp),cond_false]
   rfl
def NT(k:Int)(i:Nat):Int×Int×Int×Int×Unit:=((k+4*(i:Int)),(k+4*(i:Int)+1),(k+4*(i:Int)+2),(k+4*(i:Int)+3),())
theorem aef(l:List (Int×Int×Int×Int×Unit))(k:Int)(h0:0≤k)(h1:k≤72057594037927936)(hl:l.length≤1048576):∃ y:List (Int×Int×Int×Int×Unit),JO (l,k,())=some (k+4*(l.length:Int),y,()):=by
 refine⟨List.ofFn fun i:Fin l.length=>NT k i, ?_⟩
 ·show mF.FF (300+l.length) l k=_
  simp only[mF.FF,mF.T]
  refine Eq.trans (congrArg (fun z=>mF.G0 (300+l.length) (fun kx o=>mF.A0 l k kx o) (300+l.length) z 0 l) (show k=k+4*((0:Nat):Int) by omega))
   (copies (n:=l.length) (NT k) (fun q i out=>mF.G0 (300+l.length) (fun kx o=>mF.A0 l k kx o) q (k+4*((i:Nat):Int)) (i:Nat) out) (some (k+4*(l.length:Int),List.ofFn fun i:Fin l.length=>NT k i,())) (fun q i out hi ho=> ?_) (fun q=> ?_) (300+l.length) 0 l (by omega) (by omega) rfl (by intro j h hj;omega))
  ·have hw:af ((i:Int)+1)=((i+1:Nat):Int):=aH _ (by omega)
   have v1:af (k+4*(i:Int)+1)=k+4*(i:Int)+1:=(aH _ (by omega)).trans (by omega)
   have v2:af (k+4*(i:Int)+1+1)=k+4*(i:Int)+2:=(aH _ (by omega)).trans (by omega)
   have v3:af (k+4*(i:Int)+2+1)=k+4*(i:Int)+3:=(aH _ (by omega)).trans (by omega)
   have v4:af (k+4*(i:Int)+3+1)=k+4*(i:Int)+4:=(aH _ (by omega)).trans (by omega)
   have hnx:k+4*((i+1:Nat):Int)=k+4*(i:Int)+4:=by omega
   simp only[mF.G0,mF.R0,hw,v1,v2,v3,v4,hnx,List.length_set,Int.toNat_natCast,List.set_set,ho]
   rw[decide_eq_true (by omega),cond_true]
   simp only[if_pos (show 0≤(i:Int)∧(i:Int)<(l.length:Int) by omega),Aa _ _ _ _ (show i<out.length by omega)]
   rfl
  ·simp only[mF.G0,mF.R0]
   rw[decide_eq_false (by simp),cond_false]
   rfl
theorem agF(x0:Int)(x1:List (Int×Int×Int×Int×Unit))(x2:List (Int×Int×Int×Int×Unit))(k:Int)(h0:0≤k)(h1:k≤9007199254740992)(h_x1:x1.length≤1048576)(h_x2:x2.length≤1048576):∃ (y_x1:List (Int×Int×Int×Int×Unit)) (y_x2:List (Int×Int×Int×Int×Unit)),DJ (x0,x1,x2,k,())=some (k+4*(x1.length:Int)+4*(x2.length:Int),x0,y_x1,y_x2,()):=by
 obtain⟨y_x1,a0⟩:=ae5 x1 (k) (by omega) (by omega) h_x1
 obtain⟨y_x2,a1⟩:=aef x2 (k+4*(x1.length:Int)) (by omega) (by omega) h_x2
 have n0:decide (k+4*(x1.length:Int)<0)=false:=decide_eq_false (by omega)
 have n1:decide (k+4*(x1.length:Int)+4*(x2.length:Int)<0)=false:=decide_eq_false (by omega)
 exact⟨y_x1,y_x2,by simp only[DJ,TT.T,a0,a1,Option.bind_some]⟩
def Oh(k:Int)(i:Nat):Int×Int×Int×Unit:=((k+3*(i:Int)),(k+3*(i:Int)+1),(k+3*(i:Int)+2),())
theorem ae4(l:List (Int×Int×Int×Unit))(k:Int)(h0:0≤k)(h1:k≤72057594037927936)(hl:l.length≤1048576):∃ y:List (Int×Int×Int×Unit),Kz (l,k,())=some (k+3*(l.length:Int),y,()):=by
 refine⟨List.ofFn fun i:Fin l.length=>Oh k i, ?_⟩
 ·show mP.FF (300+l.length) l k=_
  simp only[mP.FF,mP.T]
  refine Eq.trans (congrArg (fun z=>mP.G0 (300+l.length) (fun kx o=>mP.A0 l k kx o) (300+l.length) z 0 l) (show k=k+3*((0:Nat):Int) by omega))
   (copies (n:=l.length) (Oh k) (fun q i out=>mP.G0 (300+l.length) (fun kx o=>mP.A0 l k kx o) q (k+3*((i:Nat):Int)) (i:Nat) out) (some (k+3*(l.length:Int),List.ofFn fun i:Fin l.length=>Oh k i,())) (fun q i out hi ho=> ?_) (fun q=> ?_) (300+l.length) 0 l (by omega) (by omega) rfl (by intro j h hj;omega))
  ·have hw:af ((i:Int)+1)=((i+1:Nat):Int):=aH _ (by omega)
   have v1:af (k+3*(i:Int)+1)=k+3*(i:Int)+1:=(aH _ (by omega)).trans (by omega)
   have v2:af (k+3*(i:Int)+1+1)=k+3*(i:Int)+2:=(aH _ (by omega)).trans (by omega)
   have v3:af (k+3*(i:Int)+2+1)=k+3*(i:Int)+3:=(aH _ (by omega)).trans (by omega)
   have hnx:k+3*((i+1:Nat):Int)=k+3*(i:Int)+3:=by omega
   simp only[mP.G0,mP.R0,hw,v1,v2,v3,hnx,List.length_set,Int.toNat_natCast,List.set_set,ho]
   rw[decide_eq_true (by omega),cond_true]
   simp only[if_pos (show 0≤(i:Int)∧(i:Int)<(l.length:Int) by omega),Aa _ _ _ _ (show i<out.length by omega)]
   rfl
  ·simp only[mP.G0,mP.R0]
   rw[decide_eq_false (by simp),cond_false]
   rfl
theorem ae3(x0:Int)(x1:Int)(x2:Int)(x3:Int)(x4:List (Int×Int×Int×Int×Unit))(x5:List (Int×Int×Int×Int×Unit))(x6:List (Int×Int×Int×Unit))(k:Int)(h0:0≤k)(h1:k≤1125899906842624)(h_x4:x4.length≤1048576)(h_x5:x5.length≤1048576)(h_x6:x6.length≤1048576):∃ (y_x4:List (Int×Int×Int×Int×Unit)) (y_x5:List (Int×Int×Int×Int×Unit)) (y_x6:List (Int×Int×Int×Unit)),Di (x0,x1,x2,x3,x4,x5,x6,k,())=some (k+4*(x4.length:Int)+4*(x5.length:Int)+3*(x6.length:Int),x0,x1,x2,x3,y_x4,y_x5,y_x6,()):=by
 obtain⟨y_x4,y_x5,a0⟩:=agF x3 x4 x5 (k) (by omega) (by omega) h_x4 h_x5
 obtain⟨y_x6,a1⟩:=ae4 x6 (k+4*(x4.length:Int)+4*(x5.length:Int)) (by omega) (by omega) h_x6
 have n0:decide (k+4*(x4.length:Int)+4*(x5.length:Int)<0)=false:=decide_eq_false (by omega)
 have n1:decide (k+4*(x4.length:Int)+4*(x5.length:Int)+3*(x6.length:Int)<0)=false:=decide_eq_false (by omega)
 exact⟨y_x4,y_x5,y_x6,by simp only[Di,SI.T,a0,a1,Option.bind_some]⟩
theorem ahC(x0:Int)(x1:Int)(x2:Int)(x3:Int)(x4:Int) :NF (x0,x1,x2,x3,x4,())=some (x0,x1,x2,x3,x4,()):=by
 rfl
theorem ag4(l:List (Int×Int×Int×Int×Int×Unit))(hl:l.length≤1048576):xg (l,())=some (l,()):=by
 show pJ.FF (300+l.length) l=_
 simp only[pJ.FF,pJ.T]
 rw[if_pos (by omega)]
 refine copies (n:=l.length) (fun i=>l.getD i (0,0,0,0,0,())) (fun k i out=>pJ.G0 (300+l.length) (fun out=>pJ.A0 l out) k l (i:Nat) out) _ (fun k i out hi ho=> ?_) (fun k=> ?_) (300+l.length) 0 _ (by omega) (by omega) (by simp) (by intro j h hj;omega)
 ·have hw:af ((i:Int)+1)=((i+1:Nat):Int):=aH _ (by omega)
  simp only[pJ.G0,pJ.R0,bJ,ahC,Option.bind_some,hw]
  rw[decide_eq_true (by omega),cond_true,if_pos (by omega),if_pos (by omega)]
  rfl
 ·simp only[pJ.G0,pJ.R0]
  rw[decide_eq_false (by omega),cond_false]
  exact congrArg (fun x=>some (x,())) (EK l (0,0,0,0,0,()))
theorem ahR(x0:Int)(x1:Int)(x2:Int)(x3:Int)(x4:Int) :Et (x0,x1,x2,x3,x4,x0,x1,x2,x3,x4,())=some (true,()):=by
 simp(disch:=assumption) only[Et,VQ.T,Option.bind_some,bne_self_eq_false,cond_false,Bool.not_true]
theorem ahm(l:List (Int×Int×Int×Int×Int×Unit))(hl:l.length≤1048576):Nq (l,l,())=some (true,()):=by
 show nD.FF (300+l.length+l.length) l l=_
 simp only[nD.FF,nD.T,bne_self_eq_false,cond_false]
 rw[←BG l.length]
 refine qf (g:=fun k i=>nD.G0 (300+l.length+l.length) (fun t=>nD.A0 l l t) (fun _=>nD.A1 l l ()) k l l (i:Nat)) (fun k i hi _=> ?_) (fun _ k=> ?_) _ (by omega)
 ·have hw:af ((i:Int)+1)=((i+1:Nat):Int):=aH _ (by omega)
  simp only[nD.G0,nD.R0,bJ,ahR,Option.bind_some,hw]
  grind [=dK]
 ·simp only[nD.G0,nD.R0,nD.A1];grind [=dK]
theorem ag6(l:List (Int×Int×Int×Int×Int×Unit))(left:Int)(h0:0≤left)(h1:left≤1048576)(hl:l.length≤140737488355328):∃ z,Eo (l,left,())=some (z,())∧yR z left [l.length]:=by
 simp only[Eo,Vq.T]
 rw[aH (left - l.length) (by omega)]
 by_cases h:left - (l.length:Int)<0
 ·rw[decide_eq_true h];exact⟨_,rfl,by omega,by omega⟩
 ·rw[decide_eq_false h];exact⟨_,rfl,by omega,fun _ n hn=>by simp at hn;omega⟩
def PO(k:Int)(i:Nat):Int×Int×Int×Int×Int×Unit:=((k+5*(i:Int)),(k+5*(i:Int)+1),(k+5*(i:Int)+2),(k+5*(i:Int)+3),(k+5*(i:Int)+4),())
theorem ahe(l:List (Int×Int×Int×Int×Int×Unit))(k:Int)(h0:0≤k)(h1:k≤72057594037927936)(hl:l.length≤1048576):∃ y:List (Int×Int×Int×Int×Int×Unit),MR (l,k,())=some (k+5*(l.length:Int),y,()):=by
 refine⟨List.ofFn fun i:Fin l.length=>PO k i, ?_⟩
 ·show ni.FF (300+l.length) l k=_
  simp only[ni.FF,ni.T]
  refine Eq.trans (congrArg (fun z=>ni.G0 (300+l.length) (fun kx o=>ni.A0 l k kx o) (300+l.length) z 0 l) (show k=k+5*((0:Nat):Int) by omega))
   (copies (n:=l.length) (PO k) (fun q i out=>ni.G0 (300+l.length) (fun kx o=>ni.A0 l k kx o) q (k+5*((i:Nat):Int)) (i:Nat) out) (some (k+5*(l.length:Int),List.ofFn fun i:Fin l.length=>PO k i,())) (fun q i out hi ho=> ?_) (fun q=> ?_) (300+l.length) 0 l (by omega) (by omega) rfl (by intro j h hj;omega))
  ·have hw:af ((i:Int)+1)=((i+1:Nat):Int):=aH _ (by omega)
   have v1:af (k+5*(i:Int)+1)=k+5*(i:Int)+1:=(aH _ (by omega)).trans (by omega)
   have v2:af (k+5*(i:Int)+1+1)=k+5*(i:Int)+2:=(aH _ (by omega)).trans (by omega)
   have v3:af (k+5*(i:Int)+2+1)=k+5*(i:Int)+3:=(aH _ (by omega)).trans (by omega)
   have v4:af (k+5*(i:Int)+3+1)=k+5*(i:Int)+4:=(aH _ (by omega)).trans (by omega)
   have v5:af (k+5*(i:Int)+4+1)=k+5*(i:Int)+5:=(aH _ (by omega)).trans (by omega)
   have hnx:k+5*((i+1:Nat):Int)=k+5*(i:Int)+5:=by omega
   simp only[ni.G0,ni.R0,hw,v1,v2,v3,v4,v5,hnx,List.length_set,Int.toNat_natCast,List.set_set,ho]
   rw[decide_eq_true (by omega),cond_true]
   simp only[if_pos (show 0≤(i:Int)∧(i:Int)<(l.length:Int) by omega),Aa _ _ _ _ (show i<out.length by omega)]
   rfl
  ·simp only[ni.G0,ni.R0]
   rw[decide_eq_false (by simp),cond_false]
   rfl
theorem afm(x0:Int)(x1:Int)(x2:Int) :DN (x0,x1,x2,x0,x1,x2,())=some (true,()):=by
 simp(disch:=assumption) only[DN,TW.T,Option.bind_some,bne_self_eq_false,cond_false,Bool.not_true]
theorem aew(l:List (Int×Int×Int×Unit))(hl:l.length≤1048576):zG (l,l,())=some (true,()):=by
 show mX.FF (300+l.length+l.length) l l=_
 simp only[mX.FF,mX.T,bne_self_eq_false,cond_false]
 rw[←BG l.length]
 refine qf (g:=fun k i=>mX.G0 (300+l.length+l.length) (fun t=>mX.A0 l l t) (fun _=>mX.A1 l l ()) k l l (i:Nat)) (fun k i hi _=> ?_) (fun _ k=> ?_) _ (by omega)
 ·have hw:af ((i:Int)+1)=((i+1:Nat):Int):=aH _ (by omega)
  simp only[mX.G0,mX.R0,bJ,afm,Option.bind_some,hw]
  grind [=dK]
 ·simp only[mX.G0,mX.R0,mX.A1];grind [=dK]
def xC(k:Int)(i:Nat):Int×Int×Int×Unit:=((k+3*(i:Int)),(k+3*(i:Int)+1),(k+3*(i:Int)+2),())
theorem aeg(l:List (Int×Int×Int×Unit))(k:Int)(h0:0≤k)(h1:k≤72057594037927936)(hl:l.length≤1048576):∃ y:List (Int×Int×Int×Unit),JP (l,k,())=some (k+3*(l.length:Int),y,())∧CW (y,k,())=some (k+3*(l.length:Int),()):=by
 refine⟨List.ofFn fun i:Fin l.length=>xC k i, ?_, ?_⟩
 ·show mG.FF (300+l.length) l k=_
  simp only[mG.FF,mG.T]
  refine Eq.trans (congrArg (fun z=>mG.G0 (300+l.length) (fun kx o=>mG.A0 l k kx o) (300+l.length) z 0 l) (show k=k+3*((0:Nat):Int) by omega))
   (copies (n:=l.length) (xC k) (fun q i out=>mG.G0 (300+l.length) (fun kx o=>mG.A0 l k kx o) q (k+3*((i:Nat):Int)) (i:Nat) out) (some (k+3*(l.length:Int),List.ofFn fun i:Fin l.length=>xC k i,())) (fun q i out hi ho=> ?_) (fun q=> ?_) (300+l.length) 0 l (by omega) (by omega) rfl (by intro j h hj;omega))
  ·have hw:af ((i:Int)+1)=((i+1:Nat):Int):=aH _ (by omega)
   have v1:af (k+3*(i:Int)+1)=k+3*(i:Int)+1:=(aH _ (by omega)).trans (by omega)
   have v2:af (k+3*(i:Int)+1+1)=k+3*(i:Int)+2:=(aH _ (by omega)).trans (by omega)
   have v3:af (k+3*(i:Int)+2+1)=k+3*(i:Int)+3:=(aH _ (by omega)).trans (by omega)
   have hnx:k+3*((i+1:Nat):Int)=k+3*(i:Int)+3:=by omega
   simp only[mG.G0,mG.R0,hw,v1,v2,v3,hnx,List.length_set,Int.toNat_natCast,List.set_set,ho]
   rw[decide_eq_true (by omega),cond_true]
   simp only[if_pos (show 0≤(i:Int)∧(i:Int)<(l.length:Int) by omega),Aa _ _ _ _ (show i<out.length by omega)]
   rfl
  ·simp only[mG.G0,mG.R0]
   rw[decide_eq_false (by simp),cond_false]
   rfl
 ·show kY.FF (300+(List.ofFn fun i:Fin l.length=>xC k i).length) _ k=_
  simp only[kY.FF,kY.T,List.length_ofFn]
  generalize hy:(List.ofFn fun i:Fin l.length=>xC k i)=y
  have hyl:y.length=l.length:=by rw[←hy,List.length_ofFn]
  have hyg:∀ i:Nat,i<l.length→y.getD i (0,0,0,())=((k+3*(i:Int)),(k+3*(i:Int)+1),(k+3*(i:Int)+2),()):=fun i hi=>by rw[←hy];exact afS (xC k) _ _ hi
  refine Eq.trans (congrArg (fun z=>kY.G0 (300+l.length) (fun kx t=>kY.A0 y k kx t) (fun kx=>kY.A1 y k kx) (300+l.length) y z 0) (show k=k+3*((0:Nat):Int) by omega))
   ((scan (α:=Option (Int×Unit)) l.length (fun _=>True) (fun q i=>kY.G0 (300+l.length) (fun kx t=>kY.A0 y k kx t) (fun kx=>kY.A1 y k kx) q y (k+3*((i:Nat):Int)) (i:Nat)) (some (k+3*(l.length:Int),())) none (fun q i hi _=>⟨fun _=> ?_,fun h=>absurd trivial h⟩) (fun _ q=> ?_) (300+l.length) 0 (by omega) (by omega) (fun _ _=>trivial)).1 (fun _ _=>trivial))
  ·have hw:af ((i:Int)+1)=((i+1:Nat):Int):=aH _ (by omega)
   have v1:af (k+3*(i:Int)+1)=k+3*(i:Int)+1:=(aH _ (by omega)).trans (by omega)
   have v2:af (k+3*(i:Int)+1+1)=k+3*(i:Int)+2:=(aH _ (by omega)).trans (by omega)
   have v3:af (k+3*(i:Int)+2+1)=k+3*(i:Int)+3:=(aH _ (by omega)).trans (by omega)
   have hnx:k+3*((i+1:Nat):Int)=k+3*(i:Int)+3:=by omega
   simp only[kY.G0,kY.R0,bJ,hyg i hi,hw,v1,v2,v3,hnx,hyl,bne_self_eq_false,cond_false]
   rw[decide_eq_true (by omega),cond_true]
   simp only[if_pos (show 0≤(i:Int)∧(i:Int)<(l.length:Int) by omega)]
  ·simp only[kY.G0,kY.R0,hyl]
   rw[decide_eq_false (by omega),cond_false]
   rfl
end Go.Rv
