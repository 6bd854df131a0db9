/- Plain facts: words_srv, words_srvd, srv10. -/
import Derived.Test.YtmgahpicfjpjaaaGreatSM36
set_option linter.unusedVariables false
set_option linter.unusedSimpArgs false
set_option linter.unusedSectionVars false
namespace Go.Rv
theorem aeQ(x0:Int)(x1:Int)(x2:Int)(x3:Int) :LD (x0,x1,x2,x3,())=some (x0,x1,x2,x3,()):=by
 rfl
theorem ad2(l:List (Int×Int×Int×Int×Unit))(hl:l.length≤1048576):KZ (l,())=some (l,()):=by
 show oQ.FF (300+l.length) l=_
 simp only[oQ.FF,oQ.T]
 rw[if_pos (by omega)]
 refine copies (n:=l.length) (fun i=>l.getD i (0,0,0,0,())) (fun k i out=>oQ.G0 (300+l.length) (fun out=>oQ.A0 l out) k l (i:Nat) out) _ (fun k i out hi ho=> ?_) (fun k=> ?_) (300+l.length) 0 _ (by omega) (by omega) (by simp) (by intro j h hj;omega)
 ·have hw:af ((i:Int)+1)=((i+1:Nat):Int):=aH _ (by omega)
  simp only[oQ.G0,oQ.R0,bP,aeQ,Option.bind_some,hw]
  rw[decide_eq_true (by omega),cond_true,if_pos (by omega),if_pos (by omega)]
  rfl
 ·simp only[oQ.G0,oQ.R0]
  rw[decide_eq_false (by omega),cond_false]
  exact congrArg (fun x=>some (x,())) (Np l (0,0,0,0,()))
theorem adZ(x0:Int)(x1:Int)(x2:Int)(x3:Int) :KX (x0,x1,x2,x3,())=some (x0,x1,x2,x3,()):=by
 rfl
theorem adm(l:List (Int×Int×Int×Int×Unit))(hl:l.length≤1048576):Ky (l,())=some (l,()):=by
 show oM.FF (300+l.length) l=_
 simp only[oM.FF,oM.T]
 rw[if_pos (by omega)]
 refine copies (n:=l.length) (fun i=>l.getD i (0,0,0,0,())) (fun k i out=>oM.G0 (300+l.length) (fun out=>oM.A0 l out) k l (i:Nat) out) _ (fun k i out hi ho=> ?_) (fun k=> ?_) (300+l.length) 0 _ (by omega) (by omega) (by simp) (by intro j h hj;omega)
 ·have hw:af ((i:Int)+1)=((i+1:Nat):Int):=aH _ (by omega)
  simp only[oM.G0,oM.R0,bP,adZ,Option.bind_some,hw]
  rw[decide_eq_true (by omega),cond_true,if_pos (by omega),if_pos (by omega)]
  rfl
 ·simp only[oM.G0,oM.R0]
  rw[decide_eq_false (by omega),cond_false]
  exact congrArg (fun x=>some (x,())) (Np l (0,0,0,0,()))
theorem afB(x0:Int)(x1:List (Int×Int×Int×Int×Unit))(x2:List (Int×Int×Int×Int×Unit))(h_x1:x1.length≤1048576)(h_x2:x2.length≤1048576):D5 (x0,x1,x2,())=some (x0,x1,x2,()):=by
 simp(disch:=assumption) only[D5,TR.T,ad2,adm,Option.bind_some]
theorem aeP(x0:Int)(x1:Int)(x2:Int) :LC (x0,x1,x2,())=some (x0,x1,x2,()):=by
 rfl
theorem ad1(l:List (Int×Int×Int×Unit))(hl:l.length≤1048576):KY (l,())=some (l,()):=by
 show oP.FF (300+l.length) l=_
 simp only[oP.FF,oP.T]
 rw[if_pos (by omega)]
 refine copies (n:=l.length) (fun i=>l.getD i (0,0,0,())) (fun k i out=>oP.G0 (300+l.length) (fun out=>oP.A0 l out) k l (i:Nat) out) _ (fun k i out hi ho=> ?_) (fun k=> ?_) (300+l.length) 0 _ (by omega) (by omega) (by simp) (by intro j h hj;omega)
 ·have hw:af ((i:Int)+1)=((i+1:Nat):Int):=aH _ (by omega)
  simp only[oP.G0,oP.R0,bP,aeP,Option.bind_some,hw]
  rw[decide_eq_true (by omega),cond_true,if_pos (by omega),if_pos (by omega)]
  rfl
 ·simp only[oP.G0,oP.R0]
  rw[decide_eq_false (by omega),cond_false]
  exact congrArg (fun x=>some (x,())) (Np l (0,0,0,()))
theorem adY(x0:Int)(x1:Int)(x2:Int)(x3:Int)(x4:List (Int×Int×Int×Int×Unit))(x5:List (Int×Int×Int×Int×Unit))(x6:List (Int×Int×Int×Unit))(h_x4:x4.length≤1048576)(h_x5:x5.length≤1048576)(h_x6:x6.length≤1048576):uq (x0,x1,x2,x3,x4,x5,x6,())=some (x0,x1,x2,x3,x4,x5,x6,()):=by
 simp(disch:=assumption) only[uq,Sv.T,afB,ad1,Option.bind_some]
theorem afl(x0:Int)(x1:Int)(x2:Int)(x3:Int) :DN (x0,x1,x2,x3,x0,x1,x2,x3,())=some (true,()):=by
 simp(disch:=assumption) only[DN,Tj.T,Option.bind_some,bne_self_eq_false,cond_false,Bool.not_true]
theorem aeA(l:List (Int×Int×Int×Int×Unit))(hl:l.length≤1048576):Lc (l,l,())=some (true,()):=by
 show mX.FF (300+l.length+l.length) l l=_
 simp only[mX.FF,mX.T,bne_self_eq_false,cond_false]
 rw[←O8 l.length]
 refine rX (g:=fun k i=>mX.G0 (300+l.length+l.length) (fun t=>mX.A0 l l t) (fun _=>mX.A1 l l ()) k l l (i:Nat)) (fun k i hi _=> ?_) (fun _ k=> ?_) _ (by omega)
 ·have hw:af ((i:Int)+1)=((i+1:Nat):Int):=aH _ (by omega)
  simp only[mX.G0,mX.R0,bP,afl,Option.bind_some,hw]
  grind [=dN]
 ·simp only[mX.G0,mX.R0,mX.A1];grind [=dN]
theorem aey(x0:Int)(x1:Int)(x2:Int)(x3:Int) :Dw (x0,x1,x2,x3,x0,x1,x2,x3,())=some (true,()):=by
 simp(disch:=assumption) only[Dw,SH.T,Option.bind_some,bne_self_eq_false,cond_false,Bool.not_true]
theorem adK(l:List (Int×Int×Int×Int×Unit))(hl:l.length≤1048576):Kz (l,l,())=some (true,()):=by
 show mP.FF (300+l.length+l.length) l l=_
 simp only[mP.FF,mP.T,bne_self_eq_false,cond_false]
 rw[←O8 l.length]
 refine rX (g:=fun k i=>mP.G0 (300+l.length+l.length) (fun t=>mP.A0 l l t) (fun _=>mP.A1 l l ()) k l l (i:Nat)) (fun k i hi _=> ?_) (fun _ k=> ?_) _ (by omega)
 ·have hw:af ((i:Int)+1)=((i+1:Nat):Int):=aH _ (by omega)
  simp only[mP.G0,mP.R0,bP,aey,Option.bind_some,hw]
  grind [=dN]
 ·simp only[mP.G0,mP.R0,mP.A1];grind [=dN]
theorem afZ(x0:Int)(x1:List (Int×Int×Int×Int×Unit))(x2:List (Int×Int×Int×Int×Unit))(h_x1:x1.length≤1048576)(h_x2:x2.length≤1048576):D7 (x0,x1,x2,x0,x1,x2,())=some (true,()):=by
 simp(disch:=assumption) only[D7,TT.T,aeA,adK,Option.bind_some,bne_self_eq_false,cond_false,Bool.not_true]
theorem afk(x0:Int)(x1:Int)(x2:Int) :DL (x0,x1,x2,x0,x1,x2,())=some (true,()):=by
 simp(disch:=assumption) only[DL,Ti.T,Option.bind_some,bne_self_eq_false,cond_false,Bool.not_true]
theorem aez(l:List (Int×Int×Int×Unit))(hl:l.length≤1048576):La (l,l,())=some (true,()):=by
 show mV.FF (300+l.length+l.length) l l=_
 simp only[mV.FF,mV.T,bne_self_eq_false,cond_false]
 rw[←O8 l.length]
 refine rX (g:=fun k i=>mV.G0 (300+l.length+l.length) (fun t=>mV.A0 l l t) (fun _=>mV.A1 l l ()) k l l (i:Nat)) (fun k i hi _=> ?_) (fun _ k=> ?_) _ (by omega)
 ·have hw:af ((i:Int)+1)=((i+1:Nat):Int):=aH _ (by omega)
  simp only[mV.G0,mV.R0,bP,afk,Option.bind_some,hw]
  grind [=dN]
 ·simp only[mV.G0,mV.R0,mV.A1];grind [=dN]
theorem VR(x0:Int)(x1:Int)(x2:Int)(x3:Int)(x4:List (Int×Int×Int×Int×Unit))(x5:List (Int×Int×Int×Int×Unit))(x6:List (Int×Int×Int×Unit))(h_x4:x4.length≤1048576)(h_x5:x5.length≤1048576)(h_x6:x6.length≤1048576):zI (x0,x1,x2,x3,x4,x5,x6,x0,x1,x2,x3,x4,x5,x6,())=some (true,()):=by
 simp(disch:=assumption) only[zI,SG.T,afZ,aez,Option.bind_some,bne_self_eq_false,cond_false,Bool.not_true]
theorem ad6(l:List (Int×Int×Int×Int×Unit))(left:Int)(h0:0≤left)(h1:left≤1048576)(hl:l.length≤140737488355328):∃ z,Dt (l,left,())=some (z,())∧BN z left [l.length]:=by
 simp only[Dt,SB.T]
 rw[aH (left - l.length) (by omega)]
 by_cases h:left - (l.length:Int)<0
 ·rw[decide_eq_true h];exact⟨_,rfl,by omega,by omega⟩
 ·rw[decide_eq_false h];exact⟨_,rfl,by omega,fun _ n hn=>by simp at hn;omega⟩
theorem adn(l:List (Int×Int×Int×Int×Unit))(left:Int)(h0:0≤left)(h1:left≤1048576)(hl:l.length≤140737488355328):∃ z,Dh (l,left,())=some (z,())∧BN z left [l.length]:=by
 simp only[Dh,RP.T]
 rw[aH (left - l.length) (by omega)]
 by_cases h:left - (l.length:Int)<0
 ·rw[decide_eq_true h];exact⟨_,rfl,by omega,by omega⟩
 ·rw[decide_eq_false h];exact⟨_,rfl,by omega,fun _ n hn=>by simp at hn;omega⟩
theorem afC(x0:Int)(x1:List (Int×Int×Int×Int×Unit))(x2:List (Int×Int×Int×Int×Unit))(left:Int)(h0:0≤left)(h1:left≤1048576)(h_x1:x1.length≤140737488355328)(h_x2:x2.length≤140737488355328):∃ z,D6 (x0,x1,x2,left,())=some (z,())∧BN z left [x1.length,x2.length]:=by
 obtain⟨z0,hz0,ha0,hb0⟩:=ad6 x1 left (by omega) (by omega) h_x1
 simp only[List.mem_cons,List.not_mem_nil,or_false,forall_eq_or_imp,forall_eq]at hb0
 simp only[D6,TS.T,hz0,Option.bind_some,cond_false]
 by_cases g0:z0<0
 ·rw[decide_eq_true g0];exact⟨_,rfl,by omega,by omega⟩
 rw[decide_eq_false g0]
 obtain⟨z1,hz1,ha1,hb1⟩:=adn x2 z0 (by omega) (by omega) h_x2
 simp only[List.mem_cons,List.not_mem_nil,or_false,forall_eq_or_imp,forall_eq]at hb1
 simp only[hz1,Option.bind_some,cond_false]
 by_cases g1:z1<0
 ·rw[decide_eq_true g1];exact⟨_,rfl,by omega,by omega⟩
 rw[decide_eq_false g1]
 refine⟨_,rfl,by omega,fun _ n hn=> ?_⟩
 simp only[List.mem_cons,List.not_mem_nil,or_false]at hn
 omega
theorem ad5(l:List (Int×Int×Int×Unit))(left:Int)(h0:0≤left)(h1:left≤1048576)(hl:l.length≤140737488355328):∃ z,Dq (l,left,())=some (z,())∧BN z left [l.length]:=by
 simp only[Dq,SA.T]
 rw[aH (left - l.length) (by omega)]
 by_cases h:left - (l.length:Int)<0
 ·rw[decide_eq_true h];exact⟨_,rfl,by omega,by omega⟩
 ·rw[decide_eq_false h];exact⟨_,rfl,by omega,fun _ n hn=>by simp at hn;omega⟩
theorem ad4(x0:Int)(x1:Int)(x2:Int)(x3:Int)(x4:List (Int×Int×Int×Int×Unit))(x5:List (Int×Int×Int×Int×Unit))(x6:List (Int×Int×Int×Unit))(left:Int)(h0:0≤left)(h1:left≤1048576)(h_x4:x4.length≤140737488355328)(h_x5:x5.length≤140737488355328)(h_x6:x6.length≤140737488355328):∃ z,Dp (x0,x1,x2,x3,x4,x5,x6,left,())=some (z,())∧BN z left [x4.length,x5.length,x6.length]:=by
 obtain⟨z0,hz0,ha0,hb0⟩:=afC x3 x4 x5 left (by omega) (by omega) h_x4 h_x5
 simp only[List.mem_cons,List.not_mem_nil,or_false,forall_eq_or_imp,forall_eq]at hb0
 simp only[Dp,Sz.T,hz0,Option.bind_some,cond_false]
 by_cases g0:z0<0
 ·rw[decide_eq_true g0];exact⟨_,rfl,by omega,by omega⟩
 rw[decide_eq_false g0]
 obtain⟨z1,hz1,ha1,hb1⟩:=ad5 x6 z0 (by omega) (by omega) h_x6
 simp only[List.mem_cons,List.not_mem_nil,or_false,forall_eq_or_imp,forall_eq]at hb1
 simp only[hz1,Option.bind_some,cond_false]
 by_cases g1:z1<0
 ·rw[decide_eq_true g1];exact⟨_,rfl,by omega,by omega⟩
 rw[decide_eq_false g1]
 refine⟨_,rfl,by omega,fun _ n hn=> ?_⟩
 simp only[List.mem_cons,List.not_mem_nil,or_false]at hn
 omega
def xq(k:Int)(i:Nat):Int×Int×Int×Int×Unit:=((k+4*(i:Int)),(k+4*(i:Int)+1),(k+4*(i:Int)+2),(k+4*(i:Int)+3),())
theorem aek(l:List (Int×Int×Int×Int×Unit))(k:Int)(h0:0≤k)(h1:k≤72057594037927936)(hl:l.length≤1048576):∃ y:List (Int×Int×Int×Int×Unit),JR (l,k,())=some (k+4*(l.length:Int),y,())∧JU (y,k,())=some (k+4*(l.length:Int),()):=by
 refine⟨List.ofFn fun i:Fin l.length=>xq k i, ?_, ?_⟩
 ·show mO.FF (300+l.length) l k=_
  simp only[mO.FF,mO.T]
  refine Eq.trans (congrArg (fun z=>mO.G0 (300+l.length) (fun kx o=>mO.A0 l k kx o) (300+l.length) z 0 l) (show k=k+4*((0:Nat):Int) by omega))
   (copies (n:=l.length) (xq k) (fun q i out=>mO.G0 (300+l.length) (fun kx o=>mO.A0 l k kx o) q (k+4*((i:Nat):Int)) (i:Nat) out) (some (k+4*(l.length:Int),List.ofFn fun i:Fin l.length=>xq k i,())) (fun q i out hi ho=> ?_) (fun q=> ?_) (300+l.length) 0 l (by omega) (by omega) rfl (by intro j h hj;omega))
  ·have hw:af ((i:Int)+1)=((i+1:Nat):Int):=aH _ (by omega)
   have v1:af (k+4*(i:Int)+1)=k+4*(i:Int)+1:=(aH _ (by omega)).trans (by omega)
   have v2:af (k+4*(i:Int)+1+1)=k+4*(i:Int)+2:=(aH _ (by omega)).trans (by omega)
   have v3:af (k+4*(i:Int)+2+1)=k+4*(i:Int)+3:=(aH _ (by omega)).trans (by omega)
   have v4:af (k+4*(i:Int)+3+1)=k+4*(i:Int)+4:=(aH _ (by omega)).trans (by omega)
   have hnx:k+4*((i+1:Nat):Int)=k+4*(i:Int)+4:=by omega
   simp only[mO.G0,mO.R0,hw,v1,v2,v3,v4,hnx,List.length_set,Int.toNat_natCast,List.set_set,ho]
   rw[decide_eq_true (by omega),cond_true]
   simp only[if_pos (show 0≤(i:Int)∧(i:Int)<(l.length:Int) by omega),LP _ _ _ _ (show i<out.length by omega)]
   rfl
  ·simp only[mO.G0,mO.R0]
   rw[decide_eq_false (by simp),cond_false]
   rfl
 ·show kY.FF (300+(List.ofFn fun i:Fin l.length=>xq k i).length) _ k=_
  simp only[kY.FF,kY.T,List.length_ofFn]
  generalize hy:(List.ofFn fun i:Fin l.length=>xq k i)=y
  have hyl:y.length=l.length:=by rw[←hy,List.length_ofFn]
  have hyg:∀ i:Nat,i<l.length→y.getD i (0,0,0,0,())=((k+4*(i:Int)),(k+4*(i:Int)+1),(k+4*(i:Int)+2),(k+4*(i:Int)+3),()):=fun i hi=>by rw[←hy];exact OA (xq k) _ _ hi
  refine Eq.trans (congrArg (fun z=>kY.G0 (300+l.length) (fun kx t=>kY.A0 y k kx t) (fun kx=>kY.A1 y k kx) (300+l.length) y z 0) (show k=k+4*((0:Nat):Int) by omega))
   ((scan (α:=Option (Int×Unit)) l.length (fun _=>True) (fun q i=>kY.G0 (300+l.length) (fun kx t=>kY.A0 y k kx t) (fun kx=>kY.A1 y k kx) q y (k+4*((i:Nat):Int)) (i:Nat)) (some (k+4*(l.length:Int),())) none (fun q i hi _=>⟨fun _=> ?_,fun h=>absurd trivial h⟩) (fun _ q=> ?_) (300+l.length) 0 (by omega) (by omega) (fun _ _=>trivial)).1 (fun _ _=>trivial))
  ·have hw:af ((i:Int)+1)=((i+1:Nat):Int):=aH _ (by omega)
   have v1:af (k+4*(i:Int)+1)=k+4*(i:Int)+1:=(aH _ (by omega)).trans (by omega)
   have v2:af (k+4*(i:Int)+1+1)=k+4*(i:Int)+2:=(aH _ (by omega)).trans (by omega)
   have v3:af (k+4*(i:Int)+2+1)=k+4*(i:Int)+3:=(aH _ (by omega)).trans (by omega)
   have v4:af (k+4*(i:Int)+3+1)=k+4*(i:Int)+4:=(aH _ (by omega)).trans (by omega)
   have hnx:k+4*((i+1:Nat):Int)=k+4*(i:Int)+4:=by omega
   simp only[kY.G0,kY.R0,bP,hyg i hi,hw,v1,v2,v3,v4,hnx,hyl,bne_self_eq_false,cond_false]
   rw[decide_eq_true (by omega),cond_true]
   simp only[if_pos (show 0≤(i:Int)∧(i:Int)<(l.length:Int) by omega)]
  ·simp only[kY.G0,kY.R0,hyl]
   rw[decide_eq_false (by omega),cond_false]
   rfl
def wX(k:Int)(i:Nat):Int×Int×Int×Int×Unit:=((k+4*(i:Int)),(k+4*(i:Int)+1),(k+4*(i:Int)+2),(k+4*(i:Int)+3),())
theorem adx(l:List (Int×Int×Int×Int×Unit))(k:Int)(h0:0≤k)(h1:k≤72057594037927936)(hl:l.length≤1048576):∃ y:List (Int×Int×Int×Int×Unit),Jp (l,k,())=some (k+4*(l.length:Int),y,())∧Jq (y,k,())=some (k+4*(l.length:Int),()):=by
 refine⟨List.ofFn fun i:Fin l.length=>wX k i, ?_, ?_⟩
 ·show mD.FF (300+l.length) l k=_
  simp only[mD.FF,mD.T]
  refine Eq.trans (congrArg (fun z=>mD.G0 (300+l.length) (fun kx o=>mD.A0 l k kx o) (300+l.length) z 0 l) (show k=k+4*((0:Nat):Int) by omega))
   (copies (n:=l.length) (wX k) (fun q i out=>mD.G0 (300+l.length) (fun kx o=>mD.A0 l k kx o) q (k+4*((i:Nat):Int)) (i:Nat) out) (some (k+4*(l.length:Int),List.ofFn fun i:Fin l.length=>wX k i,())) (fun q i out hi ho=> ?_) (fun q=> ?_) (300+l.length) 0 l (by omega) (by omega) rfl (by intro j h hj;omega))
  ·have hw:af ((i:Int)+1)=((i+1:Nat):Int):=aH _ (by omega)
   have v1:af (k+4*(i:Int)+1)=k+4*(i:Int)+1:=(aH _ (by omega)).trans (by omega)
   have v2:af (k+4*(i:Int)+1+1)=k+4*(i:Int)+2:=(aH _ (by omega)).trans (by omega)
   have v3:af (k+4*(i:Int)+2+1)=k+4*(i:Int)+3:=(aH _ (by omega)).trans (by omega)
   have v4:af (k+4*(i:Int)+3+1)=k+4*(i:Int)+4:=(aH _ (by omega)).trans (by omega)
   have hnx:k+4*((i+1:Nat):Int)=k+4*(i:Int)+4:=by omega
   simp only[mD.G0,mD.R0,hw,v1,v2,v3,v4,hnx,List.length_set,Int.toNat_natCast,List.set_set,ho]
   rw[decide_eq_true (by omega),cond_true]
   simp only[if_pos (show 0≤(i:Int)∧(i:Int)<(l.length:Int) by omega),LP _ _ _ _ (show i<out.length by omega)]
   rfl
  ·simp only[mD.G0,mD.R0]
   rw[decide_eq_false (by simp),cond_false]
   rfl
 ·show kV.FF (300+(List.ofFn fun i:Fin l.length=>wX k i).length) _ k=_
  simp only[kV.FF,kV.T,List.length_ofFn]
  generalize hy:(List.ofFn fun i:Fin l.length=>wX k i)=y
  have hyl:y.length=l.length:=by rw[←hy,List.length_ofFn]
  have hyg:∀ i:Nat,i<l.length→y.getD i (0,0,0,0,())=((k+4*(i:Int)),(k+4*(i:Int)+1),(k+4*(i:Int)+2),(k+4*(i:Int)+3),()):=fun i hi=>by rw[←hy];exact OA (wX k) _ _ hi
  refine Eq.trans (congrArg (fun z=>kV.G0 (300+l.length) (fun kx t=>kV.A0 y k kx t) (fun kx=>kV.A1 y k kx) (300+l.length) y z 0) (show k=k+4*((0:Nat):Int) by omega))
   ((scan (α:=Option (Int×Unit)) l.length (fun _=>True) (fun q i=>kV.G0 (300+l.length) (fun kx t=>kV.A0 y k kx t) (fun kx=>kV.A1 y k kx) q y (k+4*((i:Nat):Int)) (i:Nat)) (some (k+4*(l.length:Int),())) none (fun q i hi _=>⟨fun _=> ?_,fun h=>absurd trivial h⟩) (fun _ q=> ?_) (300+l.length) 0 (by omega) (by omega) (fun _ _=>trivial)).1 (fun _ _=>trivial))
  ·have hw:af ((i:Int)+1)=((i+1:Nat):Int):=aH _ (by omega)
   have v1:af (k+4*(i:Int)+1)=k+4*(i:Int)+1:=(aH _ (by omega)).trans (by omega)
   have v2:af (k+4*(i:Int)+1+1)=k+4*(i:Int)+2:=(aH _ (by omega)).trans (by omega)
   have v3:af (k+4*(i:Int)+2+1)=k+4*(i:Int)+3:=(aH _ (by omega)).trans (by omega)
   have v4:af (k+4*(i:Int)+3+1)=k+4*(i:Int)+4:=(aH _ (by omega)).trans (by omega)
   have hnx:k+4*((i+1:Nat):Int)=k+4*(i:Int)+4:=by omega
   simp only[kV.G0,kV.R0,bP,hyg i hi,hw,v1,v2,v3,v4,hnx,hyl,bne_self_eq_false,cond_false]
   rw[decide_eq_true (by omega),cond_true]
   simp only[if_pos (show 0≤(i:Int)∧(i:Int)<(l.length:Int) by omega)]
  ·simp only[kV.G0,kV.R0,hyl]
   rw[decide_eq_false (by omega),cond_false]
   rfl
theorem afM(x0:Int)(x1:List (Int×Int×Int×Int×Unit))(x2:List (Int×Int×Int×Int×Unit))(k:Int)(h0:0≤k)(h1:k≤9007199254740992)(h_x1:x1.length≤1048576)(h_x2:x2.length≤1048576):∃ (y_x1:List (Int×Int×Int×Int×Unit)) (y_x2:List (Int×Int×Int×Int×Unit)),Du (x0,x1,x2,k,())=some (k+4*(x1.length:Int)+4*(x2.length:Int),x0,y_x1,y_x2,())∧Dv (x0,y_x1,y_x2,k,())=some (k+4*(x1.length:Int)+4*(x2.length:Int),()):=by
 obtain⟨y_x1,a0,b0⟩:=aek x1 (k) (by omega) (by omega) h_x1
 obtain⟨y_x2,a1,b1⟩:=adx x2 (k+4*(x1.length:Int)) (by omega) (by omega) h_x2
 have n0:decide (k+4*(x1.length:Int)<0)=false:=decide_eq_false (by omega)
 have n1:decide (k+4*(x1.length:Int)+4*(x2.length:Int)<0)=false:=decide_eq_false (by omega)
 exact⟨y_x1,y_x2,by simp only[Du,SC.T,a0,a1,Option.bind_some],by simp only[Dv,SE.T,b0,b1,n0,n1,Option.bind_some,cond_false]⟩
def xk(k:Int)(i:Nat):Int×Int×Int×Unit:=((k+3*(i:Int)),(k+3*(i:Int)+1),(k+3*(i:Int)+2),())
theorem aej(l:List (Int×Int×Int×Unit))(k:Int)(h0:0≤k)(h1:k≤72057594037927936)(hl:l.length≤1048576):∃ y:List (Int×Int×Int×Unit),JQ (l,k,())=some (k+3*(l.length:Int),y,())∧JS (y,k,())=some (k+3*(l.length:Int),()):=by
 refine⟨List.ofFn fun i:Fin l.length=>xk k i, ?_, ?_⟩
 ·show mM.FF (300+l.length) l k=_
  simp only[mM.FF,mM.T]
  refine Eq.trans (congrArg (fun z=>mM.G0 (300+l.length) (fun kx o=>mM.A0 l k kx o) (300+l.length) z 0 l) (show k=k+3*((0:Nat):Int) by omega))
   (copies (n:=l.length) (xk k) (fun q i out=>mM.G0 (300+l.length) (fun kx o=>mM.A0 l k kx o) q (k+3*((i:Nat):Int)) (i:Nat) out) (some (k+3*(l.length:Int),List.ofFn fun i:Fin l.length=>xk k i,())) (fun q i out hi ho=> ?_) (fun q=> ?_) (300+l.length) 0 l (by omega) (by omega) rfl (by intro j h hj;omega))
  ·have hw:af ((i:Int)+1)=((i+1:Nat):Int):=aH _ (by omega)
   have v1:af (k+3*(i:Int)+1)=k+3*(i:Int)+1:=(aH _ (by omega)).trans (by omega)
   have v2:af (k+3*(i:Int)+1+1)=k+3*(i:Int)+2:=(aH _ (by omega)).trans (by omega)
   have v3:af (k+3*(i:Int)+2+1)=k+3*(i:Int)+3:=(aH _ (by omega)).trans (by omega)
   have hnx:k+3*((i+1:Nat):Int)=k+3*(i:Int)+3:=by omega
   simp only[mM.G0,mM.R0,hw,v1,v2,v3,hnx,List.length_set,Int.toNat_natCast,List.set_set,ho]
   rw[decide_eq_true (by omega),cond_true]
   simp only[if_pos (show 0≤(i:Int)∧(i:Int)<(l.length:Int) by omega),LP _ _ _ _ (show i<out.length by omega)]
   rfl
  ·simp only[mM.G0,mM.R0]
   rw[decide_eq_false (by simp),cond_false]
   rfl
 ·show kX.FF (300+(List.ofFn fun i:Fin l.length=>xk k i).length) _ k=_
  simp only[kX.FF,kX.T,List.length_ofFn]
  generalize hy:(List.ofFn fun i:Fin l.length=>xk k i)=y
  have hyl:y.length=l.length:=by rw[←hy,List.length_ofFn]
  have hyg:∀ i:Nat,i<l.length→y.getD i (0,0,0,())=((k+3*(i:Int)),(k+3*(i:Int)+1),(k+3*(i:Int)+2),()):=fun i hi=>by rw[←hy];exact OA (xk k) _ _ hi
  refine Eq.trans (congrArg (fun z=>kX.G0 (300+l.length) (fun kx t=>kX.A0 y k kx t) (fun kx=>kX.A1 y k kx) (300+l.length) y z 0) (show k=k+3*((0:Nat):Int) by omega))
   ((scan (α:=Option (Int×Unit)) l.length (fun _=>True) (fun q i=>kX.G0 (300+l.length) (fun kx t=>kX.A0 y k kx t) (fun kx=>kX.A1 y k kx) q y (k+3*((i:Nat):Int)) (i:Nat)) (some (k+3*(l.length:Int),())) none (fun q i hi _=>⟨fun _=> ?_,fun h=>absurd trivial h⟩) (fun _ q=> ?_) (300+l.length) 0 (by omega) (by omega) (fun _ _=>trivial)).1 (fun _ _=>trivial))
  ·have hw:af ((i:Int)+1)=((i+1:Nat):Int):=aH _ (by omega)
   have v1:af (k+3*(i:Int)+1)=k+3*(i:Int)+1:=(aH _ (by omega)).trans (by omega)
   have v2:af (k+3*(i:Int)+1+1)=k+3*(i:Int)+2:=(aH _ (by omega)).trans (by omega)
   have v3:af (k+3*(i:Int)+2+1)=k+3*(i:Int)+3:=(aH _ (by omega)).trans (by omega)
   have hnx:k+3*((i+1:Nat):Int)=k+3*(i:Int)+3:=by omega
   simp only[kX.G0,kX.R0,bP,hyg i hi,hw,v1,v2,v3,hnx,hyl,bne_self_eq_false,cond_false]
   rw[decide_eq_true (by omega),cond_true]
   simp only[if_pos (show 0≤(i:Int)∧(i:Int)<(l.length:Int) by omega)]
  ·simp only[kX.G0,kX.R0,hyl]
   rw[decide_eq_false (by omega),cond_false]
   rfl
theorem VD(x0:Int)(x1:Int)(x2:Int)(x3:Int)(x4:List (Int×Int×Int×Int×Unit))(x5:List (Int×Int×Int×Int×Unit))(x6:List (Int×Int×Int×Unit))(k:Int)(h0:0≤k)(h1:k≤1125899906842624)(h_x4:x4.length≤1048576)(h_x5:x5.length≤1048576)(h_x6:x6.length≤1048576):∃ (y_x4:List (Int×Int×Int×Int×Unit)) (y_x5:List (Int×Int×Int×Int×Unit)) (y_x6:List (Int×Int×Int×Unit)),zo (x0,x1,x2,x3,x4,x5,x6,k,())=some (k+4*(x4.length:Int)+4*(x5.length:Int)+3*(x6.length:Int),x0,x1,x2,x3,y_x4,y_x5,y_x6,())∧CX (x0,x1,x2,x3,y_x4,y_x5,y_x6,k,())=some (k+4*(x4.length:Int)+4*(x5.length:Int)+3*(x6.length:Int),()):=by
 obtain⟨y_x4,y_x5,a0,b0⟩:=afM x3 x4 x5 (k) (by omega) (by omega) h_x4 h_x5
 obtain⟨y_x6,a1,b1⟩:=aej x6 (k+4*(x4.length:Int)+4*(x5.length:Int)) (by omega) (by omega) h_x6
 have n0:decide (k+4*(x4.length:Int)+4*(x5.length:Int)<0)=false:=decide_eq_false (by omega)
 have n1:decide (k+4*(x4.length:Int)+4*(x5.length:Int)+3*(x6.length:Int)<0)=false:=decide_eq_false (by omega)
 exact⟨y_x4,y_x5,y_x6,by simp only[zo,Rk.T,a0,a1,Option.bind_some],by simp only[CX,Rl.T,b0,b1,n0,n1,Option.bind_some,cond_false]⟩
theorem agF(x0:Int)(x1:Int)(x2:Int)(x3:Int)(x4:Int) :zZ (x0,x1,x2,x3,x4,())=some (x0,x1,x2,x3,x4,()):=by
 rfl
theorem acW(x0:Int)(x1:Int)(x2:Int)(x3:Int)(x4:List (Int×Int×Int×Int×Unit))(x5:List (Int×Int×Int×Int×Unit))(x6:List (Int×Int×Int×Unit))(x7:Int)(x8:Int)(x9:Int)(h_x4:x4.length≤1048576)(h_x5:x5.length≤1048576)(h_x6:x6.length≤1048576):vY (x0,x1,x2,x3,x4,x5,x6,x7,x8,x9,x0,x1,x2,x3,x4,x5,x6,x7,x8,x9,())=some (true,()):=by
 simp(disch:=assumption) only[vY,QS.T,VR,Option.bind_some,bne_self_eq_false,cond_false,Bool.not_true]
theorem acS(x0:Int)(x1:Int)(x2:Int)(x3:Int)(x4:List (Int×Int×Int×Int×Unit))(x5:List (Int×Int×Int×Int×Unit))(x6:List (Int×Int×Int×Unit))(x7:Int)(x8:Int)(x9:Int)(k:Int)(h0:0≤k)(h1:k≤140737488355328)(h_x4:x4.length≤1048576)(h_x5:x5.length≤1048576)(h_x6:x6.length≤1048576):∃ (y_x4:List (Int×Int×Int×Int×Unit)) (y_x5:List (Int×Int×Int×Int×Unit)) (y_x6:List (Int×Int×Int×Unit)),Cj (x0,x1,x2,x3,x4,x5,x6,x7,x8,x9,k,())=some (k+4*(x4.length:Int)+4*(x5.length:Int)+3*(x6.length:Int),x0,x1,x2,x3,y_x4,y_x5,y_x6,x7,x8,x9,())∧zf (x0,x1,x2,x3,y_x4,y_x5,y_x6,x7,x8,x9,k,())=some (k+4*(x4.length:Int)+4*(x5.length:Int)+3*(x6.length:Int),()):=by
 obtain⟨y_x4,y_x5,y_x6,a0,b0⟩:=VD x0 x1 x2 x3 x4 x5 x6 (k) (by omega) (by omega) h_x4 h_x5 h_x6
 have n0:decide (k+4*(x4.length:Int)+4*(x5.length:Int)+3*(x6.length:Int)<0)=false:=decide_eq_false (by omega)
 exact⟨y_x4,y_x5,y_x6,by simp only[Cj,Qw.T,a0,Option.bind_some],by simp only[zf,Qx.T,b0,n0,Option.bind_some,cond_false]⟩
theorem agv(s0 s1 s2 s3:Int)(l m:List I4)(n:List I3)(hl:l.length≤1048576)(hm:m.length≤1048576)(hn:n.length≤1048576):Iy (s0,s1,s2,s3,l,m,n,())=some (s0,s1,s2,s3,l,m,n,()):=by
 show Jk.T s0 s1 s2 s3 l m n=_
 have e:Jt (s3,l,m,())=some (s3,l,m,()):=by
  show Kr.T s3 l m=_
  simp only[Kr.T,af4 l hl,cloneM m hm,Option.bind_some]
 simp only[Jk.T,e,OY n hn,Option.bind_some]
theorem jq.small{s0 s1 s2 s3:Int}{l m:List I4}{n:List I3}(h:jq s0 s1 s2 s3 l m n):l.length≤30∧m.length≤60∧n.length≤60:=by
 have:=h.same
 have:=h.farm.ll
 have:=h.farm.lm
 omega
theorem agV(s0 s1 s2 s3:Int)(l m:List I4)(n:List I3)(k id g a b:Int)(hl:l.length≤1048576)(hm:m.length≤1048576)(hn:n.length≤1048576):
  ∃ (t0 t1 t2 t3:Int) (l' m':List I4) (n':List I3) (am un c:Int),wF (s0,s1,s2,s3,l,m,n,k,id,g,a,b,())=some (t0,t1,t2,t3,l',m',n',am,un,c,())∧
   zJ (s0,s1,s2,s3,l,m,n,k,id,g,a,b,())=some (t0,t1,t2,t3,l',m',n',am,un,c,())∧l'.length≤60∧m'.length≤60∧n'.length≤60:=by
 have hI:zJ (s0,s1,s2,s3,l,m,n,k,id,g,a,b,())=zU.T s0 s1 s2 s3 l m n k id g a b:=rfl
 have hS:wF (s0,s1,s2,s3,l,m,n,k,id,g,a,b,())=iF.FF (300+l.length+m.length+n.length) s0 s1 s2 s3 l m n k id g a b:=rfl
 by_cases h:qo s0 s1 s2 s3 l m n
 ·have hq:=X7.1 h
  cases hop:vG k id g a b with
  |true=>
   obtain⟨am,un,c,t1,t2,t3,l',m',n',e1,e2,e3,e4, -⟩:=agd hq k id g a b hop
   rw[hI,zU.T,MW s0 s1 s2 s3 l m n hl hm hn,XE,dF h,hop,agv s0 s1 s2 s3 l m n hl hm hn]
   simp only[Option.bind_some,Bool.not_true,cond_false,e1]
   by_cases hc:c=0
   ·subst hc
    obtain⟨r1,r2⟩:=e3 rfl
    obtain⟨q1,q2,q3⟩:=r1.small
    exact⟨s0,t1,t2,t3,l',m',n',am,un,0,r2,rfl,by omega,by omega,by omega⟩
   ·obtain⟨-, -, -, -, -, -, -, -, r⟩:=e4 hc
    exact⟨0,0,0,0,[],[],[],0,0,c,r,by rw[bne_iff_ne.2 hc];rfl,by simp,by simp,by simp⟩
  |false=>
   refine⟨0,0,0,0,[],[],[],0,0,1, ?_, ?_,by simp,by simp,by simp⟩
   ·rw[hS,iF.FF,iF.T,MK s0 s1 s2 s3 l m n hl hm hn,Xm,dF h,hop];rfl
   ·rw[hI,zU.T,MW s0 s1 s2 s3 l m n hl hm hn,XE,dF h,hop];rfl
 ·refine⟨0,0,0,0,[],[],[],0,0,1, ?_, ?_,by simp,by simp,by simp⟩
  ·rw[hS,iF.FF,iF.T,MK s0 s1 s2 s3 l m n hl hm hn,eH h];rfl
  ·rw[hI,zU.T,MW s0 s1 s2 s3 l m n hl hm hn,eH h];rfl
theorem acT(s0 s1 s2 s3:Int)(s4 s5:List I4)(s6:List I3)(o0 o1 o2 o3 o4:Int)(h4:s4.length≤140737488355328)(h5:s5.length≤140737488355328)(h6:s6.length≤140737488355328):yZ (s0,s1,s2,s3,s4,s5,s6,o0,o1,o2,o3,o4,())=some (true,()):=by
 obtain⟨z,hz,h2,h3⟩:=ad4 s0 s1 s2 s3 s4 s5 s6 1048576 (by omega) (by omega) h4 h5 h6
 simp only[yZ,Qp.T,hz,Option.bind_some]
 simp only[List.mem_cons,List.not_mem_nil,or_false,forall_eq_or_imp,forall_eq]at h3
 by_cases h:z<0
 ·rw[decide_eq_true h];rfl
 ·rw[decide_eq_false h]
  obtain⟨k4,k5,k6⟩:=h3 (by omega)
  have k4':s4.length≤1048576:=by omega
  have k5':s5.length≤1048576:=by omega
  have k6':s6.length≤1048576:=by omega
  obtain⟨t0,t1,t2,t3,l',m',n',am,un,c,e1,e2,b1,b2,b3⟩:=agV s0 s1 s2 s3 s4 s5 s6 o0 o1 o2 o3 o4 k4' k5' k6'
  obtain⟨y1,y2,y3,hmo, -⟩:=VD s0 s1 s2 s3 s4 s5 s6 1 (by omega) (by omega) k4' k5' k6'
  obtain⟨y4,y5,y6,hm1,hm2⟩:=acS t0 t1 t2 t3 l' m' n' am un c 1 (by omega) (by omega) (by omega) (by omega) (by omega)
  have n2:decide (1+4*(l'.length:Int)+4*(m'.length:Int)+3*(n'.length:Int)<0)=false:=decide_eq_false (by omega)
  simp only[adY s0 s1 s2 s3 s4 s5 s6 k4' k5' k6',agF,e1,e2,acW t0 t1 t2 t3 l' m' n' am un c (Nat.le_trans b1 (by decide)) (Nat.le_trans b2 (by decide)) (Nat.le_trans b3 (by decide)),VR s0 s1 s2 s3 s4 s5 s6 k4' k5' k6',hmo,hm1,hm2,n2,Option.bind_some,cond_false,Bool.not_true,bne_self_eq_false]
  rw[decide_eq_false (by omega),cond_false]
theorem acz:∀ x:ah.V (bZ Ce),ah.ok (bZ Ce) x→yZ x=some (true,()):=by
 rintro⟨s0,s1,s2,s3,s4,s5,s6,o0,o1,o2,o3,o4,⟨⟩⟩ h
 obtain⟨-, -, -, -, ⟨h4, -⟩,⟨h5, -⟩,⟨h6, -⟩, -⟩:=h
 exact acT s0 s1 s2 s3 s4 s5 s6 o0 o1 o2 o3 o4 (OQ (α:=I4) 32 (by omega) h4) (OQ (α:=I4) 32 (by omega) h5) (OQ (α:=I3) 24 (by omega) h6)
end Go.Rv
