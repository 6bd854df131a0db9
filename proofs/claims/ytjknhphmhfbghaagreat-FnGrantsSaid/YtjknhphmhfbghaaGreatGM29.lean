/- Plain facts: FarmShares-law-both, server, lea. -/
import Derived.Test.YtjknhphmhfbghaaGreatGM28
set_option linter.unusedVariables false
set_option linter.unusedSimpArgs false
set_option linter.unusedSectionVars false
namespace Go.Rv
theorem acM(l:List I4)(A:List (Int×Unit)):pr l A=(List.range A.length).map fun j=>((g4 l j).1,fI A j,()):=by
 apply List.ext_getElem
 ·simp[pr]
 ·intro i h1 h2
  have hi:i<A.length:=by simpa [pr]using h1
  simp[pr,fI,List.getD_eq_getElem?_getD,hi]
theorem TD(n:Int):zu (n,())=some (bb (1≤n∧n≤1000),()):=by simp only[zu,Rl.T];grind [=fC]
theorem acz(n:Int):Dv (n,())=some (bb (oI n),()):=by simp only[Dv,Sv.T,oI];grind [=fC]
theorem adY(n:Int):DT (n,())=some (bb (oI n),()):=by simp only[DT,Tt.T,yF,Option.bind_some,oI]
def nK(x:I3):Prop:=iy x.1∧dM x.2.1∧oI x.2.2.1
theorem Uj(a b c:Int):zJ (a,b,c,())=some (bb (nK (a,b,c,())),()):=by
 simp only[zJ,RQ.T,EI,xB,acz,Option.bind_some,nK];grind [=fC]
theorem ade(a b c:Int):Cb (a,b,c,())=some (bb (nK (a,b,c,())),()):=by
 simp only[Cb,P9.T,Oo,EJ,adY,Option.bind_some,nK];grind [=fC]
def yP(l:List I3)(i:Nat):Prop:=nK (g3 l i)∧(0<i→(g3 l (i - 1)).1<(g3 l i).1)
def kT(l:List I3):Prop:=l.length≤60∧∀ i,i<l.length→yP l i
theorem D6(l:List I3)(hl:l.length≤1048576):wF (l,())=some (bb (kT l),()):=by
 show kN.FF (300+l.length) l=_
 simp only[kN.FF,kN.T]
 have e:∀ k0,kN.G0 k0 (fun t=>kN.A0 l t) (fun _=>kN.A1 l ()) (300+l.length) l 0=some (bb (∀ j,j<l.length→yP l j),()):=by
  intro k0
  refine Ba (g:=fun k i=>kN.G0 k0 (fun t=>kN.A0 l t) (fun _=>kN.A1 l ()) k l (i:Nat)) (fun k i hi _=> ?_) (fun _ k=> ?_) _ (by omega)
  ·have hw:af ((i:Int)+1)=((i+1:Nat):Int):=aJ _ (by omega)
   simp only[kN.G0,kN.R0,kN.A0,bZ,Uj,Option.bind_some,hw]
   have hd:decide (i<(l.length:Int))=true:=decide_eq_true (by omega)
   unfold yP
   by_cases h0:0<i
   ·have hw':af ((i:Int) - 1)=((i - 1:Nat):Int):=(aJ _ (by omega)).trans (by omega)
    rw[hw']
    simp only[bZ]
    grind [=fC]
   ·have:i=0:=by omega
    subst this
    grind [=fC]
  ·simp only[kN.G0,kN.R0]
   rw[decide_eq_false (by omega),cond_false];rfl
 rw[e]
 unfold kT
 grind [=fC]
theorem Uf(l:List I3)(hl:l.length≤1048576):CG (l,())=some (bb (kT l),()):=by
 show ku.FF (300+l.length) l=_
 simp only[ku.FF,ku.T]
 have e:∀ k0,ku.G0 k0 (fun l2 t=>ku.A0 l l2 t) (fun l2=>ku.A1 l l2) (300+l.length) l l l.length 0=some (bb ((∀ j,j<l.length→yP l j)∧l.length≤60),()):=by
  intro k0
  refine EZ (g:=fun k i=>ku.G0 k0 (fun l2 t=>ku.A0 l l2 t) (fun l2=>ku.A1 l l2) k l l l.length (i:Nat)) (fun k i hi _=> ?_) (fun _ k=> ?_) _ (by omega)
  ·have hw:af ((i:Int)+1)=((i+1:Nat):Int):=aJ _ (by omega)
   simp only[ku.G0,ku.R0,ku.A0,bZ,ade,Option.bind_some,hw]
   have hd:decide (i<(l.length:Int))=true:=decide_eq_true (by omega)
   unfold yP
   by_cases h0:0<i
   ·have hw':af ((i:Int) - 1)=((i - 1:Nat):Int):=(aJ _ (by omega)).trans (by omega)
    rw[hw']
    simp only[bZ]
    grind [=fC]
   ·have:i=0:=by omega
    subst this
    grind [=fC]
  ·simp only[ku.G0,ku.R0,ku.A1]
   grind [=fC]
 rw[e]
 unfold kT
 congr 2
 exact lK And.comm
def BG(s0 s2:Int)(m:List I4)(l:List I3)(i:Nat):Prop:=(g3 l i).1=(g4 m i).1∧s2<(g3 l i).2.2.1∧(g3 l i).2.2.1≤s2+s0
def oz(s0 s1 s2 s3:Int)(s4 s5:List I4)(s6:List I3):Prop:=
 (1≤s0∧s0≤1000)∧0≤s1∧s1≤s2∧s2≤999000∧kZ s3 s4 s5∧kT s6∧s6.length=s5.length∧∀ i,i<s6.length→BG s0 s2 s5 s6 i
theorem uQ(s0 s1 s2 s3:Int)(s4 s5:List I4)(s6:List I3)(h4:s4.length≤1048576)(h5:s5.length≤1048576)(h6:s6.length≤1048576):Cm (s0,s1,s2,s3,s4,s5,s6,())=some (bb (oz s0 s1 s2 s3 s4 s5 s6),()):=by
 show kM.FF (300+s4.length+s5.length+s6.length) s0 s1 s2 s3 s4 s5 s6=_
 simp only[kM.FF,kM.T,TD,uY s3 s4 s5 h4 h5,D6 s6 h6,Option.bind_some]
 by_cases h:1≤s0∧s0≤1000∧0≤s2∧s2≤999000∧s6.length=s5.length
 ·have e:∀ k0,kM.G0 k0 (fun t=>kM.A0 s0 s1 s2 s3 s4 s5 s6 t) (fun _=>kM.A1 s0 s1 s2 s3 s4 s5 s6 ()) (300+s4.length+s5.length+s6.length) 0 s0 s1 s2 s3 s4 s5 s6=some (bb (∀ j,j<s6.length→BG s0 s2 s5 s6 j),()):=by
   intro k0
   refine Ba (g:=fun k i=>kM.G0 k0 (fun t=>kM.A0 s0 s1 s2 s3 s4 s5 s6 t) (fun _=>kM.A1 s0 s1 s2 s3 s4 s5 s6 ()) k (i:Nat) s0 s1 s2 s3 s4 s5 s6) (fun k i hi _=> ?_) (fun _ k=> ?_) _ (by omega)
   ·have hw:af ((i:Int)+1)=((i+1:Nat):Int):=aJ _ (by omega)
    have hw2:af (s2+s0)=s2+s0:=aJ _ (by omega)
    simp only[kM.G0,kM.R0,kM.A0,bZ,hw,hw2]
    have hd:decide (i<(s6.length:Int))=true:=decide_eq_true (by omega)
    unfold BG
    grind [=fC]
   ·simp only[kM.G0,kM.R0]
    rw[decide_eq_false (by omega),cond_false];rfl
  rw[e]
  unfold oz
  grind [=fC]
 ·unfold oz
  grind [=fC]
theorem Ac(s0 s1 s2 s3:Int)(s4 s5:List I4)(s6:List I3)(h4:s4.length≤1048576)(h5:s5.length≤1048576)(h6:s6.length≤1048576):CB (s0,s1,s2,s3,s4,s5,s6,())=some (bb (oz s0 s1 s2 s3 s4 s5 s6),()):=by
 show kP.FF (300+s4.length+s5.length+s6.length) s0 s1 s2 s3 s4 s5 s6=_
 simp only[kP.FF,kP.T,yF,Vt s3 s4 s5 h4 h5,Uf s6 h6,Option.bind_some]
 by_cases h:1≤s0∧s0≤1000∧0≤s2∧s2≤999000∧s6.length=s5.length
 ·have e:∀ k0,kP.G0 k0 (fun t=>kP.A0 s0 s1 s2 s3 s4 s5 s6 t) (fun _=>kP.A1 s0 s1 s2 s3 s4 s5 s6 ()) (300+s4.length+s5.length+s6.length) s6 s6.length 0 s0 s1 s2 s3 s4 s5 s6=some (bb (∀ j,j<s6.length→BG s0 s2 s5 s6 j),()):=by
   intro k0
   refine Ba (g:=fun k i=>kP.G0 k0 (fun t=>kP.A0 s0 s1 s2 s3 s4 s5 s6 t) (fun _=>kP.A1 s0 s1 s2 s3 s4 s5 s6 ()) k s6 s6.length (i:Nat) s0 s1 s2 s3 s4 s5 s6) (fun k i hi _=> ?_) (fun _ k=> ?_) _ (by omega)
   ·have hw:af ((i:Int)+1)=((i+1:Nat):Int):=aJ _ (by omega)
    have hw2:af (s2+s0)=s2+s0:=aJ _ (by omega)
    have hw3:af (s2+1)=s2+1:=aJ _ (by omega)
    simp only[kP.G0,kP.R0,kP.A0,bZ,hw,hw2,hw3,yF,Option.bind_some]
    have hd:decide (i<(s6.length:Int))=true:=decide_eq_true (by omega)
    unfold BG
    grind [=fC]
   ·simp only[kP.G0,kP.R0]
    rw[decide_eq_false (by omega),cond_false];rfl
  rw[e]
  unfold oz
  grind [=fC]
 ·unfold oz
  grind [=fC]
noncomputable def qG(l:List I3)(now id:Int)(i:Nat):Int:=if(g3 l i).2.2.1>now then(if(g3 l i).1=id then 0 else(g3 l i).2.1)else 0
noncomputable def eG(l:List I3)(now id:Int)(n:Nat):Int:=sumTo n (qG l now id)
theorem Lu{l:List I3}(h:kT l)(now id:Int)(i:Nat)(hi:i<l.length):0≤qG l now id i∧qG l now id i≤1125899906842624:=by
 have:=(h.2 i hi).1
 unfold nK dM at this
 unfold qG
 repeat' split
 all_goals omega
theorem xu{l:List I3}(h:kT l)(now id:Int)(n:Nat)(hn:n≤l.length):0≤eG l now id n∧eG l now id n≤67553994410557440:=by
 have h1:=l9 1125899906842624 (qG l now id) n fun q hq=>Lu h now id q (by omega)
 have h2:=h.1
 unfold eG
 omega
theorem abC(l:List I3)(h:kT l)(now id:Int):Jd (l,now,id,())=some (eG l now id l.length,()):=by
 have hl:=h.1
 show mQ.FF (300+l.length) l now id=_
 rw[mQ.FF,mQ.T,D6 l (by omega),dA h,Option.bind_some,Bool.not_true,cond_false]
 refine run 0 l.length (fun k i=>mQ.G0 (300+l.length) (mQ.A0 l now id) k l now id (eG l now id i) (i:Nat)) _ (fun k i _ hi=> ?_) (fun k=> ?_) _ (by omega) (by omega)
 ·have hb:=xu h now id i (by omega)
  have ht:=Lu h now id i hi
  have hw:af ((i:Int)+1)=((i+1:Nat):Int):=aJ _ (by omega)
  have e:eG l now id (i+1)=eG l now id i+qG l now id i:=rfl
  show mQ.G0 _ _ (k+1) l now id (eG l now id i) (i:Nat)=mQ.G0 _ _ k l now id (eG l now id (i+1)) ((i+1:Nat):Int)
  have hc:(0:Int)≤(i:Int)∧(i:Int)<(l.length:Int):=by omega
  simp only[mQ.G0,mQ.R0,bZ,hw,if_pos hc,decide_eq_true hc.2,cond_true]
  rw[e]
  unfold qG at ht ⊢
  by_cases c1:(g3 l i).2.2.1>now
  ·rw[if_pos c1]at ht ⊢
   rw[decide_eq_true c1,cond_true]
   by_cases c2:(g3 l i).1=id
   ·rw[if_pos c2,show((l.getD i (0,0,0,())).1 != id)=false by rw[show(l.getD i (0,0,0,())).1=id from c2];exact bne_self_eq_false _,cond_false,Int.add_zero]
   ·rw[if_neg c2]at ht ⊢
    rw[show((l.getD i (0,0,0,())).1 != id)=true from bne_iff_ne.2 c2,cond_true,show(l.getD i (0,0,0,())).2.1=(g3 l i).2.1 from rfl,aJ _ (by omega)]
  ·rw[if_neg c1,decide_eq_false c1,cond_false,Int.add_zero]
 ·simp only[mQ.G0,mQ.R0]
  rw[decide_eq_false (by omega),cond_false]
  rfl
theorem LG(l:List I3)(h:kT l)(now id:Int):uM (l,now,id,())=some (eG l now id l.length,()):=by
 have hl:=h.1
 show ni.FF (300+l.length) l now id=_
 rw[ni.FF,ni.T]
 refine run 0 l.length (fun k i=>ni.G0 (300+l.length) (ni.A0 l now id) k now id (eG l now id i) l (l.length:Int) (i:Nat)) _ (fun k i _ hi=> ?_) (fun k=> ?_) _ (by omega) (by omega)
 ·have hb:=xu h now id i (by omega)
  have ht:=Lu h now id i hi
  have hw:af ((i:Int)+1)=((i+1:Nat):Int):=aJ _ (by omega)
  have e:eG l now id (i+1)=eG l now id i+qG l now id i:=rfl
  show ni.G0 _ _ (k+1) now id (eG l now id i) l _ (i:Nat)=ni.G0 _ _ k now id (eG l now id (i+1)) l _ ((i+1:Nat):Int)
  have hc:(0:Int)≤(i:Int)∧(i:Int)<(l.length:Int):=by omega
  simp only[ni.G0,ni.R0,bZ,hw,if_pos hc,decide_eq_true hc.2,cond_true]
  rw[e]
  unfold qG at ht ⊢
  by_cases c1:(g3 l i).2.2.1>now
  ·rw[if_pos c1]at ht ⊢
   rw[decide_eq_true c1,cond_true]
   by_cases c2:(g3 l i).1=id
   ·rw[if_pos c2,show((l.getD i (0,0,0,())).1 != id)=false by rw[show(l.getD i (0,0,0,())).1=id from c2];exact bne_self_eq_false _,cond_false,Int.add_zero]
   ·rw[if_neg c2]at ht ⊢
    rw[show((l.getD i (0,0,0,())).1 != id)=true from bne_iff_ne.2 c2,cond_true,show(l.getD i (0,0,0,())).2.1=(g3 l i).2.1 from rfl,aJ _ (by omega)]
  ·rw[if_neg c1,decide_eq_false c1,cond_false,Int.add_zero]
 ·simp only[ni.G0,ni.R0]
  rw[decide_eq_false (by omega),cond_false]
  rfl
end Go.Rv
