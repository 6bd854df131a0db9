/- Plain facts: FarmShares-law-both, server, lea. -/
import Derived.Test.YtjknhphmhfbghaaGreatPM28
set_option linter.unusedVariables false
set_option linter.unusedSimpArgs false
set_option linter.unusedSectionVars false
namespace Go.Rv
theorem adB(l:List I4)(A:List (Int×Unit)):pr l A=(List.range A.length).map fun j=>((g4 l j).1,fI A j,()):=by
 apply List.ext_getElem
 ·simp[pr]
 ·intro i h1 h2
  have hi:i<A.length:=by simpa [pr]using h1
  simp[pr,fI,List.getD_eq_getElem?_getD,hi]
theorem UB(n:Int):zM (n,())=some (bb (1≤n∧n≤1000),()):=by simp only[zM,SK.T];grind [=fE]
theorem ado(n:Int):DU (n,())=some (bb (oO n),()):=by simp only[DU,TT.T,oO];grind [=fE]
theorem aeT(n:Int):Ec (n,())=some (bb (oO n),()):=by simp only[Ec,Uw.T,yN,Option.bind_some,oO]
def nR(x:I3):Prop:=iF x.1∧dN x.2.1∧oO x.2.2.1
theorem Vf(a b c:Int):Aa (a,b,c,())=some (bb (nR (a,b,c,())),()):=by
 simp only[Aa,TA.T,EW,xN,ado,Option.bind_some,nR];grind [=fE]
theorem ad3(a b c:Int):CY (a,b,c,())=some (bb (nR (a,b,c,())),()):=by
 simp only[CY,QO.T,Pe,EX,aeT,Option.bind_some,nR];grind [=fE]
def yX(l:List I3)(i:Nat):Prop:=nR (g3 l i)∧(0<i→(g3 l (i - 1)).1<(g3 l i).1)
def kV(l:List I3):Prop:=l.length≤60∧∀ i,i<l.length→yX l i
theorem Ej(l:List I3)(hl:l.length≤1048576):wM (l,())=some (bb (kV l),()):=by
 show kQ.FF (300+l.length) l=_
 simp only[kQ.FF,kQ.T]
 have e:∀ k0,kQ.G0 k0 (fun t=>kQ.A0 l t) (fun _=>kQ.A1 l ()) (300+l.length) l 0=some (bb (∀ j,j<l.length→yX l j),()):=by
  intro k0
  refine BG (g:=fun k i=>kQ.G0 k0 (fun t=>kQ.A0 l t) (fun _=>kQ.A1 l ()) k l (i:Nat)) (fun k i hi _=> ?_) (fun _ k=> ?_) _ (by omega)
  ·have hw:af ((i:Int)+1)=((i+1:Nat):Int):=aH _ (by omega)
   simp only[kQ.G0,kQ.R0,kQ.A0,bY,Vf,Option.bind_some,hw]
   have hd:decide (i<(l.length:Int))=true:=decide_eq_true (by omega)
   unfold yX
   by_cases h0:0<i
   ·have hw':af ((i:Int) - 1)=((i - 1:Nat):Int):=(aH _ (by omega)).trans (by omega)
    rw[hw']
    simp only[bY]
    grind [=fE]
   ·have:i=0:=by omega
    subst this
    grind [=fE]
  ·simp only[kQ.G0,kQ.R0]
   rw[decide_eq_false (by omega),cond_false];rfl
 rw[e]
 unfold kV
 grind [=fE]
theorem acK(l:List I3)(hl:l.length≤1048576):JJ (l,())=some (bb (kV l),()):=by
 show kz.FF (300+l.length) l=_
 simp only[kz.FF,kz.T]
 have e:∀ k0,kz.G0 k0 (fun l2 t=>kz.A0 l l2 t) (fun l2=>kz.A1 l l2) (300+l.length) l l l.length 0=some (bb ((∀ j,j<l.length→yX l j)∧l.length≤60),()):=by
  intro k0
  refine Fz (g:=fun k i=>kz.G0 k0 (fun l2 t=>kz.A0 l l2 t) (fun l2=>kz.A1 l l2) k l l l.length (i:Nat)) (fun k i hi _=> ?_) (fun _ k=> ?_) _ (by omega)
  ·have hw:af ((i:Int)+1)=((i+1:Nat):Int):=aH _ (by omega)
   simp only[kz.G0,kz.R0,kz.A0,bY,ad3,Option.bind_some,hw]
   have hd:decide (i<(l.length:Int))=true:=decide_eq_true (by omega)
   unfold yX
   by_cases h0:0<i
   ·have hw':af ((i:Int) - 1)=((i - 1:Nat):Int):=(aH _ (by omega)).trans (by omega)
    rw[hw']
    simp only[bY]
    grind [=fE]
   ·have:i=0:=by omega
    subst this
    grind [=fE]
  ·simp only[kz.G0,kz.R0,kz.A1]
   grind [=fE]
 rw[e]
 unfold kV
 congr 2
 exact lN And.comm
def Cc(s0 s2:Int)(m:List I4)(l:List I3)(i:Nat):Prop:=(g3 l i).1=(g4 m i).1∧s2<(g3 l i).2.2.1∧(g3 l i).2.2.1≤s2+s0
def oK(s0 s1 s2 s3:Int)(s4 s5:List I4)(s6:List I3):Prop:=
 (1≤s0∧s0≤1000)∧0≤s1∧s1≤s2∧s2≤999000∧lq s3 s4 s5∧kV s6∧s6.length=s5.length∧∀ i,i<s6.length→Cc s0 s2 s5 s6 i
theorem uX(s0 s1 s2 s3:Int)(s4 s5:List I4)(s6:List I3)(h4:s4.length≤1048576)(h5:s5.length≤1048576)(h6:s6.length≤1048576):wL (s0,s1,s2,s3,s4,s5,s6,())=some (bb (oK s0 s1 s2 s3 s4 s5 s6),()):=by
 show kP.FF (300+s4.length+s5.length+s6.length) s0 s1 s2 s3 s4 s5 s6=_
 simp only[kP.FF,kP.T,UB,vz s3 s4 s5 h4 h5,Ej s6 h6,Option.bind_some]
 by_cases h:1≤s0∧s0≤1000∧0≤s2∧s2≤999000∧s6.length=s5.length
 ·have e:∀ k0,kP.G0 k0 (fun t=>kP.A0 s0 s1 s2 s3 s4 s5 s6 t) (fun _=>kP.A1 s0 s1 s2 s3 s4 s5 s6 ()) (300+s4.length+s5.length+s6.length) 0 s0 s1 s2 s3 s4 s5 s6=some (bb (∀ j,j<s6.length→Cc s0 s2 s5 s6 j),()):=by
   intro k0
   refine BG (g:=fun k i=>kP.G0 k0 (fun t=>kP.A0 s0 s1 s2 s3 s4 s5 s6 t) (fun _=>kP.A1 s0 s1 s2 s3 s4 s5 s6 ()) k (i:Nat) s0 s1 s2 s3 s4 s5 s6) (fun k i hi _=> ?_) (fun _ k=> ?_) _ (by omega)
   ·have hw:af ((i:Int)+1)=((i+1:Nat):Int):=aH _ (by omega)
    have hw2:af (s2+s0)=s2+s0:=aH _ (by omega)
    simp only[kP.G0,kP.R0,kP.A0,bY,hw,hw2]
    have hd:decide (i<(s6.length:Int))=true:=decide_eq_true (by omega)
    unfold Cc
    grind [=fE]
   ·simp only[kP.G0,kP.R0]
    rw[decide_eq_false (by omega),cond_false];rfl
  rw[e]
  unfold oK
  grind [=fE]
 ·unfold oK
  grind [=fE]
theorem ve(s0 s1 s2 s3:Int)(s4 s5:List I4)(s6:List I3)(h4:s4.length≤1048576)(h5:s5.length≤1048576)(h6:s6.length≤1048576):wO (s0,s1,s2,s3,s4,s5,s6,())=some (bb (oK s0 s1 s2 s3 s4 s5 s6),()):=by
 show kR.FF (300+s4.length+s5.length+s6.length) s0 s1 s2 s3 s4 s5 s6=_
 simp only[kR.FF,kR.T,yN,adL s3 s4 s5 h4 h5,acK s6 h6,Option.bind_some]
 by_cases h:1≤s0∧s0≤1000∧0≤s2∧s2≤999000∧s6.length=s5.length
 ·have e:∀ k0,kR.G0 k0 (fun t=>kR.A0 s0 s1 s2 s3 s4 s5 s6 t) (fun _=>kR.A1 s0 s1 s2 s3 s4 s5 s6 ()) (300+s4.length+s5.length+s6.length) s6 s6.length 0 s0 s1 s2 s3 s4 s5 s6=some (bb (∀ j,j<s6.length→Cc s0 s2 s5 s6 j),()):=by
   intro k0
   refine BG (g:=fun k i=>kR.G0 k0 (fun t=>kR.A0 s0 s1 s2 s3 s4 s5 s6 t) (fun _=>kR.A1 s0 s1 s2 s3 s4 s5 s6 ()) k s6 s6.length (i:Nat) s0 s1 s2 s3 s4 s5 s6) (fun k i hi _=> ?_) (fun _ k=> ?_) _ (by omega)
   ·have hw:af ((i:Int)+1)=((i+1:Nat):Int):=aH _ (by omega)
    have hw2:af (s2+s0)=s2+s0:=aH _ (by omega)
    have hw3:af (s2+1)=s2+1:=aH _ (by omega)
    simp only[kR.G0,kR.R0,kR.A0,bY,hw,hw2,hw3,yN,Option.bind_some]
    have hd:decide (i<(s6.length:Int))=true:=decide_eq_true (by omega)
    unfold Cc
    grind [=fE]
   ·simp only[kR.G0,kR.R0]
    rw[decide_eq_false (by omega),cond_false];rfl
  rw[e]
  unfold oK
  grind [=fE]
 ·unfold oK
  grind [=fE]
noncomputable def qN(l:List I3)(now id:Int)(i:Nat):Int:=if(g3 l i).2.2.1>now then(if(g3 l i).1=id then 0 else(g3 l i).2.1)else 0
noncomputable def dS(l:List I3)(now id:Int)(n:Nat):Int:=sumTo n (qN l now id)
theorem MS{l:List I3}(h:kV l)(now id:Int)(i:Nat)(hi:i<l.length):0≤qN l now id i∧qN l now id i≤1125899906842624:=by
 have:=(h.2 i hi).1
 unfold nR dN at this
 unfold qN
 repeat' split
 all_goals omega
theorem xJ{l:List I3}(h:kV l)(now id:Int)(n:Nat)(hn:n≤l.length):0≤dS l now id n∧dS l now id n≤67553994410557440:=by
 have h1:=mF 1125899906842624 (qN l now id) n fun q hq=>MS h now id q (by omega)
 have h2:=h.1
 unfold dS
 omega
theorem UJ(l:List I3)(h:kV l)(now id:Int):Dj (l,now,id,())=some (dS l now id l.length,()):=by
 have hl:=h.1
 show ng.FF (300+l.length) l now id=_
 rw[ng.FF,ng.T,Ej l (by omega),dD h,Option.bind_some,Bool.not_true,cond_false]
 refine run 0 l.length (fun k i=>ng.G0 (300+l.length) (ng.A0 l now id) k l now id (dS l now id i) (i:Nat)) _ (fun k i _ hi=> ?_) (fun k=> ?_) _ (by omega) (by omega)
 ·have hb:=xJ h now id i (by omega)
  have ht:=MS h now id i hi
  have hw:af ((i:Int)+1)=((i+1:Nat):Int):=aH _ (by omega)
  have e:dS l now id (i+1)=dS l now id i+qN l now id i:=rfl
  show ng.G0 _ _ (k+1) l now id (dS l now id i) (i:Nat)=ng.G0 _ _ k l now id (dS l now id (i+1)) ((i+1:Nat):Int)
  have hc:(0:Int)≤(i:Int)∧(i:Int)<(l.length:Int):=by omega
  simp only[ng.G0,ng.R0,bY,hw,if_pos hc,decide_eq_true hc.2,cond_true]
  rw[e]
  unfold qN at ht ⊢
  by_cases c1:(g3 l i).2.2.1>now
  ·rw[if_pos c1]at ht ⊢
   rw[decide_eq_true c1,cond_true]
   by_cases c2:(g3 l i).1=id
   ·rw[if_pos c2,show((l.getD i (0,0,0,())).1 != id)=false by rw[show(l.getD i (0,0,0,())).1=id from c2];exact bne_self_eq_false _,cond_false,Int.add_zero]
   ·rw[if_neg c2]at ht ⊢
    rw[show((l.getD i (0,0,0,())).1 != id)=true from bne_iff_ne.2 c2,cond_true,show(l.getD i (0,0,0,())).2.1=(g3 l i).2.1 from rfl,aH _ (by omega)]
  ·rw[if_neg c1,decide_eq_false c1,cond_false,Int.add_zero]
 ·simp only[ng.G0,ng.R0]
  rw[decide_eq_false (by omega),cond_false]
  rfl
theorem MX(l:List I3)(h:kV l)(now id:Int):uS (l,now,id,())=some (dS l now id l.length,()):=by
 have hl:=h.1
 show nH.FF (300+l.length) l now id=_
 rw[nH.FF,nH.T]
 refine run 0 l.length (fun k i=>nH.G0 (300+l.length) (nH.A0 l now id) k now id (dS l now id i) l (l.length:Int) (i:Nat)) _ (fun k i _ hi=> ?_) (fun k=> ?_) _ (by omega) (by omega)
 ·have hb:=xJ h now id i (by omega)
  have ht:=MS h now id i hi
  have hw:af ((i:Int)+1)=((i+1:Nat):Int):=aH _ (by omega)
  have e:dS l now id (i+1)=dS l now id i+qN l now id i:=rfl
  show nH.G0 _ _ (k+1) now id (dS l now id i) l _ (i:Nat)=nH.G0 _ _ k now id (dS l now id (i+1)) l _ ((i+1:Nat):Int)
  have hc:(0:Int)≤(i:Int)∧(i:Int)<(l.length:Int):=by omega
  simp only[nH.G0,nH.R0,bY,hw,if_pos hc,decide_eq_true hc.2,cond_true]
  rw[e]
  unfold qN at ht ⊢
  by_cases c1:(g3 l i).2.2.1>now
  ·rw[if_pos c1]at ht ⊢
   rw[decide_eq_true c1,cond_true]
   by_cases c2:(g3 l i).1=id
   ·rw[if_pos c2,show((l.getD i (0,0,0,())).1 != id)=false by rw[show(l.getD i (0,0,0,())).1=id from c2];exact bne_self_eq_false _,cond_false,Int.add_zero]
   ·rw[if_neg c2]at ht ⊢
    rw[show((l.getD i (0,0,0,())).1 != id)=true from bne_iff_ne.2 c2,cond_true,show(l.getD i (0,0,0,())).2.1=(g3 l i).2.1 from rfl,aH _ (by omega)]
  ·rw[if_neg c1,decide_eq_false c1,cond_false,Int.add_zero]
 ·simp only[nH.G0,nH.R0]
  rw[decide_eq_false (by omega),cond_false]
  rfl
end Go.Rv
