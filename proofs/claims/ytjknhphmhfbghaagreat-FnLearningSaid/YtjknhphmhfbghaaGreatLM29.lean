/- Plain facts: FarmShares-law-both, server, lea. -/
import Derived.Test.YtjknhphmhfbghaaGreatLM28
set_option linter.unusedVariables false
set_option linter.unusedSimpArgs false
set_option linter.unusedSectionVars false
namespace Go.Rv
theorem aco(l:List I4)(A:List (Int×Unit)):pr l A=(List.range A.length).map fun j=>((g4 l j).1,fI A j,()):=by
 apply List.ext_getElem
 ·simp[pr]
 ·intro i h1 h2
  have hi:i<A.length:=by simpa [pr]using h1
  simp[pr,fI,List.getD_eq_getElem?_getD,hi]
theorem SI(n:Int):zn (n,())=some (bb (1≤n∧n≤1000),()):=by simp only[zn,QN.T];grind [=fD]
theorem ab6(n:Int):Dj (n,())=some (bb (oG n),()):=by simp only[Dj,Rz.T,oG];grind [=fD]
theorem adF(n:Int):DC (n,())=some (bb (oG n),()):=by simp only[DC,SB.T,yC,Option.bind_some,oG]
def nJ(x:I3):Prop:=iw x.1∧dO x.2.1∧oG x.2.2.1
theorem TG(a b c:Int):zG (a,b,c,())=some (bb (nJ (a,b,c,())),()):=by
 simp only[zG,Ri.T,Eu,xw,ab6,Option.bind_some,nJ];grind [=fD]
theorem acT(a b c:Int):BZ (a,b,c,())=some (bb (nJ (a,b,c,())),()):=by
 simp only[BZ,PN.T,Oe,Ew,adF,Option.bind_some,nJ];grind [=fD]
def yL(l:List I3)(i:Nat):Prop:=nJ (g3 l i)∧(0<i→(g3 l (i - 1)).1<(g3 l i).1)
def kS(l:List I3):Prop:=l.length≤60∧∀ i,i<l.length→yL l i
theorem DN(l:List I3)(hl:l.length≤1048576):wu (l,())=some (bb (kS l),()):=by
 show kM.FF (300+l.length) l=_
 simp only[kM.FF,kM.T]
 have e:∀ k0,kM.G0 k0 (fun t=>kM.A0 l t) (fun _=>kM.A1 l ()) (300+l.length) l 0=some (bb (∀ j,j<l.length→yL l j),()):=by
  intro k0
  refine A7 (g:=fun k i=>kM.G0 k0 (fun t=>kM.A0 l t) (fun _=>kM.A1 l ()) k l (i:Nat)) (fun k i hi _=> ?_) (fun _ k=> ?_) _ (by omega)
  ·have hw:af ((i:Int)+1)=((i+1:Nat):Int):=aJ _ (by omega)
   simp only[kM.G0,kM.R0,kM.A0,bZ,TG,Option.bind_some,hw]
   have hd:decide (i<(l.length:Int))=true:=decide_eq_true (by omega)
   unfold yL
   by_cases h0:0<i
   ·have hw':af ((i:Int) - 1)=((i - 1:Nat):Int):=(aJ _ (by omega)).trans (by omega)
    rw[hw']
    simp only[bZ]
    grind [=fD]
   ·have:i=0:=by omega
    subst this
    grind [=fD]
  ·simp only[kM.G0,kM.R0]
   rw[decide_eq_false (by omega),cond_false];rfl
 rw[e]
 unfold kS
 grind [=fD]
theorem abv(l:List I3)(hl:l.length≤1048576):IW (l,())=some (bb (kS l),()):=by
 show jY.FF (300+l.length) l=_
 simp only[jY.FF,jY.T]
 have e:∀ k0,jY.G0 k0 (fun l2 t=>jY.A0 l l2 t) (fun l2=>jY.A1 l l2) (300+l.length) l l l.length 0=some (bb ((∀ j,j<l.length→yL l j)∧l.length≤60),()):=by
  intro k0
  refine EO (g:=fun k i=>jY.G0 k0 (fun l2 t=>jY.A0 l l2 t) (fun l2=>jY.A1 l l2) k l l l.length (i:Nat)) (fun k i hi _=> ?_) (fun _ k=> ?_) _ (by omega)
  ·have hw:af ((i:Int)+1)=((i+1:Nat):Int):=aJ _ (by omega)
   simp only[jY.G0,jY.R0,jY.A0,bZ,acT,Option.bind_some,hw]
   have hd:decide (i<(l.length:Int))=true:=decide_eq_true (by omega)
   unfold yL
   by_cases h0:0<i
   ·have hw':af ((i:Int) - 1)=((i - 1:Nat):Int):=(aJ _ (by omega)).trans (by omega)
    rw[hw']
    simp only[bZ]
    grind [=fD]
   ·have:i=0:=by omega
    subst this
    grind [=fD]
  ·simp only[jY.G0,jY.R0,jY.A1]
   grind [=fD]
 rw[e]
 unfold kS
 congr 2
 exact lI And.comm
def BD(s0 s2:Int)(m:List I4)(l:List I3)(i:Nat):Prop:=(g3 l i).1=(g4 m i).1∧s2<(g3 l i).2.2.1∧(g3 l i).2.2.1≤s2+s0
def ou(s0 s1 s2 s3:Int)(s4 s5:List I4)(s6:List I3):Prop:=
 (1≤s0∧s0≤1000)∧0≤s1∧s1≤s2∧s2≤999000∧kY s3 s4 s5∧kS s6∧s6.length=s5.length∧∀ i,i<s6.length→BD s0 s2 s5 s6 i
theorem wZ(s0 s1 s2 s3:Int)(s4 s5:List I4)(s6:List I3)(h4:s4.length≤1048576)(h5:s5.length≤1048576)(h6:s6.length≤1048576):zk (s0,s1,s2,s3,s4,s5,s6,())=some (bb (ou s0 s1 s2 s3 s4 s5 s6),()):=by
 show kL.FF (300+s4.length+s5.length+s6.length) s0 s1 s2 s3 s4 s5 s6=_
 simp only[kL.FF,kL.T,SI,uP s3 s4 s5 h4 h5,DN s6 h6,Option.bind_some]
 by_cases h:1≤s0∧s0≤1000∧0≤s2∧s2≤999000∧s6.length=s5.length
 ·have e:∀ k0,kL.G0 k0 (fun t=>kL.A0 s0 s1 s2 s3 s4 s5 s6 t) (fun _=>kL.A1 s0 s1 s2 s3 s4 s5 s6 ()) (300+s4.length+s5.length+s6.length) 0 s0 s1 s2 s3 s4 s5 s6=some (bb (∀ j,j<s6.length→BD s0 s2 s5 s6 j),()):=by
   intro k0
   refine A7 (g:=fun k i=>kL.G0 k0 (fun t=>kL.A0 s0 s1 s2 s3 s4 s5 s6 t) (fun _=>kL.A1 s0 s1 s2 s3 s4 s5 s6 ()) k (i:Nat) s0 s1 s2 s3 s4 s5 s6) (fun k i hi _=> ?_) (fun _ k=> ?_) _ (by omega)
   ·have hw:af ((i:Int)+1)=((i+1:Nat):Int):=aJ _ (by omega)
    have hw2:af (s2+s0)=s2+s0:=aJ _ (by omega)
    simp only[kL.G0,kL.R0,kL.A0,bZ,hw,hw2]
    have hd:decide (i<(s6.length:Int))=true:=decide_eq_true (by omega)
    unfold BD
    grind [=fD]
   ·simp only[kL.G0,kL.R0]
    rw[decide_eq_false (by omega),cond_false];rfl
  rw[e]
  unfold ou
  grind [=fD]
 ·unfold ou
  grind [=fD]
theorem DX(s0 s1 s2 s3:Int)(s4 s5:List I4)(s6:List I3)(h4:s4.length≤1048576)(h5:s5.length≤1048576)(h6:s6.length≤1048576):IV (s0,s1,s2,s3,s4,s5,s6,())=some (bb (ou s0 s1 s2 s3 s4 s5 s6),()):=by
 show kN.FF (300+s4.length+s5.length+s6.length) s0 s1 s2 s3 s4 s5 s6=_
 simp only[kN.FF,kN.T,yC,acB s3 s4 s5 h4 h5,abv s6 h6,Option.bind_some]
 by_cases h:1≤s0∧s0≤1000∧0≤s2∧s2≤999000∧s6.length=s5.length
 ·have e:∀ k0,kN.G0 k0 (fun t=>kN.A0 s0 s1 s2 s3 s4 s5 s6 t) (fun _=>kN.A1 s0 s1 s2 s3 s4 s5 s6 ()) (300+s4.length+s5.length+s6.length) s6 s6.length 0 s0 s1 s2 s3 s4 s5 s6=some (bb (∀ j,j<s6.length→BD s0 s2 s5 s6 j),()):=by
   intro k0
   refine A7 (g:=fun k i=>kN.G0 k0 (fun t=>kN.A0 s0 s1 s2 s3 s4 s5 s6 t) (fun _=>kN.A1 s0 s1 s2 s3 s4 s5 s6 ()) k s6 s6.length (i:Nat) s0 s1 s2 s3 s4 s5 s6) (fun k i hi _=> ?_) (fun _ k=> ?_) _ (by omega)
   ·have hw:af ((i:Int)+1)=((i+1:Nat):Int):=aJ _ (by omega)
    have hw2:af (s2+s0)=s2+s0:=aJ _ (by omega)
    have hw3:af (s2+1)=s2+1:=aJ _ (by omega)
    simp only[kN.G0,kN.R0,kN.A0,bZ,hw,hw2,hw3,yC,Option.bind_some]
    have hd:decide (i<(s6.length:Int))=true:=decide_eq_true (by omega)
    unfold BD
    grind [=fD]
   ·simp only[kN.G0,kN.R0]
    rw[decide_eq_false (by omega),cond_false];rfl
  rw[e]
  unfold ou
  grind [=fD]
 ·unfold ou
  grind [=fD]
noncomputable def qE(l:List I3)(now id:Int)(i:Nat):Int:=if(g3 l i).2.2.1>now then(if(g3 l i).1=id then 0 else(g3 l i).2.1)else 0
noncomputable def eF(l:List I3)(now id:Int)(n:Nat):Int:=sumTo n (qE l now id)
theorem Le{l:List I3}(h:kS l)(now id:Int)(i:Nat)(hi:i<l.length):0≤qE l now id i∧qE l now id i≤1125899906842624:=by
 have:=(h.2 i hi).1
 unfold nJ dO at this
 unfold qE
 repeat' split
 all_goals omega
theorem Aa{l:List I3}(h:kS l)(now id:Int)(n:Nat)(hn:n≤l.length):0≤eF l now id n∧eF l now id n≤67553994410557440:=by
 have h1:=lZ 1125899906842624 (qE l now id) n fun q hq=>Le h now id q (by omega)
 have h2:=h.1
 unfold eF
 omega
theorem abj(l:List I3)(h:kS l)(now id:Int):IU (l,now,id,())=some (eF l now id l.length,()):=by
 have hl:=h.1
 show mP.FF (300+l.length) l now id=_
 rw[mP.FF,mP.T,DN l (by omega),dD h,Option.bind_some,Bool.not_true,cond_false]
 refine run 0 l.length (fun k i=>mP.G0 (300+l.length) (mP.A0 l now id) k l now id (eF l now id i) (i:Nat)) _ (fun k i _ hi=> ?_) (fun k=> ?_) _ (by omega) (by omega)
 ·have hb:=Aa h now id i (by omega)
  have ht:=Le h now id i hi
  have hw:af ((i:Int)+1)=((i+1:Nat):Int):=aJ _ (by omega)
  have e:eF l now id (i+1)=eF l now id i+qE l now id i:=rfl
  show mP.G0 _ _ (k+1) l now id (eF l now id i) (i:Nat)=mP.G0 _ _ k l now id (eF l now id (i+1)) ((i+1:Nat):Int)
  have hc:(0:Int)≤(i:Int)∧(i:Int)<(l.length:Int):=by omega
  simp only[mP.G0,mP.R0,bZ,hw,if_pos hc,decide_eq_true hc.2,cond_true]
  rw[e]
  unfold qE at ht ⊢
  by_cases c1:(g3 l i).2.2.1>now
  ·rw[if_pos c1]at ht ⊢
   rw[decide_eq_true c1,cond_true]
   by_cases c2:(g3 l i).1=id
   ·rw[if_pos c2,show((l.getD i (0,0,0,())).1 != id)=false by rw[show(l.getD i (0,0,0,())).1=id from c2];exact bne_self_eq_false _,cond_false,Int.add_zero]
   ·rw[if_neg c2]at ht ⊢
    rw[show((l.getD i (0,0,0,())).1 != id)=true from bne_iff_ne.2 c2,cond_true,show(l.getD i (0,0,0,())).2.1=(g3 l i).2.1 from rfl,aJ _ (by omega)]
  ·rw[if_neg c1,decide_eq_false c1,cond_false,Int.add_zero]
 ·simp only[mP.G0,mP.R0]
  rw[decide_eq_false (by omega),cond_false]
  rfl
theorem TA(l:List I3)(h:kS l)(now id:Int):wS (l,now,id,())=some (eF l now id l.length,()):=by
 have hl:=h.1
 show ng.FF (300+l.length) l now id=_
 rw[ng.FF,ng.T]
 refine run 0 l.length (fun k i=>ng.G0 (300+l.length) (ng.A0 l now id) k now id (eF l now id i) l (l.length:Int) (i:Nat)) _ (fun k i _ hi=> ?_) (fun k=> ?_) _ (by omega) (by omega)
 ·have hb:=Aa h now id i (by omega)
  have ht:=Le h now id i hi
  have hw:af ((i:Int)+1)=((i+1:Nat):Int):=aJ _ (by omega)
  have e:eF l now id (i+1)=eF l now id i+qE l now id i:=rfl
  show ng.G0 _ _ (k+1) now id (eF l now id i) l _ (i:Nat)=ng.G0 _ _ k now id (eF l now id (i+1)) l _ ((i+1:Nat):Int)
  have hc:(0:Int)≤(i:Int)∧(i:Int)<(l.length:Int):=by omega
  simp only[ng.G0,ng.R0,bZ,hw,if_pos hc,decide_eq_true hc.2,cond_true]
  rw[e]
  unfold qE at ht ⊢
  by_cases c1:(g3 l i).2.2.1>now
  ·rw[if_pos c1]at ht ⊢
   rw[decide_eq_true c1,cond_true]
   by_cases c2:(g3 l i).1=id
   ·rw[if_pos c2,show((l.getD i (0,0,0,())).1 != id)=false by rw[show(l.getD i (0,0,0,())).1=id from c2];exact bne_self_eq_false _,cond_false,Int.add_zero]
   ·rw[if_neg c2]at ht ⊢
    rw[show((l.getD i (0,0,0,())).1 != id)=true from bne_iff_ne.2 c2,cond_true,show(l.getD i (0,0,0,())).2.1=(g3 l i).2.1 from rfl,aJ _ (by omega)]
  ·rw[if_neg c1,decide_eq_false c1,cond_false,Int.add_zero]
 ·simp only[ng.G0,ng.R0]
  rw[decide_eq_false (by omega),cond_false]
  rfl
end Go.Rv
