/- Plain facts: FarmShares-law-both, server, lea. -/
import Derived.Test.YtmgahpicfjpjaaaGreatSM28
set_option linter.unusedVariables false
set_option linter.unusedSimpArgs false
set_option linter.unusedSectionVars false
namespace Go.Rv
theorem aef(l:List I4)(A:List (Int×Unit)):pr l A=(List.range A.length).map fun j=>((g4 l j).1,fI A j,()):=by
 apply List.ext_getElem
 ·simp[pr]
 ·intro i h1 h2
  have hi:i<A.length:=by simpa [pr]using h1
  simp[pr,fI,List.getD_eq_getElem?_getD,hi]
theorem ac0(n:Int):Dc (n,())=some (bb (1≤n∧n≤1000),()):=by simp only[Dc,RD.T];grind [=dN]
theorem adU(n:Int):DC (n,())=some (bb (ou n),()):=by simp only[DC,SX.T,ou];grind [=dN]
theorem afx(n:Int):D8 (n,())=some (bb (ou n),()):=by simp only[D8,TU.T,yx,Option.bind_some,ou]
def nI(x:I3):Prop:=gU x.1∧dL x.2.1∧ou x.2.2.1
theorem UB(a b c:Int):zG (a,b,c,())=some (bb (nI (a,b,c,())),()):=by
 simp only[zG,Sj.T,EP,xg,adU,Option.bind_some,nI];grind [=dN]
theorem aeN(a b c:Int):Cm (a,b,c,())=some (bb (nI (a,b,c,())),()):=by
 simp only[Cm,Qy.T,O9,EQ,afx,Option.bind_some,nI];grind [=dN]
def yI(l:List I3)(i:Nat):Prop:=nI (g3 l i)∧(0<i→(g3 l (i - 1)).1<(g3 l i).1)
def kJ(l:List I3):Prop:=l.length≤60∧∀ i,i<l.length→yI l i
theorem Ee(l:List I3)(hl:l.length≤1048576):vX (l,())=some (bb (kJ l),()):=by
 show kC.FF (300+l.length) l=_
 simp only[kC.FF,kC.T]
 have e:∀ k0,kC.G0 k0 (fun t=>kC.A0 l t) (fun _=>kC.A1 l ()) (300+l.length) l 0=some (bb (∀ j,j<l.length→yI l j),()):=by
  intro k0
  refine rX (g:=fun k i=>kC.G0 k0 (fun t=>kC.A0 l t) (fun _=>kC.A1 l ()) k l (i:Nat)) (fun k i hi _=> ?_) (fun _ k=> ?_) _ (by omega)
  ·have hw:af ((i:Int)+1)=((i+1:Nat):Int):=aH _ (by omega)
   simp only[kC.G0,kC.R0,kC.A0,bP,UB,Option.bind_some,hw]
   have hd:decide (i<(l.length:Int))=true:=decide_eq_true (by omega)
   unfold yI
   by_cases h0:0<i
   ·have hw':af ((i:Int) - 1)=((i - 1:Nat):Int):=(aH _ (by omega)).trans (by omega)
    rw[hw']
    simp only[bP]
    grind [=dN]
   ·have:i=0:=by omega
    subst this
    grind [=dN]
  ·simp only[kC.G0,kC.R0]
   rw[decide_eq_false (by omega),cond_false];rfl
 rw[e]
 unfold kJ
 grind [=dN]
theorem adf(l:List I3)(hl:l.length≤1048576):Js (l,())=some (bb (kJ l),()):=by
 show jR.FF (300+l.length) l=_
 simp only[jR.FF,jR.T]
 have e:∀ k0,jR.G0 k0 (fun l2 t=>jR.A0 l l2 t) (fun l2=>jR.A1 l l2) (300+l.length) l l l.length 0=some (bb ((∀ j,j<l.length→yI l j)∧l.length≤60),()):=by
  intro k0
  refine Ff (g:=fun k i=>jR.G0 k0 (fun l2 t=>jR.A0 l l2 t) (fun l2=>jR.A1 l l2) k l l l.length (i:Nat)) (fun k i hi _=> ?_) (fun _ k=> ?_) _ (by omega)
  ·have hw:af ((i:Int)+1)=((i+1:Nat):Int):=aH _ (by omega)
   simp only[jR.G0,jR.R0,jR.A0,bP,aeN,Option.bind_some,hw]
   have hd:decide (i<(l.length:Int))=true:=decide_eq_true (by omega)
   unfold yI
   by_cases h0:0<i
   ·have hw':af ((i:Int) - 1)=((i - 1:Nat):Int):=(aH _ (by omega)).trans (by omega)
    rw[hw']
    simp only[bP]
    grind [=dN]
   ·have:i=0:=by omega
    subst this
    grind [=dN]
  ·simp only[jR.G0,jR.R0,jR.A1]
   grind [=dN]
 rw[e]
 unfold kJ
 congr 2
 exact lq And.comm
def BJ(s0 s2:Int)(m:List I4)(l:List I3)(i:Nat):Prop:=(g3 l i).1=(g4 m i).1∧s2<(g3 l i).2.2.1∧(g3 l i).2.2.1≤s2+s0
def qo(s0 s1 s2 s3:Int)(s4 s5:List I4)(s6:List I3):Prop:=
 (1≤s0∧s0≤1000)∧0≤s1∧s1≤s2∧s2≤999000∧kP s3 s4 s5∧kJ s6∧s6.length=s5.length∧∀ i,i<s6.length→BJ s0 s2 s5 s6 i
theorem MK(s0 s1 s2 s3:Int)(s4 s5:List I4)(s6:List I3)(h4:s4.length≤1048576)(h5:s5.length≤1048576)(h6:s6.length≤1048576):Jm (s0,s1,s2,s3,s4,s5,s6,())=some (bb (qo s0 s1 s2 s3 s4 s5 s6),()):=by
 show kz.FF (300+s4.length+s5.length+s6.length) s0 s1 s2 s3 s4 s5 s6=_
 simp only[kz.FF,kz.T,ac0,uQ s3 s4 s5 h4 h5,Ee s6 h6,Option.bind_some]
 by_cases h:1≤s0∧s0≤1000∧0≤s2∧s2≤999000∧s6.length=s5.length
 ·have e:∀ k0,kz.G0 k0 (fun t=>kz.A0 s0 s1 s2 s3 s4 s5 s6 t) (fun _=>kz.A1 s0 s1 s2 s3 s4 s5 s6 ()) (300+s4.length+s5.length+s6.length) 0 s0 s1 s2 s3 s4 s5 s6=some (bb (∀ j,j<s6.length→BJ s0 s2 s5 s6 j),()):=by
   intro k0
   refine rX (g:=fun k i=>kz.G0 k0 (fun t=>kz.A0 s0 s1 s2 s3 s4 s5 s6 t) (fun _=>kz.A1 s0 s1 s2 s3 s4 s5 s6 ()) k (i:Nat) s0 s1 s2 s3 s4 s5 s6) (fun k i hi _=> ?_) (fun _ k=> ?_) _ (by omega)
   ·have hw:af ((i:Int)+1)=((i+1:Nat):Int):=aH _ (by omega)
    have hw2:af (s2+s0)=s2+s0:=aH _ (by omega)
    simp only[kz.G0,kz.R0,kz.A0,bP,hw,hw2]
    have hd:decide (i<(s6.length:Int))=true:=decide_eq_true (by omega)
    unfold BJ
    grind [=dN]
   ·simp only[kz.G0,kz.R0]
    rw[decide_eq_false (by omega),cond_false];rfl
  rw[e]
  unfold qo
  grind [=dN]
 ·unfold qo
  grind [=dN]
theorem MW(s0 s1 s2 s3:Int)(s4 s5:List I4)(s6:List I3)(h4:s4.length≤1048576)(h5:s5.length≤1048576)(h6:s6.length≤1048576):Jr (s0,s1,s2,s3,s4,s5,s6,())=some (bb (qo s0 s1 s2 s3 s4 s5 s6),()):=by
 show kD.FF (300+s4.length+s5.length+s6.length) s0 s1 s2 s3 s4 s5 s6=_
 simp only[kD.FF,kD.T,yx,aes s3 s4 s5 h4 h5,adf s6 h6,Option.bind_some]
 by_cases h:1≤s0∧s0≤1000∧0≤s2∧s2≤999000∧s6.length=s5.length
 ·have e:∀ k0,kD.G0 k0 (fun t=>kD.A0 s0 s1 s2 s3 s4 s5 s6 t) (fun _=>kD.A1 s0 s1 s2 s3 s4 s5 s6 ()) (300+s4.length+s5.length+s6.length) s6 s6.length 0 s0 s1 s2 s3 s4 s5 s6=some (bb (∀ j,j<s6.length→BJ s0 s2 s5 s6 j),()):=by
   intro k0
   refine rX (g:=fun k i=>kD.G0 k0 (fun t=>kD.A0 s0 s1 s2 s3 s4 s5 s6 t) (fun _=>kD.A1 s0 s1 s2 s3 s4 s5 s6 ()) k s6 s6.length (i:Nat) s0 s1 s2 s3 s4 s5 s6) (fun k i hi _=> ?_) (fun _ k=> ?_) _ (by omega)
   ·have hw:af ((i:Int)+1)=((i+1:Nat):Int):=aH _ (by omega)
    have hw2:af (s2+s0)=s2+s0:=aH _ (by omega)
    have hw3:af (s2+1)=s2+1:=aH _ (by omega)
    simp only[kD.G0,kD.R0,kD.A0,bP,hw,hw2,hw3,yx,Option.bind_some]
    have hd:decide (i<(s6.length:Int))=true:=decide_eq_true (by omega)
    unfold BJ
    grind [=dN]
   ·simp only[kD.G0,kD.R0]
    rw[decide_eq_false (by omega),cond_false];rfl
  rw[e]
  unfold qo
  grind [=dN]
 ·unfold qo
  grind [=dN]
noncomputable def qA(l:List I3)(now id:Int)(i:Nat):Int:=if(g3 l i).2.2.1>now then(if(g3 l i).1=id then 0 else(g3 l i).2.1)else 0
noncomputable def dY(l:List I3)(now id:Int)(n:Nat):Int:=sumTo n (qA l now id)
theorem MR{l:List I3}(h:kJ l)(now id:Int)(i:Nat)(hi:i<l.length):0≤qA l now id i∧qA l now id i≤1125899906842624:=by
 have:=(h.2 i hi).1
 unfold nI dL at this
 unfold qA
 repeat' split
 all_goals omega
theorem Ag{l:List I3}(h:kJ l)(now id:Int)(n:Nat)(hn:n≤l.length):0≤dY l now id n∧dY l now id n≤67553994410557440:=by
 have h1:=lT 1125899906842624 (qA l now id) n fun q hq=>MR h now id q (by omega)
 have h2:=h.1
 unfold dY
 omega
theorem ac2(l:List I3)(h:kJ l)(now id:Int):Jo (l,now,id,())=some (dY l now id l.length,()):=by
 have hl:=h.1
 show mr.FF (300+l.length) l now id=_
 rw[mr.FF,mr.T,Ee l (by omega),dF h,Option.bind_some,Bool.not_true,cond_false]
 refine run 0 l.length (fun k i=>mr.G0 (300+l.length) (mr.A0 l now id) k l now id (dY l now id i) (i:Nat)) _ (fun k i _ hi=> ?_) (fun k=> ?_) _ (by omega) (by omega)
 ·have hb:=Ag h now id i (by omega)
  have ht:=MR h now id i hi
  have hw:af ((i:Int)+1)=((i+1:Nat):Int):=aH _ (by omega)
  have e:dY l now id (i+1)=dY l now id i+qA l now id i:=rfl
  show mr.G0 _ _ (k+1) l now id (dY l now id i) (i:Nat)=mr.G0 _ _ k l now id (dY l now id (i+1)) ((i+1:Nat):Int)
  have hc:(0:Int)≤(i:Int)∧(i:Int)<(l.length:Int):=by omega
  simp only[mr.G0,mr.R0,bP,hw,if_pos hc,decide_eq_true hc.2,cond_true]
  rw[e]
  unfold qA at ht ⊢
  by_cases c1:(g3 l i).2.2.1>now
  ·rw[if_pos c1]at ht ⊢
   rw[decide_eq_true c1,cond_true]
   by_cases c2:(g3 l i).1=id
   ·rw[if_pos c2,show((l.getD i (0,0,0,())).1 != id)=false by rw[show(l.getD i (0,0,0,())).1=id from c2];exact bne_self_eq_false _,cond_false,Int.add_zero]
   ·rw[if_neg c2]at ht ⊢
    rw[show((l.getD i (0,0,0,())).1 != id)=true from bne_iff_ne.2 c2,cond_true,show(l.getD i (0,0,0,())).2.1=(g3 l i).2.1 from rfl,aH _ (by omega)]
  ·rw[if_neg c1,decide_eq_false c1,cond_false,Int.add_zero]
 ·simp only[mr.G0,mr.R0]
  rw[decide_eq_false (by omega),cond_false]
  rfl
theorem Ux(l:List I3)(h:kJ l)(now id:Int):wO (l,now,id,())=some (dY l now id l.length,()):=by
 have hl:=h.1
 show mZ.FF (300+l.length) l now id=_
 rw[mZ.FF,mZ.T]
 refine run 0 l.length (fun k i=>mZ.G0 (300+l.length) (mZ.A0 l now id) k now id (dY l now id i) l (l.length:Int) (i:Nat)) _ (fun k i _ hi=> ?_) (fun k=> ?_) _ (by omega) (by omega)
 ·have hb:=Ag h now id i (by omega)
  have ht:=MR h now id i hi
  have hw:af ((i:Int)+1)=((i+1:Nat):Int):=aH _ (by omega)
  have e:dY l now id (i+1)=dY l now id i+qA l now id i:=rfl
  show mZ.G0 _ _ (k+1) now id (dY l now id i) l _ (i:Nat)=mZ.G0 _ _ k now id (dY l now id (i+1)) l _ ((i+1:Nat):Int)
  have hc:(0:Int)≤(i:Int)∧(i:Int)<(l.length:Int):=by omega
  simp only[mZ.G0,mZ.R0,bP,hw,if_pos hc,decide_eq_true hc.2,cond_true]
  rw[e]
  unfold qA at ht ⊢
  by_cases c1:(g3 l i).2.2.1>now
  ·rw[if_pos c1]at ht ⊢
   rw[decide_eq_true c1,cond_true]
   by_cases c2:(g3 l i).1=id
   ·rw[if_pos c2,show((l.getD i (0,0,0,())).1 != id)=false by rw[show(l.getD i (0,0,0,())).1=id from c2];exact bne_self_eq_false _,cond_false,Int.add_zero]
   ·rw[if_neg c2]at ht ⊢
    rw[show((l.getD i (0,0,0,())).1 != id)=true from bne_iff_ne.2 c2,cond_true,show(l.getD i (0,0,0,())).2.1=(g3 l i).2.1 from rfl,aH _ (by omega)]
  ·rw[if_neg c1,decide_eq_false c1,cond_false,Int.add_zero]
 ·simp only[mZ.G0,mZ.R0]
  rw[decide_eq_false (by omega),cond_false]
  rfl
end Go.Rv
