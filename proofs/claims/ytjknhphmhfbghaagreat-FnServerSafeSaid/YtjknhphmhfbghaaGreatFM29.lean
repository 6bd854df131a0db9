/- Plain facts: FarmShares-law-both, server, lea. -/
import Derived.Test.YtjknhphmhfbghaaGreatFM28
set_option linter.unusedVariables false
set_option linter.unusedSimpArgs false
set_option linter.unusedSectionVars false
namespace Go.Rv
theorem ac3(l:List I4)(A:List (Int×Unit)):pr l A=(List.range A.length).map fun j=>((g4 l j).1,fI A j,()):=by
 apply List.ext_getElem
 ·simp[pr]
 ·intro i h1 h2
  have hi:i<A.length:=by simpa [pr]using h1
  simp[pr,fI,List.getD_eq_getElem?_getD,hi]
theorem TM(n:Int):zI (n,())=some (bb (1≤n∧n≤1000),()):=by simp only[zI,Ry.T];grind [=fG]
theorem acN(n:Int):DC (n,())=some (bb (oL n),()):=by simp only[DC,SK.T,oL];grind [=fG]
theorem aen(n:Int):DY (n,())=some (bb (oL n),()):=by simp only[DY,TG.T,yL,Option.bind_some,oL]
def nO(x:I3):Prop:=iG x.1∧dP x.2.1∧oL x.2.2.1
theorem Ur(a b c:Int):zV (a,b,c,())=some (bb (nO (a,b,c,())),()):=by
 simp only[zV,Sj.T,EM,xJ,acN,Option.bind_some,nO];grind [=fG]
theorem ady(a b c:Int):CQ (a,b,c,())=some (bb (nO (a,b,c,())),()):=by
 simp only[CQ,Qp.T,OM,EN,aen,Option.bind_some,nO];grind [=fG]
def yV(l:List I3)(i:Nat):Prop:=nO (g3 l i)∧(0<i→(g3 l (i - 1)).1<(g3 l i).1)
def kZ(l:List I3):Prop:=l.length≤60∧∀ i,i<l.length→yV l i
theorem Ea(l:List I3)(hl:l.length≤1048576):wI (l,())=some (bb (kZ l),()):=by
 show kT.FF (300+l.length) l=_
 simp only[kT.FF,kT.T]
 have e:∀ k0,kT.G0 k0 (fun t=>kT.A0 l t) (fun _=>kT.A1 l ()) (300+l.length) l 0=some (bb (∀ j,j<l.length→yV l j),()):=by
  intro k0
  refine Bz (g:=fun k i=>kT.G0 k0 (fun t=>kT.A0 l t) (fun _=>kT.A1 l ()) k l (i:Nat)) (fun k i hi _=> ?_) (fun _ k=> ?_) _ (by omega)
  ·have hw:af ((i:Int)+1)=((i+1:Nat):Int):=aI _ (by omega)
   simp only[kT.G0,kT.R0,kT.A0,bZ,Ur,Option.bind_some,hw]
   have hd:decide (i<(l.length:Int))=true:=decide_eq_true (by omega)
   unfold yV
   by_cases h0:0<i
   ·have hw':af ((i:Int) - 1)=((i - 1:Nat):Int):=(aI _ (by omega)).trans (by omega)
    rw[hw']
    simp only[bZ]
    grind [=fG]
   ·have:i=0:=by omega
    subst this
    grind [=fG]
  ·simp only[kT.G0,kT.R0]
   rw[decide_eq_false (by omega),cond_false];rfl
 rw[e]
 unfold kZ
 grind [=fG]
theorem ab4(l:List I3)(hl:l.length≤1048576):Jq (l,())=some (bb (kZ l),()):=by
 show kD.FF (300+l.length) l=_
 simp only[kD.FF,kD.T]
 have e:∀ k0,kD.G0 k0 (fun l2 t=>kD.A0 l l2 t) (fun l2=>kD.A1 l l2) (300+l.length) l l l.length 0=some (bb ((∀ j,j<l.length→yV l j)∧l.length≤60),()):=by
  intro k0
  refine Fa (g:=fun k i=>kD.G0 k0 (fun l2 t=>kD.A0 l l2 t) (fun l2=>kD.A1 l l2) k l l l.length (i:Nat)) (fun k i hi _=> ?_) (fun _ k=> ?_) _ (by omega)
  ·have hw:af ((i:Int)+1)=((i+1:Nat):Int):=aI _ (by omega)
   simp only[kD.G0,kD.R0,kD.A0,bZ,ady,Option.bind_some,hw]
   have hd:decide (i<(l.length:Int))=true:=decide_eq_true (by omega)
   unfold yV
   by_cases h0:0<i
   ·have hw':af ((i:Int) - 1)=((i - 1:Nat):Int):=(aI _ (by omega)).trans (by omega)
    rw[hw']
    simp only[bZ]
    grind [=fG]
   ·have:i=0:=by omega
    subst this
    grind [=fG]
  ·simp only[kD.G0,kD.R0,kD.A1]
   grind [=fG]
 rw[e]
 unfold kZ
 congr 2
 exact lQ And.comm
def BR(s0 s2:Int)(m:List I4)(l:List I3)(i:Nat):Prop:=(g3 l i).1=(g4 m i).1∧s2<(g3 l i).2.2.1∧(g3 l i).2.2.1≤s2+s0
def oG(s0 s1 s2 s3:Int)(s4 s5:List I4)(s6:List I3):Prop:=
 (1≤s0∧s0≤1000)∧0≤s1∧s1≤s2∧s2≤999000∧lD s3 s4 s5∧kZ s6∧s6.length=s5.length∧∀ i,i<s6.length→BR s0 s2 s5 s6 i
theorem xw(s0 s1 s2 s3:Int)(s4 s5:List I4)(s6:List I3)(h4:s4.length≤1048576)(h5:s5.length≤1048576)(h6:s6.length≤1048576):zG (s0,s1,s2,s3,s4,s5,s6,())=some (bb (oG s0 s1 s2 s3 s4 s5 s6),()):=by
 show kS.FF (300+s4.length+s5.length+s6.length) s0 s1 s2 s3 s4 s5 s6=_
 simp only[kS.FF,kS.T,TM,vg s3 s4 s5 h4 h5,Ea s6 h6,Option.bind_some]
 by_cases h:1≤s0∧s0≤1000∧0≤s2∧s2≤999000∧s6.length=s5.length
 ·have e:∀ k0,kS.G0 k0 (fun t=>kS.A0 s0 s1 s2 s3 s4 s5 s6 t) (fun _=>kS.A1 s0 s1 s2 s3 s4 s5 s6 ()) (300+s4.length+s5.length+s6.length) 0 s0 s1 s2 s3 s4 s5 s6=some (bb (∀ j,j<s6.length→BR s0 s2 s5 s6 j),()):=by
   intro k0
   refine Bz (g:=fun k i=>kS.G0 k0 (fun t=>kS.A0 s0 s1 s2 s3 s4 s5 s6 t) (fun _=>kS.A1 s0 s1 s2 s3 s4 s5 s6 ()) k (i:Nat) s0 s1 s2 s3 s4 s5 s6) (fun k i hi _=> ?_) (fun _ k=> ?_) _ (by omega)
   ·have hw:af ((i:Int)+1)=((i+1:Nat):Int):=aI _ (by omega)
    have hw2:af (s2+s0)=s2+s0:=aI _ (by omega)
    simp only[kS.G0,kS.R0,kS.A0,bZ,hw,hw2]
    have hd:decide (i<(s6.length:Int))=true:=decide_eq_true (by omega)
    unfold BR
    grind [=fG]
   ·simp only[kS.G0,kS.R0]
    rw[decide_eq_false (by omega),cond_false];rfl
  rw[e]
  unfold oG
  grind [=fG]
 ·unfold oG
  grind [=fG]
theorem xB(s0 s1 s2 s3:Int)(s4 s5:List I4)(s6:List I3)(h4:s4.length≤1048576)(h5:s5.length≤1048576)(h6:s6.length≤1048576):CX (s0,s1,s2,s3,s4,s5,s6,())=some (bb (oG s0 s1 s2 s3 s4 s5 s6),()):=by
 show kU.FF (300+s4.length+s5.length+s6.length) s0 s1 s2 s3 s4 s5 s6=_
 simp only[kU.FF,kU.T,yL,adg s3 s4 s5 h4 h5,ab4 s6 h6,Option.bind_some]
 by_cases h:1≤s0∧s0≤1000∧0≤s2∧s2≤999000∧s6.length=s5.length
 ·have e:∀ k0,kU.G0 k0 (fun t=>kU.A0 s0 s1 s2 s3 s4 s5 s6 t) (fun _=>kU.A1 s0 s1 s2 s3 s4 s5 s6 ()) (300+s4.length+s5.length+s6.length) s6 s6.length 0 s0 s1 s2 s3 s4 s5 s6=some (bb (∀ j,j<s6.length→BR s0 s2 s5 s6 j),()):=by
   intro k0
   refine Bz (g:=fun k i=>kU.G0 k0 (fun t=>kU.A0 s0 s1 s2 s3 s4 s5 s6 t) (fun _=>kU.A1 s0 s1 s2 s3 s4 s5 s6 ()) k s6 s6.length (i:Nat) s0 s1 s2 s3 s4 s5 s6) (fun k i hi _=> ?_) (fun _ k=> ?_) _ (by omega)
   ·have hw:af ((i:Int)+1)=((i+1:Nat):Int):=aI _ (by omega)
    have hw2:af (s2+s0)=s2+s0:=aI _ (by omega)
    have hw3:af (s2+1)=s2+1:=aI _ (by omega)
    simp only[kU.G0,kU.R0,kU.A0,bZ,hw,hw2,hw3,yL,Option.bind_some]
    have hd:decide (i<(s6.length:Int))=true:=decide_eq_true (by omega)
    unfold BR
    grind [=fG]
   ·simp only[kU.G0,kU.R0]
    rw[decide_eq_false (by omega),cond_false];rfl
  rw[e]
  unfold oG
  grind [=fG]
 ·unfold oG
  grind [=fG]
noncomputable def oI(l:List I3)(now id:Int)(i:Nat):Int:=if(g3 l i).2.2.1>now then(if(g3 l i).1=id then 0 else(g3 l i).2.1)else 0
noncomputable def eP(l:List I3)(now id:Int)(n:Nat):Int:=sumTo n (oI l now id)
theorem L9{l:List I3}(h:kZ l)(now id:Int)(i:Nat)(hi:i<l.length):0≤oI l now id i∧oI l now id i≤1125899906842624:=by
 have:=(h.2 i hi).1
 unfold nO dP at this
 unfold oI
 repeat' split
 all_goals omega
theorem Ar{l:List I3}(h:kZ l)(now id:Int)(n:Nat)(hn:n≤l.length):0≤eP l now id n∧eP l now id n≤67553994410557440:=by
 have h1:=mF 1125899906842624 (oI l now id) n fun q hq=>L9 h now id q (by omega)
 have h2:=h.1
 unfold eP
 omega
theorem abS(l:List I3)(h:kZ l)(now id:Int):Jp (l,now,id,())=some (eP l now id l.length,()):=by
 have hl:=h.1
 show mZ.FF (300+l.length) l now id=_
 rw[mZ.FF,mZ.T,Ea l (by omega),dD h,Option.bind_some,Bool.not_true,cond_false]
 refine run 0 l.length (fun k i=>mZ.G0 (300+l.length) (mZ.A0 l now id) k l now id (eP l now id i) (i:Nat)) _ (fun k i _ hi=> ?_) (fun k=> ?_) _ (by omega) (by omega)
 ·have hb:=Ar h now id i (by omega)
  have ht:=L9 h now id i hi
  have hw:af ((i:Int)+1)=((i+1:Nat):Int):=aI _ (by omega)
  have e:eP l now id (i+1)=eP l now id i+oI l now id i:=rfl
  show mZ.G0 _ _ (k+1) l now id (eP l now id i) (i:Nat)=mZ.G0 _ _ k l now id (eP l now id (i+1)) ((i+1:Nat):Int)
  have hc:(0:Int)≤(i:Int)∧(i:Int)<(l.length:Int):=by omega
  simp only[mZ.G0,mZ.R0,bZ,hw,if_pos hc,decide_eq_true hc.2,cond_true]
  rw[e]
  unfold oI at ht ⊢
  by_cases c1:(g3 l i).2.2.1>now
  ·rw[if_pos c1]at ht ⊢
   rw[decide_eq_true c1,cond_true]
   by_cases c2:(g3 l i).1=id
   ·rw[if_pos c2,show((l.getD i (0,0,0,())).1 != id)=false by rw[show(l.getD i (0,0,0,())).1=id from c2];exact bne_self_eq_false _,cond_false,Int.add_zero]
   ·rw[if_neg c2]at ht ⊢
    rw[show((l.getD i (0,0,0,())).1 != id)=true from bne_iff_ne.2 c2,cond_true,show(l.getD i (0,0,0,())).2.1=(g3 l i).2.1 from rfl,aI _ (by omega)]
  ·rw[if_neg c1,decide_eq_false c1,cond_false,Int.add_zero]
 ·simp only[mZ.G0,mZ.R0]
  rw[decide_eq_false (by omega),cond_false]
  rfl
theorem Ul(l:List I3)(h:kZ l)(now id:Int):xg (l,now,id,())=some (eP l now id l.length,()):=by
 have hl:=h.1
 show nG.FF (300+l.length) l now id=_
 rw[nG.FF,nG.T]
 refine run 0 l.length (fun k i=>nG.G0 (300+l.length) (nG.A0 l now id) k now id (eP l now id i) l (l.length:Int) (i:Nat)) _ (fun k i _ hi=> ?_) (fun k=> ?_) _ (by omega) (by omega)
 ·have hb:=Ar h now id i (by omega)
  have ht:=L9 h now id i hi
  have hw:af ((i:Int)+1)=((i+1:Nat):Int):=aI _ (by omega)
  have e:eP l now id (i+1)=eP l now id i+oI l now id i:=rfl
  show nG.G0 _ _ (k+1) now id (eP l now id i) l _ (i:Nat)=nG.G0 _ _ k now id (eP l now id (i+1)) l _ ((i+1:Nat):Int)
  have hc:(0:Int)≤(i:Int)∧(i:Int)<(l.length:Int):=by omega
  simp only[nG.G0,nG.R0,bZ,hw,if_pos hc,decide_eq_true hc.2,cond_true]
  rw[e]
  unfold oI at ht ⊢
  by_cases c1:(g3 l i).2.2.1>now
  ·rw[if_pos c1]at ht ⊢
   rw[decide_eq_true c1,cond_true]
   by_cases c2:(g3 l i).1=id
   ·rw[if_pos c2,show((l.getD i (0,0,0,())).1 != id)=false by rw[show(l.getD i (0,0,0,())).1=id from c2];exact bne_self_eq_false _,cond_false,Int.add_zero]
   ·rw[if_neg c2]at ht ⊢
    rw[show((l.getD i (0,0,0,())).1 != id)=true from bne_iff_ne.2 c2,cond_true,show(l.getD i (0,0,0,())).2.1=(g3 l i).2.1 from rfl,aI _ (by omega)]
  ·rw[if_neg c1,decide_eq_false c1,cond_false,Int.add_zero]
 ·simp only[nG.G0,nG.R0]
  rw[decide_eq_false (by omega),cond_false]
  rfl
end Go.Rv
