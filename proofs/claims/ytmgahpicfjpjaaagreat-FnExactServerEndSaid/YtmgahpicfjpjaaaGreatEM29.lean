/- Plain facts: FarmShares-law-both, server, lea. -/
import Derived.Test.YtmgahpicfjpjaaaGreatEM28
set_option linter.unusedVariables false
set_option linter.unusedSimpArgs false
set_option linter.unusedSectionVars false
namespace Go.Rv
theorem ae5(l:List I4)(A:List (Int×Unit)):pr l A=(List.range A.length).map fun j=>((g4 l j).1,fI A j,()):=by
 apply List.ext_getElem
 ·simp[pr]
 ·intro i h1 h2
  have hi:i<A.length:=by simpa [pr]using h1
  simp[pr,fI,List.getD_eq_getElem?_getD,hi]
theorem adQ(n:Int):Dl (n,())=some (bb (1≤n∧n≤1000),()):=by simp only[Dl,Ti.T];grind [=dK]
theorem aeL(n:Int):DR (n,())=some (bb (oJ n),()):=by simp only[DR,Ui.T,oJ];grind [=dK]
theorem agq(n:Int):Eg (n,())=some (bb (oJ n),()):=by simp only[Eg,UO.T,yJ,Option.bind_some,oJ]
def nO(x:I3):Prop:=gY x.1∧dN x.2.1∧oJ x.2.2.1
theorem Vz(a b c:Int):zT (a,b,c,())=some (bb (nO (a,b,c,())),()):=by
 simp only[zT,TL.T,E8,xH,aeL,Option.bind_some,nO];grind [=dK]
theorem afB(a b c:Int):CP (a,b,c,())=some (bb (nO (a,b,c,())),()):=by
 simp only[CP,Rx.T,Qe,Fa,agq,Option.bind_some,nO];grind [=dK]
def yS(l:List I3)(i:Nat):Prop:=nO (g3 l i)∧(0<i→(g3 l (i - 1)).1<(g3 l i).1)
def kK(l:List I3):Prop:=l.length≤60∧∀ i,i<l.length→yS l i
theorem Es(l:List I3)(hl:l.length≤1048576):wI (l,())=some (bb (kK l),()):=by
 show kD.FF (300+l.length) l=_
 simp only[kD.FF,kD.T]
 have e:∀ k0,kD.G0 k0 (fun t=>kD.A0 l t) (fun _=>kD.A1 l ()) (300+l.length) l 0=some (bb (∀ j,j<l.length→yS l j),()):=by
  intro k0
  refine qW (g:=fun k i=>kD.G0 k0 (fun t=>kD.A0 l t) (fun _=>kD.A1 l ()) k l (i:Nat)) (fun k i hi _=> ?_) (fun _ k=> ?_) _ (by omega)
  ·have hw:af ((i:Int)+1)=((i+1:Nat):Int):=aH _ (by omega)
   simp only[kD.G0,kD.R0,kD.A0,bJ,Vz,Option.bind_some,hw]
   have hd:decide (i<(l.length:Int))=true:=decide_eq_true (by omega)
   unfold yS
   by_cases h0:0<i
   ·have hw':af ((i:Int) - 1)=((i - 1:Nat):Int):=(aH _ (by omega)).trans (by omega)
    rw[hw']
    simp only[bJ]
    grind [=dK]
   ·have:i=0:=by omega
    subst this
    grind [=dK]
  ·simp only[kD.G0,kD.R0]
   rw[decide_eq_false (by omega),cond_false];rfl
 rw[e]
 unfold kK
 grind [=dK]
theorem ad5(l:List I3)(hl:l.length≤1048576):JS (l,())=some (bb (kK l),()):=by
 show jS.FF (300+l.length) l=_
 simp only[jS.FF,jS.T]
 have e:∀ k0,jS.G0 k0 (fun l2 t=>jS.A0 l l2 t) (fun l2=>jS.A1 l l2) (300+l.length) l l l.length 0=some (bb ((∀ j,j<l.length→yS l j)∧l.length≤60),()):=by
  intro k0
  refine FI (g:=fun k i=>jS.G0 k0 (fun l2 t=>jS.A0 l l2 t) (fun l2=>jS.A1 l l2) k l l l.length (i:Nat)) (fun k i hi _=> ?_) (fun _ k=> ?_) _ (by omega)
  ·have hw:af ((i:Int)+1)=((i+1:Nat):Int):=aH _ (by omega)
   simp only[jS.G0,jS.R0,jS.A0,bJ,afB,Option.bind_some,hw]
   have hd:decide (i<(l.length:Int))=true:=decide_eq_true (by omega)
   unfold yS
   by_cases h0:0<i
   ·have hw':af ((i:Int) - 1)=((i - 1:Nat):Int):=(aH _ (by omega)).trans (by omega)
    rw[hw']
    simp only[bJ]
    grind [=dK]
   ·have:i=0:=by omega
    subst this
    grind [=dK]
  ·simp only[jS.G0,jS.R0,jS.A1]
   grind [=dK]
 rw[e]
 unfold kK
 congr 2
 exact lC And.comm
def BQ(s0 s2:Int)(m:List I4)(l:List I3)(i:Nat):Prop:=(g3 l i).1=(g4 m i).1∧s2<(g3 l i).2.2.1∧(g3 l i).2.2.1≤s2+s0
def qG(s0 s1 s2 s3:Int)(s4 s5:List I4)(s6:List I3):Prop:=
 (1≤s0∧s0≤1000)∧0≤s1∧s1≤s2∧s2≤999000∧kQ s3 s4 s5∧kK s6∧s6.length=s5.length∧∀ i,i<s6.length→BQ s0 s2 s5 s6 i
theorem NP(s0 s1 s2 s3:Int)(s4 s5:List I4)(s6:List I3)(h4:s4.length≤1048576)(h5:s5.length≤1048576)(h6:s6.length≤1048576):CW (s0,s1,s2,s3,s4,s5,s6,())=some (bb (qG s0 s1 s2 s3 s4 s5 s6),()):=by
 show kC.FF (300+s4.length+s5.length+s6.length) s0 s1 s2 s3 s4 s5 s6=_
 simp only[kC.FF,kC.T,adQ,vw s3 s4 s5 h4 h5,Es s6 h6,Option.bind_some]
 by_cases h:1≤s0∧s0≤1000∧0≤s2∧s2≤999000∧s6.length=s5.length
 ·have e:∀ k0,kC.G0 k0 (fun t=>kC.A0 s0 s1 s2 s3 s4 s5 s6 t) (fun _=>kC.A1 s0 s1 s2 s3 s4 s5 s6 ()) (300+s4.length+s5.length+s6.length) 0 s0 s1 s2 s3 s4 s5 s6=some (bb (∀ j,j<s6.length→BQ s0 s2 s5 s6 j),()):=by
   intro k0
   refine qW (g:=fun k i=>kC.G0 k0 (fun t=>kC.A0 s0 s1 s2 s3 s4 s5 s6 t) (fun _=>kC.A1 s0 s1 s2 s3 s4 s5 s6 ()) k (i:Nat) s0 s1 s2 s3 s4 s5 s6) (fun k i hi _=> ?_) (fun _ k=> ?_) _ (by omega)
   ·have hw:af ((i:Int)+1)=((i+1:Nat):Int):=aH _ (by omega)
    have hw2:af (s2+s0)=s2+s0:=aH _ (by omega)
    simp only[kC.G0,kC.R0,kC.A0,bJ,hw,hw2]
    have hd:decide (i<(s6.length:Int))=true:=decide_eq_true (by omega)
    unfold BQ
    grind [=dK]
   ·simp only[kC.G0,kC.R0]
    rw[decide_eq_false (by omega),cond_false];rfl
  rw[e]
  unfold qG
  grind [=dK]
 ·unfold qG
  grind [=dK]
theorem ad4(s0 s1 s2 s3:Int)(s4 s5:List I4)(s6:List I3)(h4:s4.length≤1048576)(h5:s5.length≤1048576)(h6:s6.length≤1048576):JR (s0,s1,s2,s3,s4,s5,s6,())=some (bb (qG s0 s1 s2 s3 s4 s5 s6),()):=by
 show kE.FF (300+s4.length+s5.length+s6.length) s0 s1 s2 s3 s4 s5 s6=_
 simp only[kE.FF,kE.T,yJ,afh s3 s4 s5 h4 h5,ad5 s6 h6,Option.bind_some]
 by_cases h:1≤s0∧s0≤1000∧0≤s2∧s2≤999000∧s6.length=s5.length
 ·have e:∀ k0,kE.G0 k0 (fun t=>kE.A0 s0 s1 s2 s3 s4 s5 s6 t) (fun _=>kE.A1 s0 s1 s2 s3 s4 s5 s6 ()) (300+s4.length+s5.length+s6.length) s6 s6.length 0 s0 s1 s2 s3 s4 s5 s6=some (bb (∀ j,j<s6.length→BQ s0 s2 s5 s6 j),()):=by
   intro k0
   refine qW (g:=fun k i=>kE.G0 k0 (fun t=>kE.A0 s0 s1 s2 s3 s4 s5 s6 t) (fun _=>kE.A1 s0 s1 s2 s3 s4 s5 s6 ()) k s6 s6.length (i:Nat) s0 s1 s2 s3 s4 s5 s6) (fun k i hi _=> ?_) (fun _ k=> ?_) _ (by omega)
   ·have hw:af ((i:Int)+1)=((i+1:Nat):Int):=aH _ (by omega)
    have hw2:af (s2+s0)=s2+s0:=aH _ (by omega)
    have hw3:af (s2+1)=s2+1:=aH _ (by omega)
    simp only[kE.G0,kE.R0,kE.A0,bJ,hw,hw2,hw3,yJ,Option.bind_some]
    have hd:decide (i<(s6.length:Int))=true:=decide_eq_true (by omega)
    unfold BQ
    grind [=dK]
   ·simp only[kE.G0,kE.R0]
    rw[decide_eq_false (by omega),cond_false];rfl
  rw[e]
  unfold qG
  grind [=dK]
 ·unfold qG
  grind [=dK]
noncomputable def qL(l:List I3)(now id:Int)(i:Nat):Int:=if(g3 l i).2.2.1>now then(if(g3 l i).1=id then 0 else(g3 l i).2.1)else 0
noncomputable def dZ(l:List I3)(now id:Int)(n:Nat):Int:=sumTo n (qL l now id)
theorem NV{l:List I3}(h:kK l)(now id:Int)(i:Nat)(hi:i<l.length):0≤qL l now id i∧qL l now id i≤1125899906842624:=by
 have:=(h.2 i hi).1
 unfold nO dN at this
 unfold qL
 repeat' split
 all_goals omega
theorem Aq{l:List I3}(h:kK l)(now id:Int)(n:Nat)(hn:n≤l.length):0≤dZ l now id n∧dZ l now id n≤67553994410557440:=by
 have h1:=lW 1125899906842624 (qL l now id) n fun q hq=>NV h now id q (by omega)
 have h2:=h.1
 unfold dZ
 omega
theorem adS(l:List I3)(h:kK l)(now id:Int):JO (l,now,id,())=some (dZ l now id l.length,()):=by
 have hl:=h.1
 show mG.FF (300+l.length) l now id=_
 rw[mG.FF,mG.T,Es l (by omega),dH h,Option.bind_some,Bool.not_true,cond_false]
 refine run 0 l.length (fun k i=>mG.G0 (300+l.length) (mG.A0 l now id) k l now id (dZ l now id i) (i:Nat)) _ (fun k i _ hi=> ?_) (fun k=> ?_) _ (by omega) (by omega)
 ·have hb:=Aq h now id i (by omega)
  have ht:=NV h now id i hi
  have hw:af ((i:Int)+1)=((i+1:Nat):Int):=aH _ (by omega)
  have e:dZ l now id (i+1)=dZ l now id i+qL l now id i:=rfl
  show mG.G0 _ _ (k+1) l now id (dZ l now id i) (i:Nat)=mG.G0 _ _ k l now id (dZ l now id (i+1)) ((i+1:Nat):Int)
  have hc:(0:Int)≤(i:Int)∧(i:Int)<(l.length:Int):=by omega
  simp only[mG.G0,mG.R0,bJ,hw,if_pos hc,decide_eq_true hc.2,cond_true]
  rw[e]
  unfold qL at ht ⊢
  by_cases c1:(g3 l i).2.2.1>now
  ·rw[if_pos c1]at ht ⊢
   rw[decide_eq_true c1,cond_true]
   by_cases c2:(g3 l i).1=id
   ·rw[if_pos c2,show((l.getD i (0,0,0,())).1 != id)=false by rw[show(l.getD i (0,0,0,())).1=id from c2];exact bne_self_eq_false _,cond_false,Int.add_zero]
   ·rw[if_neg c2]at ht ⊢
    rw[show((l.getD i (0,0,0,())).1 != id)=true from bne_iff_ne.2 c2,cond_true,show(l.getD i (0,0,0,())).2.1=(g3 l i).2.1 from rfl,aH _ (by omega)]
  ·rw[if_neg c1,decide_eq_false c1,cond_false,Int.add_zero]
 ·simp only[mG.G0,mG.R0]
  rw[decide_eq_false (by omega),cond_false]
  rfl
theorem Vu(l:List I3)(h:kK l)(now id:Int):wZ (l,now,id,())=some (dZ l now id l.length,()):=by
 have hl:=h.1
 show nC.FF (300+l.length) l now id=_
 rw[nC.FF,nC.T]
 refine run 0 l.length (fun k i=>nC.G0 (300+l.length) (nC.A0 l now id) k now id (dZ l now id i) l (l.length:Int) (i:Nat)) _ (fun k i _ hi=> ?_) (fun k=> ?_) _ (by omega) (by omega)
 ·have hb:=Aq h now id i (by omega)
  have ht:=NV h now id i hi
  have hw:af ((i:Int)+1)=((i+1:Nat):Int):=aH _ (by omega)
  have e:dZ l now id (i+1)=dZ l now id i+qL l now id i:=rfl
  show nC.G0 _ _ (k+1) now id (dZ l now id i) l _ (i:Nat)=nC.G0 _ _ k now id (dZ l now id (i+1)) l _ ((i+1:Nat):Int)
  have hc:(0:Int)≤(i:Int)∧(i:Int)<(l.length:Int):=by omega
  simp only[nC.G0,nC.R0,bJ,hw,if_pos hc,decide_eq_true hc.2,cond_true]
  rw[e]
  unfold qL at ht ⊢
  by_cases c1:(g3 l i).2.2.1>now
  ·rw[if_pos c1]at ht ⊢
   rw[decide_eq_true c1,cond_true]
   by_cases c2:(g3 l i).1=id
   ·rw[if_pos c2,show((l.getD i (0,0,0,())).1 != id)=false by rw[show(l.getD i (0,0,0,())).1=id from c2];exact bne_self_eq_false _,cond_false,Int.add_zero]
   ·rw[if_neg c2]at ht ⊢
    rw[show((l.getD i (0,0,0,())).1 != id)=true from bne_iff_ne.2 c2,cond_true,show(l.getD i (0,0,0,())).2.1=(g3 l i).2.1 from rfl,aH _ (by omega)]
  ·rw[if_neg c1,decide_eq_false c1,cond_false,Int.add_zero]
 ·simp only[nC.G0,nC.R0]
  rw[decide_eq_false (by omega),cond_false]
  rfl
end Go.Rv
