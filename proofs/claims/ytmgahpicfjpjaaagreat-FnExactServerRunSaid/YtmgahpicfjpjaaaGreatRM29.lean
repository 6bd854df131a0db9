/- Plain facts: FarmShares-law-both, server, lea. -/
import Derived.Test.YtmgahpicfjpjaaaGreatRM28
set_option linter.unusedVariables false
set_option linter.unusedSimpArgs false
set_option linter.unusedSectionVars false
namespace Go.Rv
theorem ae0(l:List I4)(A:List (Int×Unit)):pr l A=(List.range A.length).map fun j=>((g4 l j).1,fI A j,()):=by
 apply List.ext_getElem
 ·simp[pr]
 ·intro i h1 h2
  have hi:i<A.length:=by simpa [pr]using h1
  simp[pr,fI,List.getD_eq_getElem?_getD,hi]
theorem adJ(n:Int):Dn (n,())=some (bb (1≤n∧n≤1000),()):=by simp only[Dn,Td.T];grind [=dK]
theorem aeG(n:Int):DV (n,())=some (bb (oI n),()):=by simp only[DV,Ug.T,oI];grind [=dK]
theorem agp(n:Int):Ei (n,())=some (bb (oI n),()):=by simp only[Ei,UM.T,yH,Option.bind_some,oI]
def nO(x:I3):Prop:=gX x.1∧dN x.2.1∧oI x.2.2.1
theorem Vx(a b c:Int):zO (a,b,c,())=some (bb (nO (a,b,c,())),()):=by
 simp only[zO,TJ.T,Fb,xH,aeG,Option.bind_some,nO];grind [=dK]
theorem afz(a b c:Int):CO (a,b,c,())=some (bb (nO (a,b,c,())),()):=by
 simp only[CO,Rw.T,Qe,Fe,agp,Option.bind_some,nO];grind [=dK]
def yQ(l:List I3)(i:Nat):Prop:=nO (g3 l i)∧(0<i→(g3 l (i - 1)).1<(g3 l i).1)
def kK(l:List I3):Prop:=l.length≤60∧∀ i,i<l.length→yQ l i
theorem Eu(l:List I3)(hl:l.length≤1048576):wI (l,())=some (bb (kK l),()):=by
 show kD.FF (300+l.length) l=_
 simp only[kD.FF,kD.T]
 have e:∀ k0,kD.G0 k0 (fun t=>kD.A0 l t) (fun _=>kD.A1 l ()) (300+l.length) l 0=some (bb (∀ j,j<l.length→yQ l j),()):=by
  intro k0
  refine qf (g:=fun k i=>kD.G0 k0 (fun t=>kD.A0 l t) (fun _=>kD.A1 l ()) k l (i:Nat)) (fun k i hi _=> ?_) (fun _ k=> ?_) _ (by omega)
  ·have hw:af ((i:Int)+1)=((i+1:Nat):Int):=aH _ (by omega)
   simp only[kD.G0,kD.R0,kD.A0,bJ,Vx,Option.bind_some,hw]
   have hd:decide (i<(l.length:Int))=true:=decide_eq_true (by omega)
   unfold yQ
   by_cases h0:0<i
   ·have hw':af ((i:Int) - 1)=((i - 1:Nat):Int):=(aH _ (by omega)).trans (by omega)
    rw[hw']
    simp only[bJ]
    grind [=dK]
   ·have:i=0:=by omega
    subst this
    grind [=dK]
  ·simp only[kD.G0,kD.R0]
   rw[decide_eq_false (by omega),cond_false];rfl
 rw[e]
 unfold kK
 grind [=dK]
theorem adX(l:List I3)(hl:l.length≤1048576):JR (l,())=some (bb (kK l),()):=by
 show jS.FF (300+l.length) l=_
 simp only[jS.FF,jS.T]
 have e:∀ k0,jS.G0 k0 (fun l2 t=>jS.A0 l l2 t) (fun l2=>jS.A1 l l2) (300+l.length) l l l.length 0=some (bb ((∀ j,j<l.length→yQ l j)∧l.length≤60),()):=by
  intro k0
  refine FM (g:=fun k i=>jS.G0 k0 (fun l2 t=>jS.A0 l l2 t) (fun l2=>jS.A1 l l2) k l l l.length (i:Nat)) (fun k i hi _=> ?_) (fun _ k=> ?_) _ (by omega)
  ·have hw:af ((i:Int)+1)=((i+1:Nat):Int):=aH _ (by omega)
   simp only[jS.G0,jS.R0,jS.A0,bJ,afz,Option.bind_some,hw]
   have hd:decide (i<(l.length:Int))=true:=decide_eq_true (by omega)
   unfold yQ
   by_cases h0:0<i
   ·have hw':af ((i:Int) - 1)=((i - 1:Nat):Int):=(aH _ (by omega)).trans (by omega)
    rw[hw']
    simp only[bJ]
    grind [=dK]
   ·have:i=0:=by omega
    subst this
    grind [=dK]
  ·simp only[jS.G0,jS.R0,jS.A1]
   grind [=dK]
 rw[e]
 unfold kK
 congr 2
 exact lq And.comm
def BP(s0 s2:Int)(m:List I4)(l:List I3)(i:Nat):Prop:=(g3 l i).1=(g4 m i).1∧s2<(g3 l i).2.2.1∧(g3 l i).2.2.1≤s2+s0
def qH(s0 s1 s2 s3:Int)(s4 s5:List I4)(s6:List I3):Prop:=
 (1≤s0∧s0≤1000)∧0≤s1∧s1≤s2∧s2≤999000∧kQ s3 s4 s5∧kK s6∧s6.length=s5.length∧∀ i,i<s6.length→BP s0 s2 s5 s6 i
theorem NK(s0 s1 s2 s3:Int)(s4 s5:List I4)(s6:List I3)(h4:s4.length≤1048576)(h5:s5.length≤1048576)(h6:s6.length≤1048576):CV (s0,s1,s2,s3,s4,s5,s6,())=some (bb (qH s0 s1 s2 s3 s4 s5 s6),()):=by
 show kC.FF (300+s4.length+s5.length+s6.length) s0 s1 s2 s3 s4 s5 s6=_
 simp only[kC.FF,kC.T,adJ,vw s3 s4 s5 h4 h5,Eu s6 h6,Option.bind_some]
 by_cases h:1≤s0∧s0≤1000∧0≤s2∧s2≤999000∧s6.length=s5.length
 ·have e:∀ k0,kC.G0 k0 (fun t=>kC.A0 s0 s1 s2 s3 s4 s5 s6 t) (fun _=>kC.A1 s0 s1 s2 s3 s4 s5 s6 ()) (300+s4.length+s5.length+s6.length) 0 s0 s1 s2 s3 s4 s5 s6=some (bb (∀ j,j<s6.length→BP s0 s2 s5 s6 j),()):=by
   intro k0
   refine qf (g:=fun k i=>kC.G0 k0 (fun t=>kC.A0 s0 s1 s2 s3 s4 s5 s6 t) (fun _=>kC.A1 s0 s1 s2 s3 s4 s5 s6 ()) k (i:Nat) s0 s1 s2 s3 s4 s5 s6) (fun k i hi _=> ?_) (fun _ k=> ?_) _ (by omega)
   ·have hw:af ((i:Int)+1)=((i+1:Nat):Int):=aH _ (by omega)
    have hw2:af (s2+s0)=s2+s0:=aH _ (by omega)
    simp only[kC.G0,kC.R0,kC.A0,bJ,hw,hw2]
    have hd:decide (i<(s6.length:Int))=true:=decide_eq_true (by omega)
    unfold BP
    grind [=dK]
   ·simp only[kC.G0,kC.R0]
    rw[decide_eq_false (by omega),cond_false];rfl
  rw[e]
  unfold qH
  grind [=dK]
 ·unfold qH
  grind [=dK]
theorem adW(s0 s1 s2 s3:Int)(s4 s5:List I4)(s6:List I3)(h4:s4.length≤1048576)(h5:s5.length≤1048576)(h6:s6.length≤1048576):JQ (s0,s1,s2,s3,s4,s5,s6,())=some (bb (qH s0 s1 s2 s3 s4 s5 s6),()):=by
 show kE.FF (300+s4.length+s5.length+s6.length) s0 s1 s2 s3 s4 s5 s6=_
 simp only[kE.FF,kE.T,yH,afd s3 s4 s5 h4 h5,adX s6 h6,Option.bind_some]
 by_cases h:1≤s0∧s0≤1000∧0≤s2∧s2≤999000∧s6.length=s5.length
 ·have e:∀ k0,kE.G0 k0 (fun t=>kE.A0 s0 s1 s2 s3 s4 s5 s6 t) (fun _=>kE.A1 s0 s1 s2 s3 s4 s5 s6 ()) (300+s4.length+s5.length+s6.length) s6 s6.length 0 s0 s1 s2 s3 s4 s5 s6=some (bb (∀ j,j<s6.length→BP s0 s2 s5 s6 j),()):=by
   intro k0
   refine qf (g:=fun k i=>kE.G0 k0 (fun t=>kE.A0 s0 s1 s2 s3 s4 s5 s6 t) (fun _=>kE.A1 s0 s1 s2 s3 s4 s5 s6 ()) k s6 s6.length (i:Nat) s0 s1 s2 s3 s4 s5 s6) (fun k i hi _=> ?_) (fun _ k=> ?_) _ (by omega)
   ·have hw:af ((i:Int)+1)=((i+1:Nat):Int):=aH _ (by omega)
    have hw2:af (s2+s0)=s2+s0:=aH _ (by omega)
    have hw3:af (s2+1)=s2+1:=aH _ (by omega)
    simp only[kE.G0,kE.R0,kE.A0,bJ,hw,hw2,hw3,yH,Option.bind_some]
    have hd:decide (i<(s6.length:Int))=true:=decide_eq_true (by omega)
    unfold BP
    grind [=dK]
   ·simp only[kE.G0,kE.R0]
    rw[decide_eq_false (by omega),cond_false];rfl
  rw[e]
  unfold qH
  grind [=dK]
 ·unfold qH
  grind [=dK]
noncomputable def qM(l:List I3)(now id:Int)(i:Nat):Int:=if(g3 l i).2.2.1>now then(if(g3 l i).1=id then 0 else(g3 l i).2.1)else 0
noncomputable def dZ(l:List I3)(now id:Int)(n:Nat):Int:=sumTo n (qM l now id)
theorem NU{l:List I3}(h:kK l)(now id:Int)(i:Nat)(hi:i<l.length):0≤qM l now id i∧qM l now id i≤1125899906842624:=by
 have:=(h.2 i hi).1
 unfold nO dN at this
 unfold qM
 repeat' split
 all_goals omega
theorem Am{l:List I3}(h:kK l)(now id:Int)(n:Nat)(hn:n≤l.length):0≤dZ l now id n∧dZ l now id n≤67553994410557440:=by
 have h1:=lU 1125899906842624 (qM l now id) n fun q hq=>NU h now id q (by omega)
 have h2:=h.1
 unfold dZ
 omega
theorem adL(l:List I3)(h:kK l)(now id:Int):JM (l,now,id,())=some (dZ l now id l.length,()):=by
 have hl:=h.1
 show mD.FF (300+l.length) l now id=_
 rw[mD.FF,mD.T,Eu l (by omega),dH h,Option.bind_some,Bool.not_true,cond_false]
 refine run 0 l.length (fun k i=>mD.G0 (300+l.length) (mD.A0 l now id) k l now id (dZ l now id i) (i:Nat)) _ (fun k i _ hi=> ?_) (fun k=> ?_) _ (by omega) (by omega)
 ·have hb:=Am h now id i (by omega)
  have ht:=NU h now id i hi
  have hw:af ((i:Int)+1)=((i+1:Nat):Int):=aH _ (by omega)
  have e:dZ l now id (i+1)=dZ l now id i+qM l now id i:=rfl
  show mD.G0 _ _ (k+1) l now id (dZ l now id i) (i:Nat)=mD.G0 _ _ k l now id (dZ l now id (i+1)) ((i+1:Nat):Int)
  have hc:(0:Int)≤(i:Int)∧(i:Int)<(l.length:Int):=by omega
  simp only[mD.G0,mD.R0,bJ,hw,if_pos hc,decide_eq_true hc.2,cond_true]
  rw[e]
  unfold qM at ht ⊢
  by_cases c1:(g3 l i).2.2.1>now
  ·rw[if_pos c1]at ht ⊢
   rw[decide_eq_true c1,cond_true]
   by_cases c2:(g3 l i).1=id
   ·rw[if_pos c2,show((l.getD i (0,0,0,())).1 != id)=false by rw[show(l.getD i (0,0,0,())).1=id from c2];exact bne_self_eq_false _,cond_false,Int.add_zero]
   ·rw[if_neg c2]at ht ⊢
    rw[show((l.getD i (0,0,0,())).1 != id)=true from bne_iff_ne.2 c2,cond_true,show(l.getD i (0,0,0,())).2.1=(g3 l i).2.1 from rfl,aH _ (by omega)]
  ·rw[if_neg c1,decide_eq_false c1,cond_false,Int.add_zero]
 ·simp only[mD.G0,mD.R0]
  rw[decide_eq_false (by omega),cond_false]
  rfl
theorem Vs(l:List I3)(h:kK l)(now id:Int):wZ (l,now,id,())=some (dZ l now id l.length,()):=by
 have hl:=h.1
 show nC.FF (300+l.length) l now id=_
 rw[nC.FF,nC.T]
 refine run 0 l.length (fun k i=>nC.G0 (300+l.length) (nC.A0 l now id) k now id (dZ l now id i) l (l.length:Int) (i:Nat)) _ (fun k i _ hi=> ?_) (fun k=> ?_) _ (by omega) (by omega)
 ·have hb:=Am h now id i (by omega)
  have ht:=NU h now id i hi
  have hw:af ((i:Int)+1)=((i+1:Nat):Int):=aH _ (by omega)
  have e:dZ l now id (i+1)=dZ l now id i+qM l now id i:=rfl
  show nC.G0 _ _ (k+1) now id (dZ l now id i) l _ (i:Nat)=nC.G0 _ _ k now id (dZ l now id (i+1)) l _ ((i+1:Nat):Int)
  have hc:(0:Int)≤(i:Int)∧(i:Int)<(l.length:Int):=by omega
  simp only[nC.G0,nC.R0,bJ,hw,if_pos hc,decide_eq_true hc.2,cond_true]
  rw[e]
  unfold qM at ht ⊢
  by_cases c1:(g3 l i).2.2.1>now
  ·rw[if_pos c1]at ht ⊢
   rw[decide_eq_true c1,cond_true]
   by_cases c2:(g3 l i).1=id
   ·rw[if_pos c2,show((l.getD i (0,0,0,())).1 != id)=false by rw[show(l.getD i (0,0,0,())).1=id from c2];exact bne_self_eq_false _,cond_false,Int.add_zero]
   ·rw[if_neg c2]at ht ⊢
    rw[show((l.getD i (0,0,0,())).1 != id)=true from bne_iff_ne.2 c2,cond_true,show(l.getD i (0,0,0,())).2.1=(g3 l i).2.1 from rfl,aH _ (by omega)]
  ·rw[if_neg c1,decide_eq_false c1,cond_false,Int.add_zero]
 ·simp only[nC.G0,nC.R0]
  rw[decide_eq_false (by omega),cond_false]
  rfl
end Go.Rv
