/- Plain facts: want0. -/
import Derived.Test.YtmgahpicfjpjaaaGreatEM25
set_option linter.unusedVariables false
set_option linter.unusedSimpArgs false
set_option linter.unusedSectionVars false
namespace Go.Rv
abbrev fI(F:List (Int×Unit))(q:Nat):Int:=(F.getD q (0,())).1
def gW(l:List I4)(F:Nat→Int)(id:Int)(q:Nat):Int:=if(g4 l q).2.1=id then F q else 0
def mW(m:List I4)(id:Int)(q:Nat):Int:=if(g4 m q).2.1=id then(g4 m q).2.2.1 else 0
def wq(l m:List I4)(F:Nat→Int)(id:Int):Int:=sumTo l.length (gW l F id)+sumTo m.length (mW m id)
def iq(F:Nat→Int):Prop:=∀ q,0≤F q∧F q≤1125899906842624
def tJ(l m:List I4)(F:Nat→Int):Prop:=∀ i,i<l.length→F i=mn (wq l m F (g4 l i).1) (g4 l i).2.2.1
theorem ahk(l:List I4)(F:Nat→Int)(id:Int)(h:iq F)(q:Nat):0≤gW l F id q∧gW l F id q≤1125899906842624:=by
 unfold gW;have:=h q;split <;>omega
section
variable {c:Int} {l m:List I4} (h:kQ c l m)
include h
theorem ahf(id:Int)(q:Nat)(hq:q<m.length):0≤mW m id q∧mW m id q≤1125899906842624:=by
 unfold mW;have:=(h.2.2.2.2 q hq).2.2.2.1;unfold dN at this;split <;>omega
theorem Bv(F:Nat→Int)(id:Int)(hF:iq F)(j:Nat)(hj:j≤l.length):0≤sumTo j (gW l F id)∧sumTo j (gW l F id)≤33776997205278720:=by
 have h1:=lW 1125899906842624 (gW l F id) j fun q _=>ahk l F id hF q
 have:=h.2.1
 omega
theorem FK(id:Int)(j:Nat)(hj:j≤m.length):0≤sumTo j (mW m id)∧sumTo j (mW m id)≤67553994410557440:=by
 have h1:=lW 1125899906842624 (mW m id) j fun q hq=>ahf h id q (by omega)
 have:=h.2.2.1
 omega
theorem rise:qI l l.length:=vg l _ fun i hi=>(h.2.2.2.1 i hi).2.1
theorem Yr(i:Nat)(hi:i<l.length):1≤(g4 l i).1:=(h.2.2.2.1 i hi).1.1
theorem NW(i q:Nat)(hi:i<l.length)(hq:q<l.length)(hu:(g4 l q).2.1=(g4 l i).1):i<q:=by
 have h1:=(h.2.2.2.1 q hq).2.2.1
 have h2:=Yr h i hi
 rcases h1 with h1 | ⟨p,hp,hpu⟩
 ·omega
 ·rcases Nat.lt_trichotomy i p with h3 |h3 |h3
  ·omega
  ·omega
  ·have:=rise h i hi p h3
   omega
theorem sw1(k0:Nat)(hx1:Int→Int→Int→List I4→List I4→List (Int×Unit)→Option (List (Int×Unit)×Unit))(out:List (Int×Unit))(i:Nat)(hi:i<l.length)(ho:out.length=l.length)(hs:iq (fI out))(k:Nat)(hk:l.length<k):
  gG.G1 k0 hx1 k i 0 ((i+1:Nat):Int) c l m out=hx1 i (sumTo l.length (gW l (fI out) (g4 l i).1)) c l m out:=by
 have e:sumTo (i+1) (gW l (fI out) (g4 l i).1)=0:=NJ _ _ fun q hq=>by
  unfold gW
  rw[if_neg]
  intro hu
  have:=NW h i q hi (by omega) hu
  omega
 have:=h.2.1
 refine Eq.trans (congrArg (fun z=>gG.G1 k0 hx1 k i z ((i+1:Nat):Int) c l m out) e.symm)
  (run (i+1) l.length (fun k j=>gG.G1 k0 hx1 k i (sumTo j (gW l (fI out) (g4 l i).1)) (j:Nat) c l m out) _ (fun k j h1 h2=> ?_) (fun k=> ?_) k (by omega) (by omega))
 ·have hw:af ((j:Int)+1)=((j+1:Nat):Int):=aH _ (by omega)
  have b:=Bv h (fI out) (g4 l i).1 hs j (by omega)
  have b':=hs j
  have hv:af (sumTo j (gW l (fI out) (g4 l i).1)+fI out j)=sumTo j (gW l (fI out) (g4 l i).1)+fI out j:=aH _ (by omega)
  simp only[gG.G1,gG.R1,bJ,Int.toNat_natCast,hw,hv,sumTo]
  rw[decide_eq_true (by omega),cond_true,if_pos (by omega),if_pos (by omega),if_pos (by omega)]
  by_cases hu:(g4 l j).2.1=(g4 l i).1
  ·rw[show((l.getD j (0,0,0,0,())).2.1==(l.getD i (0,0,0,0,())).1)=true from beq_iff_eq.2 hu,cond_true,show gW l (fI out) (g4 l i).1 j=fI out j from if_pos hu]
  ·rw[show((l.getD j (0,0,0,0,())).2.1==(l.getD i (0,0,0,0,())).1)=false from beq_eq_false_iff_ne.2 hu,cond_false,show gW l (fI out) (g4 l i).1 j=0 from if_neg hu,Int.add_zero]
 ·simp only[gG.G1,gG.R1]
  rw[decide_eq_false (by omega),cond_false]
theorem sw2(k0:Nat)(hx2:Int→Int→Int→List I4→List I4→List (Int×Unit)→Option (List (Int×Unit)×Unit))(out:List (Int×Unit))(i:Nat)(hi:i<l.length)(s:Int)(hs0:0≤s)(hs1:s≤33776997205278720)(k:Nat)(hk:m.length<k):
  gG.G2 k0 hx2 k i s 0 c l m out=hx2 i (s+sumTo m.length (mW m (g4 l i).1)) c l m out:=by
 have:=h.2.1
 have:=h.2.2.1
 refine Eq.trans (congrArg (fun z=>gG.G2 k0 hx2 k i z 0 c l m out) (show s=s+sumTo 0 (mW m (g4 l i).1)from(Int.add_zero s).symm))
  (run 0 m.length (fun k j=>gG.G2 k0 hx2 k i (s+sumTo j (mW m (g4 l i).1)) (j:Nat) c l m out) _ (fun k j h1 h2=> ?_) (fun k=> ?_) k (by omega) (by omega))
 ·have hw:af ((j:Int)+1)=((j+1:Nat):Int):=aH _ (by omega)
  have b:=FK h (g4 l i).1 j (by omega)
  have b':=(h.2.2.2.2 j h2).2.2.2.1
  unfold dN at b'
  have hv:af (s+sumTo j (mW m (g4 l i).1)+(g4 m j).2.2.1)=s+(sumTo j (mW m (g4 l i).1)+(g4 m j).2.2.1):=(aH _ (by omega)).trans (by omega)
  simp only[gG.G2,gG.R2,bJ,Int.toNat_natCast,hw,hv,sumTo]
  rw[decide_eq_true (by omega),cond_true,if_pos (by omega),if_pos (by omega),if_pos (by omega)]
  by_cases hu:(g4 m j).2.1=(g4 l i).1
  ·rw[show((m.getD j (0,0,0,0,())).2.1==(l.getD i (0,0,0,0,())).1)=true from beq_iff_eq.2 hu,cond_true,show mW m (g4 l i).1 j=(g4 m j).2.2.1 from if_pos hu]
  ·rw[show((m.getD j (0,0,0,0,())).2.1==(l.getD i (0,0,0,0,())).1)=false from beq_eq_false_iff_ne.2 hu,cond_false,show mW m (g4 l i).1 j=0 from if_neg hu,Int.add_zero]
 ·simp only[gG.G2,gG.R2]
  rw[decide_eq_false (by omega),cond_false]
end
theorem agK(a b:Int):uS (a,b,())=some (mn a b,()):=by
 simp only[uS,Nu.T]
 unfold mn
 by_cases h:a<b
 ·rw[decide_eq_true h,cond_true,if_neg (by omega)]
 ·rw[decide_eq_false h,cond_false]
  by_cases h':b<a
  ·rw[if_pos h']
  ·rw[if_neg h',show a=b by omega]
theorem aeN(l m:List I4)(F F':Nat→Int)(id:Int)(h:∀ q,q<l.length→(g4 l q).2.1=id→F q=F' q):wq l m F id=wq l m F' id:=by
 unfold wq
 rw[sumTo_congr (gW l F id) (gW l F' id) l.length fun q hq=> ?_]
 unfold gW
 by_cases hu:(g4 l q).2.1=id
 ·rw[if_pos hu,if_pos hu,h q hq hu]
 ·rw[if_neg hu,if_neg hu]
theorem agT(out:List (Int×Unit))(i q:Nat)(v:Int)(hi:i<out.length):fI (out.set i (v,())) q=if q=i then v else fI out q:=by
 unfold fI
 simp only[List.getD_eq_getElem?_getD,List.getElem?_set]
 by_cases h:q=i
 ·rw[if_pos h,if_pos h.symm,if_pos (by omega)];rfl
 ·rw[if_neg h,if_neg (fun h'=>h h'.symm)]
theorem XV(n q:Nat):fI (List.replicate n ((0:Int),())) q=0:=by
 unfold fI
 simp only[List.getD_eq_getElem?_getD,List.getElem?_replicate]
 split <;>rfl
section
variable {c:Int} {l m:List I4} (h:kQ c l m)
include h
theorem ag4(F:Nat→Int)(id:Int)(hF:iq F):0≤wq l m F id∧wq l m F id≤101330991615836160:=by
 have h1:=Bv h F id hF l.length (Nat.le_refl _)
 have h2:=FK h id m.length (Nat.le_refl _)
 unfold wq;omega
theorem sw0(k0:Nat)(hk0:l.length+m.length<k0)(s:Nat):∀ (out:List (Int×Unit)) (k:Nat),s≤l.length→s<k→out.length=l.length→iq (fI out)→(∀ j,s≤j→j<l.length→fI out j=mn (wq l m (fI out) (g4 l j).1) (g4 l j).2.2.1)→
  ∃ F,gG.G0 k0 (fun out=>gG.A0 c l m out) k ((s:Int) - 1) c l m out=some (F,())∧F.length=l.length∧iq (fI F)∧tJ l m (fI F):=by
 have hl:=h.2.1
 induction s with
 |zero=>
  intro out k _ hk ho hs hw
  obtain⟨k,rfl⟩:∃ k',k=k'+1:=⟨k - 1,by omega⟩
  refine⟨out, ?_,ho,hs,fun i hi=>hw i (by omega) hi⟩
  simp only[gG.G0,gG.R0]
  rw[decide_eq_false (by omega),cond_false]
  rfl
 |succ s ih=>
  intro out k hs1 hk ho hs hw
  obtain⟨k,rfl⟩:∃ k',k=k'+1:=⟨k - 1,by omega⟩
  have e1:(((s+1:Nat):Int) - 1)=(s:Int):=by omega
  have e2:af ((s:Int)+1)=((s+1:Nat):Int):=aH _ (by omega)
  have e3:af ((s:Int) - 1)=(s:Int) - 1:=aH _ (by omega)
  have b1:=Bv h (fI out) (g4 l s).1 hs l.length (Nat.le_refl _)
  have b2:=FK h (g4 l s).1 m.length (Nat.le_refl _)
  have b3:=(h.2.2.2.1 s (by omega)).2.2.2.1
  unfold dN at b3
  simp only[gG.G0,gG.R0,e1,e2]
  rw[decide_eq_true (by omega),cond_true,sw1 h k0 _ out s (by omega) ho hs k0 (by omega)]
  simp only[gG.A1]
  rw[sw2 h k0 _ out s (by omega) _ b1.1 b1.2 k0 (by omega)]
  simp only[gG.A2,bJ,agK,Option.bind_some,e3,Int.toNat_natCast]
  rw[if_pos (by omega),if_pos (by omega)]
  have hv:0≤mn (wq l m (fI out) (g4 l s).1) (g4 l s).2.2.1∧mn (wq l m (fI out) (g4 l s).1) (g4 l s).2.2.1≤1125899906842624:=by
   have:=ag4 h (fI out) (g4 l s).1 hs
   unfold mn;split <;>omega
  have hset:=fun q=>agT out s q (mn (wq l m (fI out) (g4 l s).1) (g4 l s).2.2.1) (by omega)
  have hwq:∀ j,s≤j→j<l.length→wq l m (fI (out.set s (mn (wq l m (fI out) (g4 l s).1) (g4 l s).2.2.1,()))) (g4 l j).1=wq l m (fI out) (g4 l j).1:=fun j hj hjl=>
   aeN l m _ _ _ fun q hq hu=>by
    have:=NW h j q hjl hq hu
    rw[hset,if_neg (by omega)]
  refine ih (out.set s (mn (wq l m (fI out) (g4 l s).1) (g4 l s).2.2.1,())) k (by omega) (by omega) (by simp[ho]) (fun q=> ?_) (fun j hj hjl=> ?_)
  ·rw[hset];split
   ·exact hv
   ·exact hs q
  ·rw[hwq j hj hjl,hset]
   by_cases hjs:j=s
   ·rw[if_pos hjs,hjs]
   ·rw[if_neg hjs];exact hw j (by omega) hjl
theorem aef:∃ F,Dw (c,l,m,())=some (F,())∧F.length=l.length∧iq (fI F)∧tJ l m (fI F):=by
 have hl:=h.2.1
 have hm:=h.2.2.1
 obtain⟨F,h1,h2⟩:=sw0 h (300+l.length+m.length) (by omega) l.length (List.replicate l.length (0,())) (300+l.length+m.length) (Nat.le_refl _) (by omega) (by simp) (fun q=>by rw[XV];omega) (fun j h1 h2=>by omega)
 refine⟨F, ?_,h2⟩
 show gG.FF (300+l.length+m.length) c l m=_
 simp only[gG.FF,gG.T]
 rw[if_pos (by omega),aH _ (by omega)]
 exact h1
theorem af4(id:Int)(i:Nat)(hi:i<l.length)(hid:(g4 l i).1=id):zV (c,l,m,id,())=some ((g4 l i).2.2.1,()):=by
 have hl:=h.2.1
 obtain⟨p,h1,h2,h3⟩:=Xh c l m id (by omega) (rise h)
 obtain⟨h4,h5⟩:=h3 ⟨i,hi,hid⟩
 have h6:=Yr h i hi
 have hp:p=i:=by
  rcases Nat.lt_trichotomy p i with h7 |h7 |h7
  ·have:=rise h i hi p h7;omega
  ·exact h7
  ·have:=rise h p h4 i h7;omega
 simp only[zV,Ub.T,h1,Option.bind_some]
 rw[show(id==0)=false from beq_eq_false_iff_ne.2 (by omega),cond_false,if_pos (by omega),hp]
 rfl
theorem iw0(rc:Int×List I4×List I4×Int×Unit→Option (Int×Unit))(k0:Nat)(hx0:Int→Int→Int→List I4→List I4→Option (Int×Unit))(F:Nat→Int)(hF:iq F)(id:Int)(hrc:∀ q,q<l.length→(g4 l q).2.1=id→rc (c,l,m,(g4 l q).1,())=some (F q,()))(k:Nat)(hk:l.length<k):
  jk.G0 rc k0 hx0 k id 0 l l.length 0 c l m=hx0 id (sumTo l.length (gW l F id)) c l m:=by
 have:=h.2.1
 refine run 0 l.length (fun k j=>jk.G0 rc k0 hx0 k id (sumTo j (gW l F id)) l l.length (j:Nat) c l m) _ (fun k j h1 h2=> ?_) (fun k=> ?_) k (by omega) (by omega)
 ·have hw:af ((j:Int)+1)=((j+1:Nat):Int):=aH _ (by omega)
  have b:=Bv h F id hF j (by omega)
  have b':=hF j
  have hv:af (sumTo j (gW l F id)+F j)=sumTo j (gW l F id)+F j:=aH _ (by omega)
  simp only[jk.G0,jk.R0,bJ,Int.toNat_natCast,hw,sumTo]
  rw[decide_eq_true (by omega),cond_true,if_pos (by omega)]
  by_cases hu:(g4 l j).2.1=id
  ·rw[show((l.getD j (0,0,0,0,())).2.1==id)=true from beq_iff_eq.2 hu,cond_true,show gW l F id j=F j from if_pos hu,show rc (c,l,m,(l.getD j (0,0,0,0,())).1,())=_ from hrc j h2 hu,Option.bind_some]
   simp only[hv]
  ·rw[show((l.getD j (0,0,0,0,())).2.1==id)=false from beq_eq_false_iff_ne.2 hu,cond_false,show gW l F id j=0 from if_neg hu,Int.add_zero]
 ·simp only[jk.G0,jk.R0]
  rw[decide_eq_false (by omega),cond_false]
theorem iw1(rc:Int×List I4×List I4×Int×Unit→Option (Int×Unit))(k0:Nat)(hx1:Int→Int→Int→List I4→List I4→Option (Int×Unit))(id s:Int)(hs0:0≤s)(hs1:s≤33776997205278720)(k:Nat)(hk:m.length<k):
  jk.G1 rc k0 hx1 k id s m m.length 0 c l m=hx1 id (s+sumTo m.length (mW m id)) c l m:=by
 have:=h.2.2.1
 refine Eq.trans (congrArg (fun z=>jk.G1 rc k0 hx1 k id z m m.length 0 c l m) (show s=s+sumTo 0 (mW m id)from(Int.add_zero s).symm))
  (run 0 m.length (fun k j=>jk.G1 rc k0 hx1 k id (s+sumTo j (mW m id)) m m.length (j:Nat) c l m) _ (fun k j h1 h2=> ?_) (fun k=> ?_) k (by omega) (by omega))
 ·have hw:af ((j:Int)+1)=((j+1:Nat):Int):=aH _ (by omega)
  have b:=FK h id j (by omega)
  have b':=(h.2.2.2.2 j h2).2.2.2.1
  unfold dN at b'
  have hv:af (s+sumTo j (mW m id)+(g4 m j).2.2.1)=s+(sumTo j (mW m id)+(g4 m j).2.2.1):=(aH _ (by omega)).trans (by omega)
  simp only[jk.G1,jk.R1,bJ,Int.toNat_natCast,hw,hv,sumTo]
  rw[decide_eq_true (by omega),cond_true,if_pos (by omega)]
  by_cases hu:(g4 m j).2.1=id
  ·rw[show((m.getD j (0,0,0,0,())).2.1==id)=true from beq_iff_eq.2 hu,cond_true,show mW m id j=(g4 m j).2.2.1 from if_pos hu]
  ·rw[show((m.getD j (0,0,0,0,())).2.1==id)=false from beq_eq_false_iff_ne.2 hu,cond_false,show mW m id j=0 from if_neg hu,Int.add_zero]
 ·simp only[jk.G1,jk.R1]
  rw[decide_eq_false (by omega),cond_false]
theorem iwF(rc:Int×List I4×List I4×Int×Unit→Option (Int×Unit))(F:Nat→Int)(hF:iq F)(id cap:Int)(hcap:zV (c,l,m,id,())=some (cap,()))(hrc:∀ q,q<l.length→(g4 l q).2.1=id→rc (c,l,m,(g4 l q).1,())=some (F q,())):
  jk.FF rc (300+l.length+m.length) c l m id=some (mn (wq l m F id) cap,()):=by
 have b1:=Bv h F id hF l.length (Nat.le_refl _)
 simp only[jk.FF,jk.T]
 rw[iw0 h rc _ _ F hF id hrc _ (by omega)]
 simp only[jk.A0]
 rw[iw1 h rc _ _ id _ b1.1 b1.2 _ (by omega)]
 simp only[jk.A1,hcap,Option.bind_some]
 rfl
theorem iwR(F:Nat→Int)(hF:iq F)(hW:tJ l m F)(d:Nat):∀ i k,i<l.length→l.length - i≤d→d≤k→uI k (c,l,m,(g4 l i).1,())=some (F i,()):=by
 induction d with
 |zero=>intro i k h1 h2;omega
 |succ d ih=>
  intro i k hi hd hk
  obtain⟨k,rfl⟩:∃ k',k=k'+1:=⟨k - 1,by omega⟩
  simp only[uI]
  rw[iwF h _ F hF (g4 l i).1 _ (af4 h _ i hi rfl) fun q hq hu=>ih q k hq (by have:=NW h i q hi hq hu;omega) (by omega),hW i hi]
theorem ad2(F:Nat→Int)(hF:iq F)(hW:tJ l m F)(i:Nat)(hi:i<l.length):Lm (c,l,m,(g4 l i).1,())=some (F i,()):=
 iwR h F hF hW (300+l.length+m.length) i (300+l.length+m.length) hi (by omega) (Nat.le_refl _)
end
end Go.Rv
