/- Plain facts: want0. -/
import Derived.Test.YtjknhphmhfbghaaGreatFM25
set_option linter.unusedVariables false
set_option linter.unusedSimpArgs false
set_option linter.unusedSectionVars false
namespace Go.Rv
abbrev fI(F:List (Int×Unit))(q:Nat):Int:=(F.getD q (0,())).1
def gW(l:List I4)(F:Nat→Int)(id:Int)(q:Nat):Int:=if(g4 l q).2.1=id then F q else 0
def mW(m:List I4)(id:Int)(q:Nat):Int:=if(g4 m q).2.1=id then(g4 m q).2.2.1 else 0
def wq(l m:List I4)(F:Nat→Int)(id:Int):Int:=sumTo l.length (gW l F id)+sumTo m.length (mW m id)
def iJ(F:Nat→Int):Prop:=∀ q,0≤F q∧F q≤1125899906842624
def tK(l m:List I4)(F:Nat→Int):Prop:=∀ i,i<l.length→F i=mn (wq l m F (g4 l i).1) (g4 l i).2.2.1
theorem afb(l:List I4)(F:Nat→Int)(id:Int)(h:iJ F)(q:Nat):0≤gW l F id q∧gW l F id q≤1125899906842624:=by
 unfold gW;have:=h q;split <;>omega
section
variable {c:Int} {l m:List I4} (h:lD c l m)
include h
theorem ae5(id:Int)(q:Nat)(hq:q<m.length):0≤mW m id q∧mW m id q≤1125899906842624:=by
 unfold mW;have:=(h.2.2.2.2 q hq).2.2.2.1;unfold dP at this;split <;>omega
theorem BA(F:Nat→Int)(id:Int)(hF:iJ F)(j:Nat)(hj:j≤l.length):0≤sumTo j (gW l F id)∧sumTo j (gW l F id)≤33776997205278720:=by
 have h1:=mF 1125899906842624 (gW l F id) j fun q _=>afb l F id hF q
 have:=h.2.1
 omega
theorem Fb(id:Int)(j:Nat)(hj:j≤m.length):0≤sumTo j (mW m id)∧sumTo j (mW m id)≤67553994410557440:=by
 have h1:=mF 1125899906842624 (mW m id) j fun q hq=>ae5 h id q (by omega)
 have:=h.2.2.1
 omega
theorem rise:qK l l.length:=uZ l _ fun i hi=>(h.2.2.2.1 i hi).2.1
theorem Xt(i:Nat)(hi:i<l.length):1≤(g4 l i).1:=(h.2.2.2.1 i hi).1.1
theorem Mc(i q:Nat)(hi:i<l.length)(hq:q<l.length)(hu:(g4 l q).2.1=(g4 l i).1):i<q:=by
 have h1:=(h.2.2.2.1 q hq).2.2.1
 have h2:=Xt h i hi
 rcases h1 with h1 | ⟨p,hp,hpu⟩
 ·omega
 ·rcases Nat.lt_trichotomy i p with h3 |h3 |h3
  ·omega
  ·omega
  ·have:=rise h i hi p h3
   omega
theorem sw1(k0:Nat)(hx1:Int→Int→Int→List I4→List I4→List (Int×Unit)→Option (List (Int×Unit)×Unit))(out:List (Int×Unit))(i:Nat)(hi:i<l.length)(ho:out.length=l.length)(hs:iJ (fI out))(k:Nat)(hk:l.length<k):
  gU.G1 k0 hx1 k i 0 ((i+1:Nat):Int) c l m out=hx1 i (sumTo l.length (gW l (fI out) (g4 l i).1)) c l m out:=by
 have e:sumTo (i+1) (gW l (fI out) (g4 l i).1)=0:=LU _ _ fun q hq=>by
  unfold gW
  rw[if_neg]
  intro hu
  have:=Mc h i q hi (by omega) hu
  omega
 have:=h.2.1
 refine Eq.trans (congrArg (fun z=>gU.G1 k0 hx1 k i z ((i+1:Nat):Int) c l m out) e.symm)
  (run (i+1) l.length (fun k j=>gU.G1 k0 hx1 k i (sumTo j (gW l (fI out) (g4 l i).1)) (j:Nat) c l m out) _ (fun k j h1 h2=> ?_) (fun k=> ?_) k (by omega) (by omega))
 ·have hw:af ((j:Int)+1)=((j+1:Nat):Int):=aI _ (by omega)
  have b:=BA h (fI out) (g4 l i).1 hs j (by omega)
  have b':=hs j
  have hv:af (sumTo j (gW l (fI out) (g4 l i).1)+fI out j)=sumTo j (gW l (fI out) (g4 l i).1)+fI out j:=aI _ (by omega)
  simp only[gU.G1,gU.R1,bZ,Int.toNat_natCast,hw,hv,sumTo]
  rw[decide_eq_true (by omega),cond_true,if_pos (by omega),if_pos (by omega),if_pos (by omega)]
  by_cases hu:(g4 l j).2.1=(g4 l i).1
  ·rw[show((l.getD j (0,0,0,0,())).2.1==(l.getD i (0,0,0,0,())).1)=true from beq_iff_eq.2 hu,cond_true,show gW l (fI out) (g4 l i).1 j=fI out j from if_pos hu]
  ·rw[show((l.getD j (0,0,0,0,())).2.1==(l.getD i (0,0,0,0,())).1)=false from beq_eq_false_iff_ne.2 hu,cond_false,show gW l (fI out) (g4 l i).1 j=0 from if_neg hu,Int.add_zero]
 ·simp only[gU.G1,gU.R1]
  rw[decide_eq_false (by omega),cond_false]
theorem sw2(k0:Nat)(hx2:Int→Int→Int→List I4→List I4→List (Int×Unit)→Option (List (Int×Unit)×Unit))(out:List (Int×Unit))(i:Nat)(hi:i<l.length)(s:Int)(hs0:0≤s)(hs1:s≤33776997205278720)(k:Nat)(hk:m.length<k):
  gU.G2 k0 hx2 k i s 0 c l m out=hx2 i (s+sumTo m.length (mW m (g4 l i).1)) c l m out:=by
 have:=h.2.1
 have:=h.2.2.1
 refine Eq.trans (congrArg (fun z=>gU.G2 k0 hx2 k i z 0 c l m out) (show s=s+sumTo 0 (mW m (g4 l i).1)from(Int.add_zero s).symm))
  (run 0 m.length (fun k j=>gU.G2 k0 hx2 k i (s+sumTo j (mW m (g4 l i).1)) (j:Nat) c l m out) _ (fun k j h1 h2=> ?_) (fun k=> ?_) k (by omega) (by omega))
 ·have hw:af ((j:Int)+1)=((j+1:Nat):Int):=aI _ (by omega)
  have b:=Fb h (g4 l i).1 j (by omega)
  have b':=(h.2.2.2.2 j h2).2.2.2.1
  unfold dP at b'
  have hv:af (s+sumTo j (mW m (g4 l i).1)+(g4 m j).2.2.1)=s+(sumTo j (mW m (g4 l i).1)+(g4 m j).2.2.1):=(aI _ (by omega)).trans (by omega)
  simp only[gU.G2,gU.R2,bZ,Int.toNat_natCast,hw,hv,sumTo]
  rw[decide_eq_true (by omega),cond_true,if_pos (by omega),if_pos (by omega),if_pos (by omega)]
  by_cases hu:(g4 m j).2.1=(g4 l i).1
  ·rw[show((m.getD j (0,0,0,0,())).2.1==(l.getD i (0,0,0,0,())).1)=true from beq_iff_eq.2 hu,cond_true,show mW m (g4 l i).1 j=(g4 m j).2.2.1 from if_pos hu]
  ·rw[show((m.getD j (0,0,0,0,())).2.1==(l.getD i (0,0,0,0,())).1)=false from beq_eq_false_iff_ne.2 hu,cond_false,show mW m (g4 l i).1 j=0 from if_neg hu,Int.add_zero]
 ·simp only[gU.G2,gU.R2]
  rw[decide_eq_false (by omega),cond_false]
end
theorem aeG(a b:Int):uP (a,b,())=some (mn a b,()):=by
 simp only[uP,Lu.T]
 unfold mn
 by_cases h:a<b
 ·rw[decide_eq_true h,cond_true,if_neg (by omega)]
 ·rw[decide_eq_false h,cond_false]
  by_cases h':b<a
  ·rw[if_pos h']
  ·rw[if_neg h',show a=b by omega]
theorem acP(l m:List I4)(F F':Nat→Int)(id:Int)(h:∀ q,q<l.length→(g4 l q).2.1=id→F q=F' q):wq l m F id=wq l m F' id:=by
 unfold wq
 rw[sumTo_congr (gW l F id) (gW l F' id) l.length fun q hq=> ?_]
 unfold gW
 by_cases hu:(g4 l q).2.1=id
 ·rw[if_pos hu,if_pos hu,h q hq hu]
 ·rw[if_neg hu,if_neg hu]
theorem aeO(out:List (Int×Unit))(i q:Nat)(v:Int)(hi:i<out.length):fI (out.set i (v,())) q=if q=i then v else fI out q:=by
 unfold fI
 simp only[List.getD_eq_getElem?_getD,List.getElem?_set]
 by_cases h:q=i
 ·rw[if_pos h,if_pos h.symm,if_pos (by omega)];rfl
 ·rw[if_neg h,if_neg (fun h'=>h h'.symm)]
theorem WQ(n q:Nat):fI (List.replicate n ((0:Int),())) q=0:=by
 unfold fI
 simp only[List.getD_eq_getElem?_getD,List.getElem?_replicate]
 split <;>rfl
section
variable {c:Int} {l m:List I4} (h:lD c l m)
include h
theorem aeY(F:Nat→Int)(id:Int)(hF:iJ F):0≤wq l m F id∧wq l m F id≤101330991615836160:=by
 have h1:=BA h F id hF l.length (Nat.le_refl _)
 have h2:=Fb h id m.length (Nat.le_refl _)
 unfold wq;omega
theorem sw0(k0:Nat)(hk0:l.length+m.length<k0)(s:Nat):∀ (out:List (Int×Unit)) (k:Nat),s≤l.length→s<k→out.length=l.length→iJ (fI out)→(∀ j,s≤j→j<l.length→fI out j=mn (wq l m (fI out) (g4 l j).1) (g4 l j).2.2.1)→
  ∃ F,gU.G0 k0 (fun out=>gU.A0 c l m out) k ((s:Int) - 1) c l m out=some (F,())∧F.length=l.length∧iJ (fI F)∧tK l m (fI F):=by
 have hl:=h.2.1
 induction s with
 |zero=>
  intro out k _ hk ho hs hw
  obtain⟨k,rfl⟩:∃ k',k=k'+1:=⟨k - 1,by omega⟩
  refine⟨out, ?_,ho,hs,fun i hi=>hw i (by omega) hi⟩
  simp only[gU.G0,gU.R0]
  rw[decide_eq_false (by omega),cond_false]
  rfl
 |succ s ih=>
  intro out k hs1 hk ho hs hw
  obtain⟨k,rfl⟩:∃ k',k=k'+1:=⟨k - 1,by omega⟩
  have e1:(((s+1:Nat):Int) - 1)=(s:Int):=by omega
  have e2:af ((s:Int)+1)=((s+1:Nat):Int):=aI _ (by omega)
  have e3:af ((s:Int) - 1)=(s:Int) - 1:=aI _ (by omega)
  have b1:=BA h (fI out) (g4 l s).1 hs l.length (Nat.le_refl _)
  have b2:=Fb h (g4 l s).1 m.length (Nat.le_refl _)
  have b3:=(h.2.2.2.1 s (by omega)).2.2.2.1
  unfold dP at b3
  simp only[gU.G0,gU.R0,e1,e2]
  rw[decide_eq_true (by omega),cond_true,sw1 h k0 _ out s (by omega) ho hs k0 (by omega)]
  simp only[gU.A1]
  rw[sw2 h k0 _ out s (by omega) _ b1.1 b1.2 k0 (by omega)]
  simp only[gU.A2,bZ,aeG,Option.bind_some,e3,Int.toNat_natCast]
  rw[if_pos (by omega),if_pos (by omega)]
  have hv:0≤mn (wq l m (fI out) (g4 l s).1) (g4 l s).2.2.1∧mn (wq l m (fI out) (g4 l s).1) (g4 l s).2.2.1≤1125899906842624:=by
   have:=aeY h (fI out) (g4 l s).1 hs
   unfold mn;split <;>omega
  have hset:=fun q=>aeO out s q (mn (wq l m (fI out) (g4 l s).1) (g4 l s).2.2.1) (by omega)
  have hwq:∀ j,s≤j→j<l.length→wq l m (fI (out.set s (mn (wq l m (fI out) (g4 l s).1) (g4 l s).2.2.1,()))) (g4 l j).1=wq l m (fI out) (g4 l j).1:=fun j hj hjl=>
   acP l m _ _ _ fun q hq hu=>by
    have:=Mc h j q hjl hq hu
    rw[hset,if_neg (by omega)]
  refine ih (out.set s (mn (wq l m (fI out) (g4 l s).1) (g4 l s).2.2.1,())) k (by omega) (by omega) (by simp[ho]) (fun q=> ?_) (fun j hj hjl=> ?_)
  ·rw[hset];split
   ·exact hv
   ·exact hs q
  ·rw[hwq j hj hjl,hset]
   by_cases hjs:j=s
   ·rw[if_pos hjs,hjs]
   ·rw[if_neg hjs];exact hw j (by omega) hjl
theorem acg:∃ F,Dw (c,l,m,())=some (F,())∧F.length=l.length∧iJ (fI F)∧tK l m (fI F):=by
 have hl:=h.2.1
 have hm:=h.2.2.1
 obtain⟨F,h1,h2⟩:=sw0 h (300+l.length+m.length) (by omega) l.length (List.replicate l.length (0,())) (300+l.length+m.length) (Nat.le_refl _) (by omega) (by simp) (fun q=>by rw[WQ];omega) (fun j h1 h2=>by omega)
 refine⟨F, ?_,h2⟩
 show gU.FF (300+l.length+m.length) c l m=_
 simp only[gU.FF,gU.T]
 rw[if_pos (by omega),aI _ (by omega)]
 exact h1
theorem ad1(id:Int)(i:Nat)(hi:i<l.length)(hid:(g4 l i).1=id):zX (c,l,m,id,())=some ((g4 l i).2.2.1,()):=by
 have hl:=h.2.1
 obtain⟨p,h1,h2,h3⟩:=VU c l m id (by omega) (rise h)
 obtain⟨h4,h5⟩:=h3 ⟨i,hi,hid⟩
 have h6:=Xt h i hi
 have hp:p=i:=by
  rcases Nat.lt_trichotomy p i with h7 |h7 |h7
  ·have:=rise h i hi p h7;omega
  ·exact h7
  ·have:=rise h p h4 i h7;omega
 simp only[zX,Sz.T,h1,Option.bind_some]
 rw[show(id==0)=false from beq_eq_false_iff_ne.2 (by omega),cond_false,if_pos (by omega),hp]
 rfl
theorem iw0(rc:Int×List I4×List I4×Int×Unit→Option (Int×Unit))(k0:Nat)(hx0:Int→Int→Int→List I4→List I4→Option (Int×Unit))(F:Nat→Int)(hF:iJ F)(id:Int)(hrc:∀ q,q<l.length→(g4 l q).2.1=id→rc (c,l,m,(g4 l q).1,())=some (F q,()))(k:Nat)(hk:l.length<k):
  jC.G0 rc k0 hx0 k id 0 l l.length 0 c l m=hx0 id (sumTo l.length (gW l F id)) c l m:=by
 have:=h.2.1
 refine run 0 l.length (fun k j=>jC.G0 rc k0 hx0 k id (sumTo j (gW l F id)) l l.length (j:Nat) c l m) _ (fun k j h1 h2=> ?_) (fun k=> ?_) k (by omega) (by omega)
 ·have hw:af ((j:Int)+1)=((j+1:Nat):Int):=aI _ (by omega)
  have b:=BA h F id hF j (by omega)
  have b':=hF j
  have hv:af (sumTo j (gW l F id)+F j)=sumTo j (gW l F id)+F j:=aI _ (by omega)
  simp only[jC.G0,jC.R0,bZ,Int.toNat_natCast,hw,sumTo]
  rw[decide_eq_true (by omega),cond_true,if_pos (by omega)]
  by_cases hu:(g4 l j).2.1=id
  ·rw[show((l.getD j (0,0,0,0,())).2.1==id)=true from beq_iff_eq.2 hu,cond_true,show gW l F id j=F j from if_pos hu,show rc (c,l,m,(l.getD j (0,0,0,0,())).1,())=_ from hrc j h2 hu,Option.bind_some]
   simp only[hv]
  ·rw[show((l.getD j (0,0,0,0,())).2.1==id)=false from beq_eq_false_iff_ne.2 hu,cond_false,show gW l F id j=0 from if_neg hu,Int.add_zero]
 ·simp only[jC.G0,jC.R0]
  rw[decide_eq_false (by omega),cond_false]
theorem iw1(rc:Int×List I4×List I4×Int×Unit→Option (Int×Unit))(k0:Nat)(hx1:Int→Int→Int→List I4→List I4→Option (Int×Unit))(id s:Int)(hs0:0≤s)(hs1:s≤33776997205278720)(k:Nat)(hk:m.length<k):
  jC.G1 rc k0 hx1 k id s m m.length 0 c l m=hx1 id (s+sumTo m.length (mW m id)) c l m:=by
 have:=h.2.2.1
 refine Eq.trans (congrArg (fun z=>jC.G1 rc k0 hx1 k id z m m.length 0 c l m) (show s=s+sumTo 0 (mW m id)from(Int.add_zero s).symm))
  (run 0 m.length (fun k j=>jC.G1 rc k0 hx1 k id (s+sumTo j (mW m id)) m m.length (j:Nat) c l m) _ (fun k j h1 h2=> ?_) (fun k=> ?_) k (by omega) (by omega))
 ·have hw:af ((j:Int)+1)=((j+1:Nat):Int):=aI _ (by omega)
  have b:=Fb h id j (by omega)
  have b':=(h.2.2.2.2 j h2).2.2.2.1
  unfold dP at b'
  have hv:af (s+sumTo j (mW m id)+(g4 m j).2.2.1)=s+(sumTo j (mW m id)+(g4 m j).2.2.1):=(aI _ (by omega)).trans (by omega)
  simp only[jC.G1,jC.R1,bZ,Int.toNat_natCast,hw,hv,sumTo]
  rw[decide_eq_true (by omega),cond_true,if_pos (by omega)]
  by_cases hu:(g4 m j).2.1=id
  ·rw[show((m.getD j (0,0,0,0,())).2.1==id)=true from beq_iff_eq.2 hu,cond_true,show mW m id j=(g4 m j).2.2.1 from if_pos hu]
  ·rw[show((m.getD j (0,0,0,0,())).2.1==id)=false from beq_eq_false_iff_ne.2 hu,cond_false,show mW m id j=0 from if_neg hu,Int.add_zero]
 ·simp only[jC.G1,jC.R1]
  rw[decide_eq_false (by omega),cond_false]
theorem iwF(rc:Int×List I4×List I4×Int×Unit→Option (Int×Unit))(F:Nat→Int)(hF:iJ F)(id cap:Int)(hcap:zX (c,l,m,id,())=some (cap,()))(hrc:∀ q,q<l.length→(g4 l q).2.1=id→rc (c,l,m,(g4 l q).1,())=some (F q,())):
  jC.FF rc (300+l.length+m.length) c l m id=some (mn (wq l m F id) cap,()):=by
 have b1:=BA h F id hF l.length (Nat.le_refl _)
 simp only[jC.FF,jC.T]
 rw[iw0 h rc _ _ F hF id hrc _ (by omega)]
 simp only[jC.A0]
 rw[iw1 h rc _ _ id _ b1.1 b1.2 _ (by omega)]
 simp only[jC.A1,hcap,Option.bind_some]
 rfl
theorem iwR(F:Nat→Int)(hF:iJ F)(hW:tK l m F)(d:Nat):∀ i k,i<l.length→l.length - i≤d→d≤k→uG k (c,l,m,(g4 l i).1,())=some (F i,()):=by
 induction d with
 |zero=>intro i k h1 h2;omega
 |succ d ih=>
  intro i k hi hd hk
  obtain⟨k,rfl⟩:∃ k',k=k'+1:=⟨k - 1,by omega⟩
  simp only[uG]
  rw[iwF h _ F hF (g4 l i).1 _ (ad1 h _ i hi rfl) fun q hq hu=>ih q k hq (by have:=Mc h i q hi hq hu;omega) (by omega),hW i hi]
theorem ab2(F:Nat→Int)(hF:iJ F)(hW:tK l m F)(i:Nat)(hi:i<l.length):Ko (c,l,m,(g4 l i).1,())=some (F i,()):=
 iwR h F hF hW (300+l.length+m.length) i (300+l.length+m.length) hi (by omega) (Nat.le_refl _)
end
end Go.Rv
