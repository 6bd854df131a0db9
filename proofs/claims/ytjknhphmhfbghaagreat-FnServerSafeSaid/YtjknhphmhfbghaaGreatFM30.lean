/- Plain facts: srvb, srv0. -/
import Derived.Test.YtjknhphmhfbghaaGreatFM29
set_option linter.unusedVariables false
set_option linter.unusedSimpArgs false
set_option linter.unusedSectionVars false
namespace Go.Rv
theorem adt(l:List I4)(u:Int)(hl:l.length≤1048576)(hr:qK l l.length):
  ∃ p:Nat,GL (l,u,())=some ((p:Int),bb (iV l l.length u),())∧p≤l.length∧(∀ q,q<p→(g4 l q).1<u)∧(∀ q,p≤q→q<l.length→u≤(g4 l q).1)∧(iV l l.length u→p<l.length∧(g4 l p).1=u):=by
 have key:∀ (k0 k i j:Nat),i≤j→j≤l.length→j - i<k→(∀ q,q<i→(g4 l q).1<u)→(∀ q,j≤q→q<l.length→u≤(g4 l q).1)→
   ∃ p:Nat,wu.G0 k0 (fun x2 t n i=>wu.A0 l u x2 t n i) k l u (l.length:Int) i j=some ((p:Int),bb (iV l l.length u),())∧p≤l.length∧(∀ q,q<p→(g4 l q).1<u)∧(∀ q,p≤q→q<l.length→u≤(g4 l q).1):=by
  intro k0 k
  induction k with
  |zero=>intro i j _ _ h;omega
  |succ k ih=>
   intro i j hij hj hk hlo hhi
   simp only[wu.G0,wu.R0,Og i j (by omega),zA,Jm.T,yM,Option.bind_some,bZ]
   by_cases h:i<j
   ·have hw:af ((((i+j) / 2:Nat):Int)+1)=(((i+j) / 2+1:Nat):Int):=aI _ (by omega)
    rw[hw,decide_eq_true (by omega),cond_true,if_pos (by omega)]
    by_cases hc:(g4 l ((i+j) / 2)).1<u
    ·rw[decide_eq_true ((xY _ _).2 hc),cond_true]
     refine ih _ _ (by omega) hj (by omega) (fun q hq=> ?_) hhi
     by_cases h2:q=(i+j) / 2
     ·subst h2;exact hc
     ·exact Int.lt_trans (hr _ (by omega) q (by omega)) hc
    ·rw[decide_eq_false (fun h=>hc ((xY _ _).1 h)),cond_false]
     refine ih _ _ (by omega) (by omega) (by omega) hlo (fun q h1 h2=> ?_)
     by_cases h3:q=(i+j) / 2
     ·subst h3;omega
     ·have:=hr q h2 ((i+j) / 2) (by omega);omega
   ·have:i=j:=by omega
    subst this
    rw[decide_eq_false (by omega),cond_false]
    simp only[wu.A0,zA,Jm.T,yM,Option.bind_some,bZ]
    refine⟨i, ?_,hj,hlo,hhi⟩
    by_cases h4:i<l.length
    ·rw[decide_eq_true (by omega),cond_true,if_pos (by omega)]
     congr 3
     by_cases h5:(g4 l i).1=u
     ·rw[dD ⟨i,h4,h5⟩]
      exact beq_iff_eq.2 ((xZ _ _).2 h5)
     ·rw[eU]
      ·exact beq_eq_false_iff_ne.2 fun h=>h5 ((xZ _ _).1 h)
      ·rintro⟨p,hp,hpu⟩
       by_cases h6:p<i
       ·have:=hlo p h6;omega
       ·have:=hhi i (by omega) h4
        by_cases h7:p=i
        ·subst h7;exact h5 hpu
        ·have:=hr p hp i (by omega);omega
    ·rw[decide_eq_false (by omega),cond_false]
     congr 3
     rw[eU]
     rintro⟨p,hp,hpu⟩
     have:=hlo p (by omega);omega
 obtain⟨p,h1,h2,h3,h4⟩:=key (300+l.length) (300+l.length) 0 l.length (by omega) (by omega) (by omega) (by intro q hq;omega) (by intro q h1 h2;omega)
 refine⟨p,h1,h2,h3,h4, ?_⟩
 rintro⟨q,hq,hqu⟩
 by_cases h5:q<p
 ·have:=h3 q h5;omega
 ·have h6:=h4 p (by omega) (by omega)
  refine⟨by omega, ?_⟩
  by_cases h7:p=q
  ·subst h7;exact hqu
  ·have:=hr q hq p (by omega);omega
def Wj(l:List I3)(n:Nat):Prop:=∀ b,b<n→∀ a,a<b→(g3 l a).1<(g3 l b).1
def FD(l:List I3)(n:Nat)(u:Int):Prop:=∃ p,p<n∧(g3 l p).1=u
theorem adu(l:List I3)(u:Int)(hl:l.length≤1048576)(hr:Wj l l.length):
  ∃ p:Nat,GX (l,u,())=some ((p:Int),bb (FD l l.length u),())∧p≤l.length∧(∀ q,q<p→(g3 l q).1<u)∧(∀ q,p≤q→q<l.length→u≤(g3 l q).1)∧(FD l l.length u→p<l.length∧(g3 l p).1=u):=by
 have key:∀ (k0 k i j:Nat),i≤j→j≤l.length→j - i<k→(∀ q,q<i→(g3 l q).1<u)→(∀ q,j≤q→q<l.length→u≤(g3 l q).1)→
   ∃ p:Nat,wB.G0 k0 (fun x2 t n i=>wB.A0 l u x2 t n i) k l u (l.length:Int) i j=some ((p:Int),bb (FD l l.length u),())∧p≤l.length∧(∀ q,q<p→(g3 l q).1<u)∧(∀ q,p≤q→q<l.length→u≤(g3 l q).1):=by
  intro k0 k
  induction k with
  |zero=>intro i j _ _ h;omega
  |succ k ih=>
   intro i j hij hj hk hlo hhi
   simp only[wB.G0,wB.R0,Og i j (by omega),zM,KP.T,yM,Option.bind_some,bZ]
   by_cases h:i<j
   ·have hw:af ((((i+j) / 2:Nat):Int)+1)=(((i+j) / 2+1:Nat):Int):=aI _ (by omega)
    rw[hw,decide_eq_true (by omega),cond_true,if_pos (by omega)]
    by_cases hc:(g3 l ((i+j) / 2)).1<u
    ·rw[decide_eq_true ((xY _ _).2 hc),cond_true]
     refine ih _ _ (by omega) hj (by omega) (fun q hq=> ?_) hhi
     by_cases h2:q=(i+j) / 2
     ·subst h2;exact hc
     ·exact Int.lt_trans (hr _ (by omega) q (by omega)) hc
    ·rw[decide_eq_false (fun h=>hc ((xY _ _).1 h)),cond_false]
     refine ih _ _ (by omega) (by omega) (by omega) hlo (fun q h1 h2=> ?_)
     by_cases h3:q=(i+j) / 2
     ·subst h3;omega
     ·have:=hr q h2 ((i+j) / 2) (by omega);omega
   ·have:i=j:=by omega
    subst this
    rw[decide_eq_false (by omega),cond_false]
    simp only[wB.A0,zM,KP.T,yM,Option.bind_some,bZ]
    refine⟨i, ?_,hj,hlo,hhi⟩
    by_cases h4:i<l.length
    ·rw[decide_eq_true (by omega),cond_true,if_pos (by omega)]
     congr 3
     by_cases h5:(g3 l i).1=u
     ·rw[dD ⟨i,h4,h5⟩]
      exact beq_iff_eq.2 ((xZ _ _).2 h5)
     ·rw[eU]
      ·exact beq_eq_false_iff_ne.2 fun h=>h5 ((xZ _ _).1 h)
      ·rintro⟨p,hp,hpu⟩
       by_cases h6:p<i
       ·have:=hlo p h6;omega
       ·have:=hhi i (by omega) h4
        by_cases h7:p=i
        ·subst h7;exact h5 hpu
        ·have:=hr p hp i (by omega);omega
    ·rw[decide_eq_false (by omega),cond_false]
     congr 3
     rw[eU]
     rintro⟨p,hp,hpu⟩
     have:=hlo p (by omega);omega
 obtain⟨p,h1,h2,h3,h4⟩:=key (300+l.length) (300+l.length) 0 l.length (by omega) (by omega) (by omega) (by intro q hq;omega) (by intro q h1 h2;omega)
 refine⟨p,h1,h2,h3,h4, ?_⟩
 rintro⟨q,hq,hqu⟩
 by_cases h5:q<p
 ·have:=h3 q h5;omega
 ·have h6:=h4 p (by omega) (by omega)
  refine⟨by omega, ?_⟩
  by_cases h7:p=q
  ·subst h7;exact hqu
  ·have:=hr q hq p (by omega);omega
abbrev k4(x:I4):Int:=x.1
abbrev k3(x:I3):Int:=x.1
def iF{α:Type}(f:α→Int)(l:List α):Prop:=l.Pairwise fun a b=>f a<f b
def bU{α:Type}(f:α→Int)(l:List α)(u:Int):Prop:=∃ x∈l,f x=u
structure Cut {α:Type} (f:α→Int) (l:List α) (u:Int) (p:Nat):Prop where
 le:p≤l.length
 lo:∀ x∈l.take p,f x<u
 hi:∀ x∈l.drop p,u≤f x
theorem Cut.has{α:Type}{f:α→Int}{l:List α}{u:Int}{p:Nat}(h:Cut f l u p)(hr:iF f l):bU f l u↔∃ x,l[p]? =some x∧f x=u:=by
 constructor
 ·rintro⟨x,hx,hu⟩
  rw[←List.take_append_drop p l]at hx
  rcases List.mem_append.1 hx with hx |hx
  ·have:=h.lo x hx;omega
  ·have hr':iF f (l.drop p):=List.Pairwise.sublist (List.drop_sublist p l) hr
   have hh:=h.hi
   have e:l[p]? =(l.drop p)[0]? :=by rw[List.getElem?_drop,Nat.add_zero]
   rw[e]
   cases hd:l.drop p with
   |nil=>rw[hd]at hx;cases hx
   |cons y r=>
    rw[hd]at hx hr' hh
    refine⟨y,rfl, ?_⟩
    rcases List.mem_cons.1 hx with rfl |hx
    ·exact hu
    ·have h1:=(List.pairwise_cons.1 hr').1 x hx
     have h2:=hh y (by simp)
     omega
 ·rintro⟨x,hx,hu⟩
  exact⟨x,List.mem_of_getElem? hx,hu⟩
theorem Cut.gt{α:Type}{f:α→Int}{l:List α}{u:Int}{p:Nat}(h:Cut f l u p)(hn:¬ bU f l u):∀ x∈l.drop p,u<f x:=by
 intro x hx
 have h1:=h.hi x hx
 have:f x≠u:=fun e=>hn ⟨x,List.mem_of_mem_drop hx,e⟩
 omega
theorem Cut.uniq{α:Type}{f:α→Int}{l:List α}{u:Int}{p q:Nat}(h:Cut f l u p)(k:Cut f l u q):p=q:=by
 have key:∀ {p q:Nat},Cut f l u p→Cut f l u q→¬ p<q:=by
  intro p q h k hpq
  have hp:p<l.length:=by have:=k.le;omega
  have h1:l[p]∈l.take q:=List.mem_take_iff_getElem.2 ⟨p,by omega,rfl⟩
  have h2:l[p]∈l.drop p:=List.mem_drop_iff_getElem.2 ⟨0,by omega,by simp⟩
  have:=k.lo _ h1
  have:=h.hi _ h2
  omega
 have h1:=key h k
 have h2:=key k h
 omega
theorem Xy{l:List I4}{u:Int}{p:Nat}(h0:p≤l.length)(h1:∀ q,q<p→(g4 l q).1<u)(h2:∀ q,p≤q→q<l.length→u≤(g4 l q).1):Cut k4 l u p:=by
 refine⟨h0,fun x hx=> ?_,fun x hx=> ?_⟩
 ·obtain⟨i,hi,rfl⟩:=List.mem_take_iff_getElem.1 hx
  have:=h1 i (by omega)
  simpa [g4,List.getD_eq_getElem?_getD,show i<l.length by omega]using this
 ·obtain⟨i,hi,rfl⟩:=List.mem_drop_iff_getElem.1 hx
  have:=h2 (p+i) (by omega) (by omega)
  simpa [g4,List.getD_eq_getElem?_getD,show p+i<l.length by omega]using this
theorem BJ{l:List I4}:(∀ i,i<l.length→0<i→(g4 l (i - 1)).1<(g4 l i).1)↔iF k4 l:=by
 constructor
 ·intro h
  have hr:=uZ l l.length h
  refine List.pairwise_iff_getElem.2 fun i j hi hj hij=> ?_
  have:=hr j hj i hij
  simpa [g4,List.getD_eq_getElem?_getD,hi,hj]using this
 ·intro h i hi h0
  have:=List.pairwise_iff_getElem.1 h (i - 1) i (by omega) hi (by omega)
  simpa [g4,List.getD_eq_getElem?_getD,hi,show i - 1<l.length by omega]using this
theorem X3{l:List I3}:(∀ i,i<l.length→0<i→(g3 l (i - 1)).1<(g3 l i).1)↔iF k3 l:=by
 constructor
 ·intro h
  have hr:∀ b,b<l.length→∀ a,a<b→(g3 l a).1<(g3 l b).1:=by
   intro b
   induction b with
   |zero=>intro _ a ha;omega
   |succ b ih=>
    intro hb a ha
    have h1:=h (b+1) hb (by omega)
    rw[show b+1 - 1=b by omega]at h1
    by_cases hab:a=b
    ·subst hab;exact h1
    ·exact Int.lt_trans (ih (by omega) a (by omega)) h1
  refine List.pairwise_iff_getElem.2 fun i j hi hj hij=> ?_
  have:=hr j hj i hij
  simpa [g3,List.getD_eq_getElem?_getD,hi,hj]using this
 ·intro h i hi h0
  have:=List.pairwise_iff_getElem.1 h (i - 1) i (by omega) hi (by omega)
  simpa [g3,List.getD_eq_getElem?_getD,hi,show i - 1<l.length by omega]using this
theorem BP{l:List I4}{P:I4→Prop}:(∀ i,i<l.length→P (g4 l i))↔∀ x∈l,P x:=by
 constructor
 ·intro h x hx
  obtain⟨i,hi,rfl⟩:=List.getElem_of_mem hx
  have:=h i hi
  simpa [g4,List.getD_eq_getElem?_getD,hi]using this
 ·intro h i hi
  have:=h l[i] (List.getElem_mem hi)
  simpa [g4,List.getD_eq_getElem?_getD,hi]using this
theorem O3{l:List I3}{P:I3→Prop}:(∀ i,i<l.length→P (g3 l i))↔∀ x∈l,P x:=by
 constructor
 ·intro h x hx
  obtain⟨i,hi,rfl⟩:=List.getElem_of_mem hx
  have:=h i hi
  simpa [g3,List.getD_eq_getElem?_getD,hi]using this
 ·intro h i hi
  have:=h l[i] (List.getElem_mem hi)
  simpa [g3,List.getD_eq_getElem?_getD,hi]using this
theorem oP{l:List I4}{u:Int}:iV l l.length u↔bU k4 l u:=by
 constructor
 ·rintro⟨p,hp,hu⟩
  refine⟨l[p],List.getElem_mem hp, ?_⟩
  simpa [g4,List.getD_eq_getElem?_getD,hp]using hu
 ·rintro⟨x,hx,hu⟩
  obtain⟨i,hi,rfl⟩:=List.getElem_of_mem hx
  exact⟨i,hi,by simpa [g4,List.getD_eq_getElem?_getD,hi]using hu⟩
def afF(l:List I4)(x:I4):Prop:=iG x.1∧(x.2.1=0∨(bU k4 l x.2.1∧x.2.1<x.1))∧dP x.2.2.1∧jL x.2.2.2.1
def afv(l:List I4)(x:I4):Prop:=iG x.1∧(x.2.1=0∨bU k4 l x.2.1)∧dP x.2.2.1∧jL x.2.2.2.1
structure kN (c:Int) (l m:List I4):Prop where
 cap:dP c
 ll:l.length≤30
 lm:m.length≤60
 rl:iF k4 l
 rm:iF k4 m
 gl:∀ x∈l,afF l x
 gm:∀ x∈m,afv l x
theorem vP{c:Int}{l m:List I4}:lD c l m↔kN c l m:=by
 unfold lD
 rw[←VD]
 constructor
 ·rintro⟨h1,h2,h3,h4,h5⟩
  refine⟨h1,h2,h3,BJ.1 fun i hi=>(h4 i hi).2.1,BJ.1 fun i hi=>(h5 i hi).2.1,BP.1 fun i hi=> ?_,BP.1 fun i hi=> ?_⟩
  ·obtain⟨q1,_,q2,q3,q4⟩:=h4 i hi
   rw[oP]at q2
   exact⟨q1,q2,q3,q4⟩
  ·obtain⟨q1,_,q2,q3,q4⟩:=h5 i hi
   rw[oP]at q2
   exact⟨q1,q2,q3,q4⟩
 ·rintro⟨h1,h2,h3,h4,h5,h6,h7⟩
  have r4:=BJ.2 h4
  have r5:=BJ.2 h5
  refine⟨h1,h2,h3,fun i hi=> ?_,fun i hi=> ?_⟩
  ·obtain⟨q1,q2,q3,q4⟩:=BP.2 h6 i hi
   rw[←oP]at q2
   exact⟨q1,r4 i hi,q2,q3,q4⟩
  ·obtain⟨q1,q2,q3,q4⟩:=BP.2 h7 i hi
   rw[←oP]at q2
   exact⟨q1,r5 i hi,q2,q3,q4⟩
structure fU (s0 s1 s2 s3:Int) (l m:List I4) (n:List I3):Prop where
 len:1≤s0∧s0≤1000
 born:0≤s1∧s1≤s2∧s2≤999000
 farm:kN s3 l m
 ids:m.map k4=n.map k3
 rn:∀ x∈n,nO x∧s2<x.2.2.1∧x.2.2.1≤s2+s0
theorem fU.same{s0 s1 s2 s3:Int}{l m:List I4}{n:List I3}(h:fU s0 s1 s2 s3 l m n):m.length=n.length:=by simpa using congrArg List.length h.ids
theorem fU.yU{s0 s1 s2 s3:Int}{l m:List I4}{n:List I3}(h:fU s0 s1 s2 s3 l m n):iF k3 n:=by
 have h1:(m.map k4).Pairwise (· < ·):=List.pairwise_map.2 h.farm.rm
 rw[h.ids]at h1
 exact List.pairwise_map.1 h1
theorem qZ{s0 s1 s2 s3:Int}{l m:List I4}{n:List I3}:oG s0 s1 s2 s3 l m n↔fU s0 s1 s2 s3 l m n:=by
 unfold oG
 rw[vP]
 constructor
 ·rintro⟨h1,h2,h3,h4,h5,⟨h6,h7⟩,h8,h9⟩
  refine⟨h1,⟨h2,h3,h4⟩,h5, ?_,O3.1 fun i hi=>⟨(h7 i hi).1,(h9 i hi).2.1,(h9 i hi).2.2⟩⟩
  refine List.ext_getElem (by simp[h8]) fun i hi1 hi2=> ?_
  have hi1:i<m.length:=by simpa using hi1
  have hi2:i<n.length:=by simpa using hi2
  have:=(h9 i hi2).1
  simpa [g3,g4,List.getD_eq_getElem?_getD,hi1,hi2]using this.symm
 ·intro h
  have hs:=h.same
  have hr:=X3.2 h.yU
  have hn:=O3.2 h.rn
  refine⟨h.len,h.born.1,h.born.2.1,h.born.2.2,h.farm,⟨by have:=h.farm.lm;omega,fun i hi=>⟨(hn i hi).1,hr i hi⟩⟩,hs.symm,fun i hi=>⟨?_,(hn i hi).2⟩⟩
  have e:=congrArg (fun z:List Int=>z[i]?) h.ids
  simp only[List.getElem?_map]at e
  have hi1:i<m.length:=by omega
  simpa [g3,g4,List.getD_eq_getElem?_getD,hi1,hi,k3,k4]using e.symm
end Go.Rv
