/- Plain facts: farm. -/
import Derived.Test.YtjknhphmhfbghaaGreatGM19
set_option linter.unusedVariables false
set_option linter.unusedSimpArgs false
set_option linter.unusedSectionVars false
namespace Go.Rv
abbrev I4:=Int×Int×Int×Int×Unit
abbrev I3:=Int×Int×Int×Unit
abbrev g4(l:List I4)(i:Nat):I4:=l.getD i (0,0,0,0,())
abbrev g3(l:List I3)(i:Nat):I3:=l.getD i (0,0,0,())
def iy(z:Int):Prop:=1≤z∧z≤1000000
def dM(z:Int):Prop:=0≤z∧z≤1125899906842624
def jJ(z:Int):Prop:=1≤z∧z≤1073741824
def oI(z:Int):Prop:=0≤z∧z≤1000000
def iR(l:List I4)(n:Nat)(u:Int):Prop:=∃ p,p<n∧(g4 l p).1=u
def yK(l:List I4)(i:Nat):Prop:=iy (g4 l i).1∧(0<i→(g4 l (i - 1)).1<(g4 l i).1)∧((g4 l i).2.1=0∨iR l i (g4 l i).2.1)∧dM (g4 l i).2.2.1∧jJ (g4 l i).2.2.2.1
def Bz(l m:List I4)(i:Nat):Prop:=iy (g4 m i).1∧(0<i→(g4 m (i - 1)).1<(g4 m i).1)∧((g4 m i).2.1=0∨iR l l.length (g4 m i).2.1)∧dM (g4 m i).2.2.1∧jJ (g4 m i).2.2.2.1
def kZ(c:Int)(l m:List I4):Prop:=dM c∧l.length≤30∧m.length≤60∧(∀ i,i<l.length→yK l i)∧(∀ i,i<m.length→Bz l m i)
theorem EI(n:Int):lI (n,())=some (bb (iy n),()):=by
 simp only[lI,TM.T, ←yj]
 by_cases h:n≥1
 ·rw[dA h];simp only[cond_true];congr 2;exact lK (by unfold iy;omega)
 ·rw[eH h];simp only[cond_false];congr 2;exact(eH (by unfold iy;omega)).symm
theorem xB(n:Int):dZ (n,())=some (bb (dM n),()):=by
 simp only[dZ,SA.T, ←yj]
 by_cases h:n≥0
 ·rw[dA h];simp only[cond_true];congr 2;exact lK (by unfold dM;omega)
 ·rw[eH h];simp only[cond_false];congr 2;exact(eH (by unfold dM;omega)).symm
theorem Ld(n:Int):gB (n,())=some (bb (jJ n),()):=by
 simp only[gB,Rn.T, ←yj]
 by_cases h:n≥1
 ·rw[dA h];simp only[cond_true];congr 2;exact lK (by unfold jJ;omega)
 ·rw[eH h];simp only[cond_false];congr 2;exact(eH (by unfold jJ;omega)).symm
theorem yF(n a b:Int):nC (n,a,b,())=some (bb (a≤n∧n≤b),()):=by
 simp only[nC,Wx.T, ←yj]
 by_cases h:a≤n
 ·rw[dA h];simp only[cond_true];congr 2;exact lK (by omega)
 ·rw[eH h];simp only[cond_false];congr 2;exact(eH (by omega)).symm
theorem Oo(n:Int):gG (n,())=some (bb (iy n),()):=by simp only[gG,Ej.T,yF,Option.bind_some];rfl
theorem EJ(n:Int):jm (n,())=some (bb (dM n),()):=by simp only[jm,D5.T,yF,Option.bind_some];rfl
theorem UM(n:Int):kC (n,())=some (bb (jJ n),()):=by simp only[kC,DJ.T,yF,Option.bind_some];rfl
theorem LJ(c:Int)(l m:List I4)(u:Int)(hl:l.length≤1048576):∃ p:Int,jR (c,l,m,u,())=some (p,())∧((¬ iR l l.length u∧p= -1)∨∃ q:Nat,p=q∧q<l.length∧(g4 l q).1=u∧∀ j,j<q→(g4 l j).1≠u):=by
 have key:∀ (k0 k i:Nat),i≤l.length→l.length - i<k→(∀ j,j<i→(g4 l j).1≠u)→∃ p:Int,wV.G0 k0 (fun t=>wV.A0 c l m u t) (fun _=>wV.A1 c l m u ()) k u i c l m=some (p,())∧((¬ iR l l.length u∧p= -1)∨∃ q:Nat,p=q∧q<l.length∧(g4 l q).1=u∧∀ j,j<q→(g4 l j).1≠u):=by
  intro k0 k
  induction k with
  |zero=>intro i _ h;omega
  |succ k ih=>
   intro i hi hk hb
   rw[wV.G0,wV.R0]
   by_cases h:i<l.length
   ·have hw:af ((i:Int)+1)=((i+1:Nat):Int):=aJ _ (by omega)
    rw[hw,decide_eq_true (by omega),cond_true,if_pos (by omega)]
    by_cases hu:(rd (0,0,0,0,()) l (i:Int)).1=u
    ·rw[show((rd (0,0,0,0,()) l (i:Int)).1==u)=true by simpa using hu]
     exact⟨i,rfl,Or.inr ⟨i,rfl,h,hu,hb⟩⟩
    ·rw[show((rd (0,0,0,0,()) l (i:Int)).1==u)=false by simpa using hu]
     refine ih (i+1) (by omega) (by omega) fun j hj=> ?_
     by_cases hji:j=i
     ·subst hji;exact hu
     ·exact hb j (by omega)
   ·rw[decide_eq_false (by omega),cond_false]
    refine⟨-1,rfl,Or.inl ⟨?_,rfl⟩⟩
    rintro⟨p,hp,hpu⟩
    exact hb p (by omega) hpu
 exact key _ _ 0 (by omega) (by show _<300+l.length+m.length;omega) (by intro j hj;omega)
theorem abX(k0:Nat)(c:Int)(l m:List I4)(hl:l.length≤1048576)(hm:m.length≤1048576)(hx2:Bool→Option (Bool×Unit))(hx3:Unit→Option (Bool×Unit))(h2:hx2 false=some (false,()))(h3:hx3 ()=some (true,()))(k:Nat)(hk:m.length<k):
  iO.G1 k0 hx2 hx3 k 0 c l m=some (bb (∀ j,j<m.length→Bz l m j),()):=by
 refine Ba (g:=fun k i=>iO.G1 k0 hx2 hx3 k (i:Nat) c l m) (fun k i hi _=> ?_) (fun _ k=> ?_) k hk
 ·obtain⟨p,hp,hq⟩:=LJ c l m (g4 m i).2.1 hl
  have hw:af ((i:Int)+1)=((i+1:Nat):Int):=aJ _ (by omega)
  simp only[iO.G1,iO.R1,bZ,hp,EI,xB,Ld,Option.bind_some,hw]
  have hn:p<0↔¬ iR l l.length (g4 m i).2.1:=by
   rcases hq with ⟨h,rfl⟩ | ⟨q,rfl,h1,h2,_⟩
   ·exact⟨fun _=>h,fun _=>by omega⟩
   ·exact⟨fun h=>by omega,fun h=>absurd ⟨q,h1,h2⟩ h⟩
  have hd:decide (i<(m.length:Int))=true:=decide_eq_true (by omega)
  unfold Bz
  by_cases h0:0<i
  ·have hw':af ((i:Int) - 1)=((i - 1:Nat):Int):=(aJ _ (by omega)).trans (by omega)
   rw[hw']
   simp only[bZ]
   grind [=fC]
  ·have:i=0:=by omega
   subst this
   grind [=fC]
 ·simp only[iO.G1,iO.R1]
  rw[decide_eq_false (by omega),cond_false,h3]
def Ox(l:List I4)(i:Nat):Prop:=iy (g4 l i).1∧(0<i→(g4 l (i - 1)).1<(g4 l i).1)∧((g4 l i).2.1=0∨(iR l l.length (g4 l i).2.1∧(g4 l i).2.1<(g4 l i).1))∧dM (g4 l i).2.2.1∧jJ (g4 l i).2.2.2.1
theorem abY(k0:Nat)(c:Int)(l m:List I4)(Q:Prop)(hl:l.length≤1048576)(hx0:Bool→Int→List I4→List I4→Option (Bool×Unit))(hx1:Int→List I4→List I4→Option (Bool×Unit))(h2:hx0 false c l m=some (false,()))(h3:hx1 c l m=some (bb Q,()))(k:Nat)(hk:l.length<k):
  iO.G0 k0 hx0 hx1 k 0 c l m=some (bb ((∀ j,j<l.length→Ox l j)∧Q),()):=by
 refine EZ (g:=fun k i=>iO.G0 k0 hx0 hx1 k (i:Nat) c l m) (fun k i hi _=> ?_) (fun _ k=> ?_) k hk
 ·obtain⟨p,hp,hq⟩:=LJ c l m (g4 l i).2.1 hl
  have hw:af ((i:Int)+1)=((i+1:Nat):Int):=aJ _ (by omega)
  simp only[iO.G0,iO.R0,bZ,hp,EI,xB,Ld,Option.bind_some,hw]
  have hn:p<0↔¬ iR l l.length (g4 l i).2.1:=by
   rcases hq with ⟨h,rfl⟩ | ⟨q,rfl,h1,h2,_⟩
   ·exact⟨fun _=>h,fun _=>by omega⟩
   ·exact⟨fun h=>by omega,fun h=>absurd ⟨q,h1,h2⟩ h⟩
  have hd:decide (i<(l.length:Int))=true:=decide_eq_true (by omega)
  unfold Ox
  by_cases h0:0<i
  ·have hw':af ((i:Int) - 1)=((i - 1:Nat):Int):=(aJ _ (by omega)).trans (by omega)
   rw[hw']
   simp only[bZ]
   grind [=fC]
  ·have:i=0:=by omega
   subst this
   grind [=fC]
 ·simp only[iO.G0,iO.R0]
  rw[decide_eq_false (by omega),cond_false,h3]
def qC(l:List I4)(n:Nat):Prop:=∀ b,b<n→∀ a,a<b→(g4 l a).1<(g4 l b).1
theorem uV(l:List I4)(n:Nat)(h:∀ i,i<n→0<i→(g4 l (i - 1)).1<(g4 l i).1):qC l n:=by
 intro b
 induction b with
 |zero=>intro _ a ha;omega
 |succ b ih=>
  intro hb a ha
  have h1:=h (b+1) hb (by omega)
  rw[show b+1 - 1=b by omega]at h1
  by_cases hab:a=b
  ·subst hab;exact h1
  ·exact Int.lt_trans (ih (by omega) a (by omega)) h1
theorem Vu(l:List I4):(∀ i,i<l.length→Ox l i)↔(∀ i,i<l.length→yK l i):=by
 constructor
 ·intro h
  have hr:=uV l l.length fun i hi=>(h i hi).2.1
  intro i hi
  obtain⟨h1,h2,h3,h4,h5⟩:=h i hi
  refine⟨h1,h2, ?_,h4,h5⟩
  rcases h3 with h3 | ⟨⟨p,hp,hu⟩,h3⟩
  ·exact Or.inl h3
  ·refine Or.inr ⟨p, ?_,hu⟩
   rcases Nat.lt_trichotomy p i with h |h |h
   ·exact h
   ·subst h;omega
   ·have:=hr p hp i h;omega
 ·intro h
  have hr:=uV l l.length fun i hi=>(h i hi).2.1
  intro i hi
  obtain⟨h1,h2,h3,h4,h5⟩:=h i hi
  refine⟨h1,h2, ?_,h4,h5⟩
  rcases h3 with h3 | ⟨p,hp,hu⟩
  ·exact Or.inl h3
  ·exact Or.inr ⟨⟨p,by omega,hu⟩,by have:=hr i hi p hp;omega⟩
theorem uY(c:Int)(l m:List I4)(hl:l.length≤1048576)(hm:m.length≤1048576):zA (c,l,m,())=some (bb (kZ c l m),()):=by
 show iO.FF (300+l.length+m.length) c l m=_
 simp only[iO.FF,iO.T,xB,Option.bind_some]
 have e1:=fun k0=>abX k0 c l m hl hm (fun t=>iO.A2 c l m t) (fun _=>iO.A3 c l m ()) rfl rfl
 have e0:=abY (300+l.length+m.length) c l m _ hl (fun t f f3 f4=>iO.A0 c l m t f f3 f4)
  (fun f f3 f4=>iO.A1 (fun i f f3 f4=>iO.G1 (300+l.length+m.length) (fun t=>iO.A2 c l m t) (fun _=>iO.A3 c l m ()) (300+l.length+m.length) i f f3 f4) c l m f f3 f4) rfl
  (e1 _ _ (by omega)) (300+l.length+m.length) (by omega)
 rw[e0,Vu]
 unfold kZ
 grind [=fC]
def yL(a b:Int):Int:=if a<b then -1 else if a>b then 1 else 0
theorem yG(a b:Int):qi (a,b,())=some (yL a b,()):=by
 have h:∀ x:Int,wI (x,())=some (false,()):=fun x=>by simp[wI,J7.T]
 simp only[qi,Jw.T,h,Option.bind_some,cond_false]
 unfold yL
 grind [=fC]
theorem xP(a b:Int):yL a b<0↔a<b:=by unfold yL;split;omega;split <;>omega
theorem xQ(a b:Int):yL a b=0↔a=b:=by unfold yL;split;omega;split <;>omega
theorem NK(i j:Nat)(h:i+j≤4194304):af (Int.fdiv (IntKind.u64.wrap (af ((i:Int)+(j:Int)))) (2 ^ 1))=(((i+j) / 2:Nat):Int):=by
 rw[aJ ((i:Int)+j) (by omega),u64_in _ (by omega)]
 rw[show Int.fdiv ((i:Int)+(j:Int)) (2 ^ 1)=(((i+j) / 2:Nat):Int) by
  rw[Int.fdiv_eq_ediv_of_nonneg _ (by decide)];omega]
 exact aJ _ (by omega)
theorem bsearch(l:List I4)(u:Int)(hl:l.length≤1048576)(hr:qC l l.length):
  ∃ p:Nat,Gz (l,u,())=some ((p:Int),bb (iR l l.length u),())∧p≤l.length∧(∀ q,q<p→(g4 l q).1<u)∧(∀ q,p≤q→q<l.length→u≤(g4 l q).1)∧(iR l l.length u→p<l.length∧(g4 l p).1=u):=by
 have key:∀ (k0 k i j:Nat),i≤j→j≤l.length→j - i<k→(∀ q,q<i→(g4 l q).1<u)→(∀ q,j≤q→q<l.length→u≤(g4 l q).1)→
   ∃ p:Nat,vY.G0 k0 (fun x2 t n i=>vY.A0 l u x2 t n i) k l u (l.length:Int) i j=some ((p:Int),bb (iR l l.length u),())∧p≤l.length∧(∀ q,q<p→(g4 l q).1<u)∧(∀ q,p≤q→q<l.length→u≤(g4 l q).1):=by
  intro k0 k
  induction k with
  |zero=>intro i j _ _ h;omega
  |succ k ih=>
   intro i j hij hj hk hlo hhi
   simp only[vY.G0,vY.R0,NK i j (by omega),zo,Jv.T,yG,Option.bind_some,bZ]
   by_cases h:i<j
   ·have hw:af ((((i+j) / 2:Nat):Int)+1)=(((i+j) / 2+1:Nat):Int):=aJ _ (by omega)
    rw[hw,decide_eq_true (by omega),cond_true,if_pos (by omega)]
    by_cases hc:(g4 l ((i+j) / 2)).1<u
    ·rw[decide_eq_true ((xP _ _).2 hc),cond_true]
     refine ih _ _ (by omega) hj (by omega) (fun q hq=> ?_) hhi
     by_cases h2:q=(i+j) / 2
     ·subst h2;exact hc
     ·exact Int.lt_trans (hr _ (by omega) q (by omega)) hc
    ·rw[decide_eq_false (fun h=>hc ((xP _ _).1 h)),cond_false]
     refine ih _ _ (by omega) (by omega) (by omega) hlo (fun q h1 h2=> ?_)
     by_cases h3:q=(i+j) / 2
     ·subst h3;omega
     ·have:=hr q h2 ((i+j) / 2) (by omega);omega
   ·have:i=j:=by omega
    subst this
    rw[decide_eq_false (by omega),cond_false]
    simp only[vY.A0,zo,Jv.T,yG,Option.bind_some,bZ]
    refine⟨i, ?_,hj,hlo,hhi⟩
    by_cases h4:i<l.length
    ·rw[decide_eq_true (by omega),cond_true,if_pos (by omega)]
     congr 3
     by_cases h5:(g4 l i).1=u
     ·rw[dA ⟨i,h4,h5⟩]
      exact beq_iff_eq.2 ((xQ _ _).2 h5)
     ·rw[eH]
      ·exact beq_eq_false_iff_ne.2 fun h=>h5 ((xQ _ _).1 h)
      ·rintro⟨p,hp,hpu⟩
       by_cases h6:p<i
       ·have:=hlo p h6;omega
       ·have:=hhi i (by omega) h4
        by_cases h7:p=i
        ·subst h7;exact h5 hpu
        ·have:=hr p hp i (by omega);omega
    ·rw[decide_eq_false (by omega),cond_false]
     congr 3
     rw[eH]
     rintro⟨p,hp,hpu⟩
     have:=hlo p (by omega);omega
 obtain⟨p,h1,h2,h3,h4⟩:=key (300+l.length) (300+l.length) 0 l.length (by omega) (by omega) (by omega) (by intro q hq;omega) (by intro q h1 h2;omega)
 refine⟨p,h1,h2,h3,h4, ?_⟩
 rintro⟨q,hq,hqu⟩
 by_cases h5:q<p
 ·have:=h3 q h5;omega
 ·have h6:=h4 p (by omega) (by omega)
  refine⟨by omega, ?_⟩
  by_cases h7:p=q
  ·subst h7;exact hqu
  ·have:=hr q hq p (by omega);omega
theorem VN(c:Int)(l m:List I4)(u:Int)(hl:l.length≤1048576)(hr:qC l l.length):
  ∃ p:Nat,qm (c,l,m,u,())=some ((p:Int),bb (iR l l.length u),())∧p≤l.length∧(iR l l.length u→p<l.length∧(g4 l p).1=u):=by
 obtain⟨p,h1,h2,h3,h4,h5⟩:=bsearch l u hl hr
 exact⟨p,by simp only[qm,J6.T,h1,Option.bind_some],h2,h5⟩
theorem Oa(c:Int)(l m:List I4)(u:Int)(hl:l.length≤1048576)(hr:qC l l.length):mP (c,l,m,u,())=some (bb (u=0∨iR l l.length u),()):=by
 obtain⟨p,h1,h2,h3⟩:=VN c l m u hl hr
 simp only[mP,Qa.T,h1,Option.bind_some]
 grind [=fC]
theorem abq(l:List I4)(i:Nat)(h:∀ j,j<i→yK l j)(hi:i≤l.length):qC (l.take i) (l.take i).length:=by
 have hr:=uV l i fun j hj=>(h j hj).2.1
 intro b hb a ha
 rw[List.length_take]at hb
 have:=hr b (by omega) a ha
 simp only[g4,List.getD_eq_getElem?_getD,List.getElem?_take]at this ⊢
 rw[if_pos (by omega),if_pos (by omega)]
 exact this
theorem acW(l:List I4)(i:Nat)(u:Int)(hi:i≤l.length):iR (l.take i) (l.take i).length u↔iR l i u:=by
 have e:∀ p,p<i→g4 (l.take i) p=g4 l p:=fun p hp=>by
  simp only[g4,List.getD_eq_getElem?_getD,List.getElem?_take]
  rw[if_pos hp]
 rw[List.length_take,Nat.min_eq_left hi]
 exact⟨fun⟨p,hp,h⟩=>⟨p,hp,by rw[←e p hp];exact h⟩,fun⟨p,hp,h⟩=>⟨p,hp,by rw[e p hp];exact h⟩⟩
theorem ach(k0:Nat)(c:Int)(l m:List I4)(Q:Prop)(hl:l.length≤1048576)(hx0:Bool→Int→List I4→List I4→Option (Bool×Unit))(hx1:Int→List I4→List I4→Option (Bool×Unit))(h2:hx0 false c l m=some (false,()))(h3:(∀ j,j<l.length→yK l j)→hx1 c l m=some (bb Q,()))(k:Nat)(hk:l.length<k):
  iP.G0 k0 hx0 hx1 k l l.length 0 c l m=some (bb ((∀ j,j<l.length→yK l j)∧Q),()):=by
 refine EZ (g:=fun k i=>iP.G0 k0 hx0 hx1 k l l.length (i:Nat) c l m) (fun k i hi hb=> ?_) (fun hb k=> ?_) k hk
 ·have hh:=Oa 0 (l.take i) [] (g4 l i).2.1 (by rw[List.length_take];omega) (abq l i hb (by omega))
  rw[lK (show((g4 l i).2.1=0∨iR (l.take i) (l.take i).length (g4 l i).2.1)↔((g4 l i).2.1=0∨iR l i (g4 l i).2.1) by rw[acW l i _ (by omega)])]at hh
  have hw:af ((i:Int)+1)=((i+1:Nat):Int):=aJ _ (by omega)
  simp only[iP.G0,iP.R0,bZ,Int.toNat_natCast,hh,Oo,EJ,UM,Option.bind_some,hw]
  have hd:decide (i<(l.length:Int))=true:=decide_eq_true (by omega)
  unfold yK
  by_cases h0:0<i
  ·have hw':af ((i:Int) - 1)=((i - 1:Nat):Int):=(aJ _ (by omega)).trans (by omega)
   rw[hw']
   simp only[bZ]
   grind [=fC]
  ·have:i=0:=by omega
   subst this
   grind [=fC]
 ·simp only[iP.G0,iP.R0]
  rw[decide_eq_false (by omega),cond_false,h3 hb]
theorem acg(k0:Nat)(c:Int)(l m:List I4)(hl:l.length≤1048576)(hm:m.length≤1048576)(hr:qC l l.length)(hx2:Bool→Option (Bool×Unit))(hx3:Unit→Option (Bool×Unit))(h2:hx2 false=some (false,()))(h3:hx3 ()=some (true,()))(k:Nat)(hk:m.length<k):
  iP.G1 k0 hx2 hx3 k m m.length 0 c l m=some (bb (∀ j,j<m.length→Bz l m j),()):=by
 refine Ba (g:=fun k i=>iP.G1 k0 hx2 hx3 k m m.length (i:Nat) c l m) (fun k i hi _=> ?_) (fun _ k=> ?_) k hk
 ·have hh:=Oa c l m (g4 m i).2.1 hl hr
  have hw:af ((i:Int)+1)=((i+1:Nat):Int):=aJ _ (by omega)
  simp only[iP.G1,iP.R1,bZ,hh,Oo,EJ,UM,Option.bind_some,hw]
  have hd:decide (i<(m.length:Int))=true:=decide_eq_true (by omega)
  unfold Bz
  by_cases h0:0<i
  ·have hw':af ((i:Int) - 1)=((i - 1:Nat):Int):=(aJ _ (by omega)).trans (by omega)
   rw[hw']
   simp only[bZ]
   grind [=fC]
  ·have:i=0:=by omega
   subst this
   grind [=fC]
 ·simp only[iP.G1,iP.R1]
  rw[decide_eq_false (by omega),cond_false,h3]
theorem Vt(c:Int)(l m:List I4)(hl:l.length≤1048576)(hm:m.length≤1048576):Dj (c,l,m,())=some (bb (kZ c l m),()):=by
 show iP.FF (300+l.length+m.length) c l m=_
 simp only[iP.FF,iP.T,EJ,Option.bind_some]
 have e0:=ach (300+l.length+m.length) c l m _ hl (fun t f f3 f4=>iP.A0 c l m t f f3 f4)
  (fun f f3 f4=>iP.A1 (fun t t' i f f3 f4=>iP.G1 (300+l.length+m.length) (fun t=>iP.A2 c l m t) (fun _=>iP.A3 c l m ()) (300+l.length+m.length) t t' i f f3 f4) c l m f f3 f4) rfl
  (fun hb=>acg _ c l m hl hm (uV l _ fun i hi=>(hb i hi).2.1) (fun t=>iP.A2 c l m t) (fun _=>iP.A3 c l m ()) rfl rfl _ (by omega)) (300+l.length+m.length) (by omega)
 rw[e0]
 unfold kZ
 grind [=fC]
end Go.Rv
