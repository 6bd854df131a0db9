/- Plain facts: farm. -/
import Derived.Test.YtjknhphmhfbghaaGreatFM19
set_option linter.unusedVariables false
set_option linter.unusedSimpArgs false
set_option linter.unusedSectionVars false
namespace Go.Rv
abbrev I4:=Int×Int×Int×Int×Unit
abbrev I3:=Int×Int×Int×Unit
abbrev g4(l:List I4)(i:Nat):I4:=l.getD i (0,0,0,0,())
abbrev g3(l:List I3)(i:Nat):I3:=l.getD i (0,0,0,())
def iG(z:Int):Prop:=1≤z∧z≤1000000
def dP(z:Int):Prop:=0≤z∧z≤1125899906842624
def jL(z:Int):Prop:=1≤z∧z≤1073741824
def oL(z:Int):Prop:=0≤z∧z≤1000000
def iV(l:List I4)(n:Nat)(u:Int):Prop:=∃ p,p<n∧(g4 l p).1=u
def yQ(l:List I4)(i:Nat):Prop:=iG (g4 l i).1∧(0<i→(g4 l (i - 1)).1<(g4 l i).1)∧((g4 l i).2.1=0∨iV l i (g4 l i).2.1)∧dP (g4 l i).2.2.1∧jL (g4 l i).2.2.2.1
def BM(l m:List I4)(i:Nat):Prop:=iG (g4 m i).1∧(0<i→(g4 m (i - 1)).1<(g4 m i).1)∧((g4 m i).2.1=0∨iV l l.length (g4 m i).2.1)∧dP (g4 m i).2.2.1∧jL (g4 m i).2.2.2.1
def lD(c:Int)(l m:List I4):Prop:=dP c∧l.length≤30∧m.length≤60∧(∀ i,i<l.length→yQ l i)∧(∀ i,i<m.length→BM l m i)
theorem EM(n:Int):lM (n,())=some (bb (iG n),()):=by
 simp only[lM,TV.T, ←yA]
 by_cases h:n≥1
 ·rw[dD h];simp only[cond_true];congr 2;exact lQ (by unfold iG;omega)
 ·rw[eU h];simp only[cond_false];congr 2;exact(eU (by unfold iG;omega)).symm
theorem xJ(n:Int):eG (n,())=some (bb (dP n),()):=by
 simp only[eG,SN.T, ←yA]
 by_cases h:n≥0
 ·rw[dD h];simp only[cond_true];congr 2;exact lQ (by unfold dP;omega)
 ·rw[eU h];simp only[cond_false];congr 2;exact(eU (by unfold dP;omega)).symm
theorem LQ(n:Int):gG (n,())=some (bb (jL n),()):=by
 simp only[gG,Rz.T, ←yA]
 by_cases h:n≥1
 ·rw[dD h];simp only[cond_true];congr 2;exact lQ (by unfold jL;omega)
 ·rw[eU h];simp only[cond_false];congr 2;exact(eU (by unfold jL;omega)).symm
theorem yL(n a b:Int):mr (n,a,b,())=some (bb (a≤n∧n≤b),()):=by
 simp only[mr,WG.T, ←yA]
 by_cases h:a≤n
 ·rw[dD h];simp only[cond_true];congr 2;exact lQ (by omega)
 ·rw[eU h];simp only[cond_false];congr 2;exact(eU (by omega)).symm
theorem OM(n:Int):gI (n,())=some (bb (iG n),()):=by simp only[gI,Ep.T,yL,Option.bind_some];rfl
theorem EN(n:Int):jc (n,())=some (bb (dP n),()):=by simp only[jc,D9.T,yL,Option.bind_some];rfl
theorem UX(n:Int):kG (n,())=some (bb (jL n),()):=by simp only[kG,DT.T,yL,Option.bind_some];rfl
theorem MB(c:Int)(l m:List I4)(u:Int)(hl:l.length≤1048576):∃ p:Int,jU (c,l,m,u,())=some (p,())∧((¬ iV l l.length u∧p= -1)∨∃ q:Nat,p=q∧q<l.length∧(g4 l q).1=u∧∀ j,j<q→(g4 l j).1≠u):=by
 have key:∀ (k0 k i:Nat),i≤l.length→l.length - i<k→(∀ j,j<i→(g4 l j).1≠u)→∃ p:Int,wY.G0 k0 (fun t=>wY.A0 c l m u t) (fun _=>wY.A1 c l m u ()) k u i c l m=some (p,())∧((¬ iV l l.length u∧p= -1)∨∃ q:Nat,p=q∧q<l.length∧(g4 l q).1=u∧∀ j,j<q→(g4 l j).1≠u):=by
  intro k0 k
  induction k with
  |zero=>intro i _ h;omega
  |succ k ih=>
   intro i hi hk hb
   rw[wY.G0,wY.R0]
   by_cases h:i<l.length
   ·have hw:af ((i:Int)+1)=((i+1:Nat):Int):=aI _ (by omega)
    rw[hw,decide_eq_true (by omega),cond_true,if_pos (by omega)]
    by_cases hu:(rd (0,0,0,0,()) l (i:Int)).1=u
    ·rw[show((rd (0,0,0,0,()) l (i:Int)).1==u)=true by simpa using hu]
     exact⟨i,rfl,Or.inr ⟨i,rfl,h,hu,hb⟩⟩
    ·rw[show((rd (0,0,0,0,()) l (i:Int)).1==u)=false by simpa using hu]
     refine ih (i+1) (by omega) (by omega) fun j hj=> ?_
     by_cases hji:j=i
     ·subst hji;exact hu
     ·exact hb j (by omega)
   ·rw[decide_eq_false (by omega),cond_false]
    refine⟨-1,rfl,Or.inl ⟨?_,rfl⟩⟩
    rintro⟨p,hp,hpu⟩
    exact hb p (by omega) hpu
 exact key _ _ 0 (by omega) (by show _<300+l.length+m.length;omega) (by intro j hj;omega)
theorem ach(k0:Nat)(c:Int)(l m:List I4)(hl:l.length≤1048576)(hm:m.length≤1048576)(hx2:Bool→Option (Bool×Unit))(hx3:Unit→Option (Bool×Unit))(h2:hx2 false=some (false,()))(h3:hx3 ()=some (true,()))(k:Nat)(hk:m.length<k):
  iR.G1 k0 hx2 hx3 k 0 c l m=some (bb (∀ j,j<m.length→BM l m j),()):=by
 refine Bz (g:=fun k i=>iR.G1 k0 hx2 hx3 k (i:Nat) c l m) (fun k i hi _=> ?_) (fun _ k=> ?_) k hk
 ·obtain⟨p,hp,hq⟩:=MB c l m (g4 m i).2.1 hl
  have hw:af ((i:Int)+1)=((i+1:Nat):Int):=aI _ (by omega)
  simp only[iR.G1,iR.R1,bZ,hp,EM,xJ,LQ,Option.bind_some,hw]
  have hn:p<0↔¬ iV l l.length (g4 m i).2.1:=by
   rcases hq with ⟨h,rfl⟩ | ⟨q,rfl,h1,h2,_⟩
   ·exact⟨fun _=>h,fun _=>by omega⟩
   ·exact⟨fun h=>by omega,fun h=>absurd ⟨q,h1,h2⟩ h⟩
  have hd:decide (i<(m.length:Int))=true:=decide_eq_true (by omega)
  unfold BM
  by_cases h0:0<i
  ·have hw':af ((i:Int) - 1)=((i - 1:Nat):Int):=(aI _ (by omega)).trans (by omega)
   rw[hw']
   simp only[bZ]
   grind [=fG]
  ·have:i=0:=by omega
   subst this
   grind [=fG]
 ·simp only[iR.G1,iR.R1]
  rw[decide_eq_false (by omega),cond_false,h3]
def OV(l:List I4)(i:Nat):Prop:=iG (g4 l i).1∧(0<i→(g4 l (i - 1)).1<(g4 l i).1)∧((g4 l i).2.1=0∨(iV l l.length (g4 l i).2.1∧(g4 l i).2.1<(g4 l i).1))∧dP (g4 l i).2.2.1∧jL (g4 l i).2.2.2.1
theorem aci(k0:Nat)(c:Int)(l m:List I4)(Q:Prop)(hl:l.length≤1048576)(hx0:Bool→Int→List I4→List I4→Option (Bool×Unit))(hx1:Int→List I4→List I4→Option (Bool×Unit))(h2:hx0 false c l m=some (false,()))(h3:hx1 c l m=some (bb Q,()))(k:Nat)(hk:l.length<k):
  iR.G0 k0 hx0 hx1 k 0 c l m=some (bb ((∀ j,j<l.length→OV l j)∧Q),()):=by
 refine Fa (g:=fun k i=>iR.G0 k0 hx0 hx1 k (i:Nat) c l m) (fun k i hi _=> ?_) (fun _ k=> ?_) k hk
 ·obtain⟨p,hp,hq⟩:=MB c l m (g4 l i).2.1 hl
  have hw:af ((i:Int)+1)=((i+1:Nat):Int):=aI _ (by omega)
  simp only[iR.G0,iR.R0,bZ,hp,EM,xJ,LQ,Option.bind_some,hw]
  have hn:p<0↔¬ iV l l.length (g4 l i).2.1:=by
   rcases hq with ⟨h,rfl⟩ | ⟨q,rfl,h1,h2,_⟩
   ·exact⟨fun _=>h,fun _=>by omega⟩
   ·exact⟨fun h=>by omega,fun h=>absurd ⟨q,h1,h2⟩ h⟩
  have hd:decide (i<(l.length:Int))=true:=decide_eq_true (by omega)
  unfold OV
  by_cases h0:0<i
  ·have hw':af ((i:Int) - 1)=((i - 1:Nat):Int):=(aI _ (by omega)).trans (by omega)
   rw[hw']
   simp only[bZ]
   grind [=fG]
  ·have:i=0:=by omega
   subst this
   grind [=fG]
 ·simp only[iR.G0,iR.R0]
  rw[decide_eq_false (by omega),cond_false,h3]
def qK(l:List I4)(n:Nat):Prop:=∀ b,b<n→∀ a,a<b→(g4 l a).1<(g4 l b).1
theorem uZ(l:List I4)(n:Nat)(h:∀ i,i<n→0<i→(g4 l (i - 1)).1<(g4 l i).1):qK l n:=by
 intro b
 induction b with
 |zero=>intro _ a ha;omega
 |succ b ih=>
  intro hb a ha
  have h1:=h (b+1) hb (by omega)
  rw[show b+1 - 1=b by omega]at h1
  by_cases hab:a=b
  ·subst hab;exact h1
  ·exact Int.lt_trans (ih (by omega) a (by omega)) h1
theorem VD(l:List I4):(∀ i,i<l.length→OV l i)↔(∀ i,i<l.length→yQ l i):=by
 constructor
 ·intro h
  have hr:=uZ l l.length fun i hi=>(h i hi).2.1
  intro i hi
  obtain⟨h1,h2,h3,h4,h5⟩:=h i hi
  refine⟨h1,h2, ?_,h4,h5⟩
  rcases h3 with h3 | ⟨⟨p,hp,hu⟩,h3⟩
  ·exact Or.inl h3
  ·refine Or.inr ⟨p, ?_,hu⟩
   rcases Nat.lt_trichotomy p i with h |h |h
   ·exact h
   ·subst h;omega
   ·have:=hr p hp i h;omega
 ·intro h
  have hr:=uZ l l.length fun i hi=>(h i hi).2.1
  intro i hi
  obtain⟨h1,h2,h3,h4,h5⟩:=h i hi
  refine⟨h1,h2, ?_,h4,h5⟩
  rcases h3 with h3 | ⟨p,hp,hu⟩
  ·exact Or.inl h3
  ·exact Or.inr ⟨⟨p,by omega,hu⟩,by have:=hr i hi p hp;omega⟩
theorem vg(c:Int)(l m:List I4)(hl:l.length≤1048576)(hm:m.length≤1048576):zL (c,l,m,())=some (bb (lD c l m),()):=by
 show iR.FF (300+l.length+m.length) c l m=_
 simp only[iR.FF,iR.T,xJ,Option.bind_some]
 have e1:=fun k0=>ach k0 c l m hl hm (fun t=>iR.A2 c l m t) (fun _=>iR.A3 c l m ()) rfl rfl
 have e0:=aci (300+l.length+m.length) c l m _ hl (fun t f f3 f4=>iR.A0 c l m t f f3 f4)
  (fun f f3 f4=>iR.A1 (fun i f f3 f4=>iR.G1 (300+l.length+m.length) (fun t=>iR.A2 c l m t) (fun _=>iR.A3 c l m ()) (300+l.length+m.length) i f f3 f4) c l m f f3 f4) rfl
  (e1 _ _ (by omega)) (300+l.length+m.length) (by omega)
 rw[e0,VD]
 unfold lD
 grind [=fG]
def yR(a b:Int):Int:=if a<b then -1 else if a>b then 1 else 0
theorem yM(a b:Int):qw (a,b,())=some (yR a b,()):=by
 have h:∀ x:Int,wL (x,())=some (false,()):=fun x=>by simp[wL,KE.T]
 simp only[qw,JI.T,h,Option.bind_some,cond_false]
 unfold yR
 grind [=fG]
theorem xY(a b:Int):yR a b<0↔a<b:=by unfold yR;split;omega;split <;>omega
theorem xZ(a b:Int):yR a b=0↔a=b:=by unfold yR;split;omega;split <;>omega
theorem Og(i j:Nat)(h:i+j≤4194304):af (Int.fdiv (IntKind.u64.wrap (af ((i:Int)+(j:Int)))) (2 ^ 1))=(((i+j) / 2:Nat):Int):=by
 rw[aI ((i:Int)+j) (by omega),u64_in _ (by omega)]
 rw[show Int.fdiv ((i:Int)+(j:Int)) (2 ^ 1)=(((i+j) / 2:Nat):Int) by
  rw[Int.fdiv_eq_ediv_of_nonneg _ (by decide)];omega]
 exact aI _ (by omega)
theorem bsearch(l:List I4)(u:Int)(hl:l.length≤1048576)(hr:qK l l.length):
  ∃ p:Nat,GU (l,u,())=some ((p:Int),bb (iV l l.length u),())∧p≤l.length∧(∀ q,q<p→(g4 l q).1<u)∧(∀ q,p≤q→q<l.length→u≤(g4 l q).1)∧(iV l l.length u→p<l.length∧(g4 l p).1=u):=by
 have key:∀ (k0 k i j:Nat),i≤j→j≤l.length→j - i<k→(∀ q,q<i→(g4 l q).1<u)→(∀ q,j≤q→q<l.length→u≤(g4 l q).1)→
   ∃ p:Nat,wz.G0 k0 (fun x2 t n i=>wz.A0 l u x2 t n i) k l u (l.length:Int) i j=some ((p:Int),bb (iV l l.length u),())∧p≤l.length∧(∀ q,q<p→(g4 l q).1<u)∧(∀ q,p≤q→q<l.length→u≤(g4 l q).1):=by
  intro k0 k
  induction k with
  |zero=>intro i j _ _ h;omega
  |succ k ih=>
   intro i j hij hj hk hlo hhi
   simp only[wz.G0,wz.R0,Og i j (by omega),zF,JH.T,yM,Option.bind_some,bZ]
   by_cases h:i<j
   ·have hw:af ((((i+j) / 2:Nat):Int)+1)=(((i+j) / 2+1:Nat):Int):=aI _ (by omega)
    rw[hw,decide_eq_true (by omega),cond_true,if_pos (by omega)]
    by_cases hc:(g4 l ((i+j) / 2)).1<u
    ·rw[decide_eq_true ((xY _ _).2 hc),cond_true]
     refine ih _ _ (by omega) hj (by omega) (fun q hq=> ?_) hhi
     by_cases h2:q=(i+j) / 2
     ·subst h2;exact hc
     ·exact Int.lt_trans (hr _ (by omega) q (by omega)) hc
    ·rw[decide_eq_false (fun h=>hc ((xY _ _).1 h)),cond_false]
     refine ih _ _ (by omega) (by omega) (by omega) hlo (fun q h1 h2=> ?_)
     by_cases h3:q=(i+j) / 2
     ·subst h3;omega
     ·have:=hr q h2 ((i+j) / 2) (by omega);omega
   ·have:i=j:=by omega
    subst this
    rw[decide_eq_false (by omega),cond_false]
    simp only[wz.A0,zF,JH.T,yM,Option.bind_some,bZ]
    refine⟨i, ?_,hj,hlo,hhi⟩
    by_cases h4:i<l.length
    ·rw[decide_eq_true (by omega),cond_true,if_pos (by omega)]
     congr 3
     by_cases h5:(g4 l i).1=u
     ·rw[dD ⟨i,h4,h5⟩]
      exact beq_iff_eq.2 ((xZ _ _).2 h5)
     ·rw[eU]
      ·exact beq_eq_false_iff_ne.2 fun h=>h5 ((xZ _ _).1 h)
      ·rintro⟨p,hp,hpu⟩
       by_cases h6:p<i
       ·have:=hlo p h6;omega
       ·have:=hhi i (by omega) h4
        by_cases h7:p=i
        ·subst h7;exact h5 hpu
        ·have:=hr p hp i (by omega);omega
    ·rw[decide_eq_false (by omega),cond_false]
     congr 3
     rw[eU]
     rintro⟨p,hp,hpu⟩
     have:=hlo p (by omega);omega
 obtain⟨p,h1,h2,h3,h4⟩:=key (300+l.length) (300+l.length) 0 l.length (by omega) (by omega) (by omega) (by intro q hq;omega) (by intro q h1 h2;omega)
 refine⟨p,h1,h2,h3,h4, ?_⟩
 rintro⟨q,hq,hqu⟩
 by_cases h5:q<p
 ·have:=h3 q h5;omega
 ·have h6:=h4 p (by omega) (by omega)
  refine⟨by omega, ?_⟩
  by_cases h7:p=q
  ·subst h7;exact hqu
  ·have:=hr q hq p (by omega);omega
theorem VU(c:Int)(l m:List I4)(u:Int)(hl:l.length≤1048576)(hr:qK l l.length):
  ∃ p:Nat,qA (c,l,m,u,())=some ((p:Int),bb (iV l l.length u),())∧p≤l.length∧(iV l l.length u→p<l.length∧(g4 l p).1=u):=by
 obtain⟨p,h1,h2,h3,h4,h5⟩:=bsearch l u hl hr
 exact⟨p,by simp only[qA,KD.T,h1,Option.bind_some],h2,h5⟩
theorem OB(c:Int)(l m:List I4)(u:Int)(hl:l.length≤1048576)(hr:qK l l.length):mY (c,l,m,u,())=some (bb (u=0∨iV l l.length u),()):=by
 obtain⟨p,h1,h2,h3⟩:=VU c l m u hl hr
 simp only[mY,Qq.T,h1,Option.bind_some]
 grind [=fG]
theorem abH(l:List I4)(i:Nat)(h:∀ j,j<i→yQ l j)(hi:i≤l.length):qK (l.take i) (l.take i).length:=by
 have hr:=uZ l i fun j hj=>(h j hj).2.1
 intro b hb a ha
 rw[List.length_take]at hb
 have:=hr b (by omega) a ha
 simp only[g4,List.getD_eq_getElem?_getD,List.getElem?_take]at this ⊢
 rw[if_pos (by omega),if_pos (by omega)]
 exact this
theorem adh(l:List I4)(i:Nat)(u:Int)(hi:i≤l.length):iV (l.take i) (l.take i).length u↔iV l i u:=by
 have e:∀ p,p<i→g4 (l.take i) p=g4 l p:=fun p hp=>by
  simp only[g4,List.getD_eq_getElem?_getD,List.getElem?_take]
  rw[if_pos hp]
 rw[List.length_take,Nat.min_eq_left hi]
 exact⟨fun⟨p,hp,h⟩=>⟨p,hp,by rw[←e p hp];exact h⟩,fun⟨p,hp,h⟩=>⟨p,hp,by rw[e p hp];exact h⟩⟩
theorem acA(k0:Nat)(c:Int)(l m:List I4)(Q:Prop)(hl:l.length≤1048576)(hx0:Bool→Int→List I4→List I4→Option (Bool×Unit))(hx1:Int→List I4→List I4→Option (Bool×Unit))(h2:hx0 false c l m=some (false,()))(h3:(∀ j,j<l.length→yQ l j)→hx1 c l m=some (bb Q,()))(k:Nat)(hk:l.length<k):
  iT.G0 k0 hx0 hx1 k l l.length 0 c l m=some (bb ((∀ j,j<l.length→yQ l j)∧Q),()):=by
 refine Fa (g:=fun k i=>iT.G0 k0 hx0 hx1 k l l.length (i:Nat) c l m) (fun k i hi hb=> ?_) (fun hb k=> ?_) k hk
 ·have hh:=OB 0 (l.take i) [] (g4 l i).2.1 (by rw[List.length_take];omega) (abH l i hb (by omega))
  rw[lQ (show((g4 l i).2.1=0∨iV (l.take i) (l.take i).length (g4 l i).2.1)↔((g4 l i).2.1=0∨iV l i (g4 l i).2.1) by rw[adh l i _ (by omega)])]at hh
  have hw:af ((i:Int)+1)=((i+1:Nat):Int):=aI _ (by omega)
  simp only[iT.G0,iT.R0,bZ,Int.toNat_natCast,hh,OM,EN,UX,Option.bind_some,hw]
  have hd:decide (i<(l.length:Int))=true:=decide_eq_true (by omega)
  unfold yQ
  by_cases h0:0<i
  ·have hw':af ((i:Int) - 1)=((i - 1:Nat):Int):=(aI _ (by omega)).trans (by omega)
   rw[hw']
   simp only[bZ]
   grind [=fG]
  ·have:i=0:=by omega
   subst this
   grind [=fG]
 ·simp only[iT.G0,iT.R0]
  rw[decide_eq_false (by omega),cond_false,h3 hb]
theorem acz(k0:Nat)(c:Int)(l m:List I4)(hl:l.length≤1048576)(hm:m.length≤1048576)(hr:qK l l.length)(hx2:Bool→Option (Bool×Unit))(hx3:Unit→Option (Bool×Unit))(h2:hx2 false=some (false,()))(h3:hx3 ()=some (true,()))(k:Nat)(hk:m.length<k):
  iT.G1 k0 hx2 hx3 k m m.length 0 c l m=some (bb (∀ j,j<m.length→BM l m j),()):=by
 refine Bz (g:=fun k i=>iT.G1 k0 hx2 hx3 k m m.length (i:Nat) c l m) (fun k i hi _=> ?_) (fun _ k=> ?_) k hk
 ·have hh:=OB c l m (g4 m i).2.1 hl hr
  have hw:af ((i:Int)+1)=((i+1:Nat):Int):=aI _ (by omega)
  simp only[iT.G1,iT.R1,bZ,hh,OM,EN,UX,Option.bind_some,hw]
  have hd:decide (i<(m.length:Int))=true:=decide_eq_true (by omega)
  unfold BM
  by_cases h0:0<i
  ·have hw':af ((i:Int) - 1)=((i - 1:Nat):Int):=(aI _ (by omega)).trans (by omega)
   rw[hw']
   simp only[bZ]
   grind [=fG]
  ·have:i=0:=by omega
   subst this
   grind [=fG]
 ·simp only[iT.G1,iT.R1]
  rw[decide_eq_false (by omega),cond_false,h3]
theorem adg(c:Int)(l m:List I4)(hl:l.length≤1048576)(hm:m.length≤1048576):Kq (c,l,m,())=some (bb (lD c l m),()):=by
 show iT.FF (300+l.length+m.length) c l m=_
 simp only[iT.FF,iT.T,EN,Option.bind_some]
 have e0:=acA (300+l.length+m.length) c l m _ hl (fun t f f3 f4=>iT.A0 c l m t f f3 f4)
  (fun f f3 f4=>iT.A1 (fun t t' i f f3 f4=>iT.G1 (300+l.length+m.length) (fun t=>iT.A2 c l m t) (fun _=>iT.A3 c l m ()) (300+l.length+m.length) t t' i f f3 f4) c l m f f3 f4) rfl
  (fun hb=>acz _ c l m hl hm (uZ l _ fun i hi=>(hb i hi).2.1) (fun t=>iT.A2 c l m t) (fun _=>iT.A3 c l m ()) rfl rfl _ (by omega)) (300+l.length+m.length) (by omega)
 rw[e0]
 unfold lD
 grind [=fG]
end Go.Rv
