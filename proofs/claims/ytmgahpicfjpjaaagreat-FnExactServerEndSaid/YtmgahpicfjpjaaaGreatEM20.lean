/- Plain facts: farm. -/
import Derived.Test.YtmgahpicfjpjaaaGreatEM19
set_option linter.unusedVariables false
set_option linter.unusedSimpArgs false
set_option linter.unusedSectionVars false
namespace Go.Rv
abbrev I4:=Int×Int×Int×Int×Unit
abbrev I3:=Int×Int×Int×Unit
abbrev g4(l:List I4)(i:Nat):I4:=l.getD i (0,0,0,0,())
abbrev g3(l:List I3)(i:Nat):I3:=l.getD i (0,0,0,())
def gY(z:Int):Prop:=1≤z∧z≤1000000
def dN(z:Int):Prop:=0≤z∧z≤1125899906842624
def jy(z:Int):Prop:=1≤z∧z≤1073741824
def oJ(z:Int):Prop:=0≤z∧z≤1000000
def iK(l:List I4)(n:Nat)(u:Int):Prop:=∃ p,p<n∧(g4 l p).1=u
def yO(l:List I4)(i:Nat):Prop:=gY (g4 l i).1∧(0<i→(g4 l (i - 1)).1<(g4 l i).1)∧((g4 l i).2.1=0∨iK l i (g4 l i).2.1)∧dN (g4 l i).2.2.1∧jy (g4 l i).2.2.2.1
def BL(l m:List I4)(i:Nat):Prop:=gY (g4 m i).1∧(0<i→(g4 m (i - 1)).1<(g4 m i).1)∧((g4 m i).2.1=0∨iK l l.length (g4 m i).2.1)∧dN (g4 m i).2.2.1∧jy (g4 m i).2.2.2.1
def kQ(c:Int)(l m:List I4):Prop:=dN c∧l.length≤30∧m.length≤60∧(∀ i,i<l.length→yO l i)∧(∀ i,i<m.length→BL l m i)
theorem E8(n:Int):lq (n,())=some (bb (gY n),()):=by
 simp only[lq,Ve.T, ←yx]
 by_cases h:n≥1
 ·rw[dH h];simp only[cond_true];congr 2;exact lC (by unfold gY;omega)
 ·rw[eY h];simp only[cond_false];congr 2;exact(eY (by unfold gY;omega)).symm
theorem xH(n:Int):dY (n,())=some (bb (dN n),()):=by
 simp only[dY,Uk.T, ←yx]
 by_cases h:n≥0
 ·rw[dH h];simp only[cond_true];congr 2;exact lC (by unfold dN;omega)
 ·rw[eY h];simp only[cond_false];congr 2;exact(eY (by unfold dN;omega)).symm
theorem NI(n:Int):fZ (n,())=some (bb (jy n),()):=by
 simp only[fZ,Tj.T, ←yx]
 by_cases h:n≥1
 ·rw[dH h];simp only[cond_true];congr 2;exact lC (by unfold jy;omega)
 ·rw[eY h];simp only[cond_false];congr 2;exact(eY (by unfold jy;omega)).symm
theorem yJ(n a b:Int):nH (n,a,b,())=some (bb (a≤n∧n≤b),()):=by
 simp only[nH,XL.T, ←yx]
 by_cases h:a≤n
 ·rw[dH h];simp only[cond_true];congr 2;exact lC (by omega)
 ·rw[eY h];simp only[cond_false];congr 2;exact(eY (by omega)).symm
theorem Qe(n:Int):gu (n,())=some (bb (gY n),()):=by simp only[gu,EL.T,yJ,Option.bind_some];rfl
theorem Fa(n:Int):je (n,())=some (bb (dN n),()):=by simp only[je,Eo.T,yJ,Option.bind_some];rfl
theorem V6(n:Int):jU (n,())=some (bb (jy n),()):=by simp only[jU,D6.T,yJ,Option.bind_some];rfl
theorem N7(c:Int)(l m:List I4)(u:Int)(hl:l.length≤1048576):∃ p:Int,jG (c,l,m,u,())=some (p,())∧((¬ iK l l.length u∧p= -1)∨∃ q:Nat,p=q∧q<l.length∧(g4 l q).1=u∧∀ j,j<q→(g4 l j).1≠u):=by
 have key:∀ (k0 k i:Nat),i≤l.length→l.length - i<k→(∀ j,j<i→(g4 l j).1≠u)→∃ p:Int,wX.G0 k0 (fun t=>wX.A0 c l m u t) (fun _=>wX.A1 c l m u ()) k u i c l m=some (p,())∧((¬ iK l l.length u∧p= -1)∨∃ q:Nat,p=q∧q<l.length∧(g4 l q).1=u∧∀ j,j<q→(g4 l j).1≠u):=by
  intro k0 k
  induction k with
  |zero=>intro i _ h;omega
  |succ k ih=>
   intro i hi hk hb
   rw[wX.G0,wX.R0]
   by_cases h:i<l.length
   ·have hw:af ((i:Int)+1)=((i+1:Nat):Int):=aH _ (by omega)
    rw[hw,decide_eq_true (by omega),cond_true,if_pos (by omega)]
    by_cases hu:(rd (0,0,0,0,()) l (i:Int)).1=u
    ·rw[show((rd (0,0,0,0,()) l (i:Int)).1==u)=true by simpa using hu]
     exact⟨i,rfl,Or.inr ⟨i,rfl,h,hu,hb⟩⟩
    ·rw[show((rd (0,0,0,0,()) l (i:Int)).1==u)=false by simpa using hu]
     refine ih (i+1) (by omega) (by omega) fun j hj=> ?_
     by_cases hji:j=i
     ·subst hji;exact hu
     ·exact hb j (by omega)
   ·rw[decide_eq_false (by omega),cond_false]
    refine⟨-1,rfl,Or.inl ⟨?_,rfl⟩⟩
    rintro⟨p,hp,hpu⟩
    exact hb p (by omega) hpu
 exact key _ _ 0 (by omega) (by show _<300+l.length+m.length;omega) (by intro j hj;omega)
theorem aeg(k0:Nat)(c:Int)(l m:List I4)(hl:l.length≤1048576)(hm:m.length≤1048576)(hx2:Bool→Option (Bool×Unit))(hx3:Unit→Option (Bool×Unit))(h2:hx2 false=some (false,()))(h3:hx3 ()=some (true,()))(k:Nat)(hk:m.length<k):
  iH.G1 k0 hx2 hx3 k 0 c l m=some (bb (∀ j,j<m.length→BL l m j),()):=by
 refine qW (g:=fun k i=>iH.G1 k0 hx2 hx3 k (i:Nat) c l m) (fun k i hi _=> ?_) (fun _ k=> ?_) k hk
 ·obtain⟨p,hp,hq⟩:=N7 c l m (g4 m i).2.1 hl
  have hw:af ((i:Int)+1)=((i+1:Nat):Int):=aH _ (by omega)
  simp only[iH.G1,iH.R1,bJ,hp,E8,xH,NI,Option.bind_some,hw]
  have hn:p<0↔¬ iK l l.length (g4 m i).2.1:=by
   rcases hq with ⟨h,rfl⟩ | ⟨q,rfl,h1,h2,_⟩
   ·exact⟨fun _=>h,fun _=>by omega⟩
   ·exact⟨fun h=>by omega,fun h=>absurd ⟨q,h1,h2⟩ h⟩
  have hd:decide (i<(m.length:Int))=true:=decide_eq_true (by omega)
  unfold BL
  by_cases h0:0<i
  ·have hw':af ((i:Int) - 1)=((i - 1:Nat):Int):=(aH _ (by omega)).trans (by omega)
   rw[hw']
   simp only[bJ]
   grind [=dK]
  ·have:i=0:=by omega
   subst this
   grind [=dK]
 ·simp only[iH.G1,iH.R1]
  rw[decide_eq_false (by omega),cond_false,h3]
def Qk(l:List I4)(i:Nat):Prop:=gY (g4 l i).1∧(0<i→(g4 l (i - 1)).1<(g4 l i).1)∧((g4 l i).2.1=0∨(iK l l.length (g4 l i).2.1∧(g4 l i).2.1<(g4 l i).1))∧dN (g4 l i).2.2.1∧jy (g4 l i).2.2.2.1
theorem aeh(k0:Nat)(c:Int)(l m:List I4)(Q:Prop)(hl:l.length≤1048576)(hx0:Bool→Int→List I4→List I4→Option (Bool×Unit))(hx1:Int→List I4→List I4→Option (Bool×Unit))(h2:hx0 false c l m=some (false,()))(h3:hx1 c l m=some (bb Q,()))(k:Nat)(hk:l.length<k):
  iH.G0 k0 hx0 hx1 k 0 c l m=some (bb ((∀ j,j<l.length→Qk l j)∧Q),()):=by
 refine FI (g:=fun k i=>iH.G0 k0 hx0 hx1 k (i:Nat) c l m) (fun k i hi _=> ?_) (fun _ k=> ?_) k hk
 ·obtain⟨p,hp,hq⟩:=N7 c l m (g4 l i).2.1 hl
  have hw:af ((i:Int)+1)=((i+1:Nat):Int):=aH _ (by omega)
  simp only[iH.G0,iH.R0,bJ,hp,E8,xH,NI,Option.bind_some,hw]
  have hn:p<0↔¬ iK l l.length (g4 l i).2.1:=by
   rcases hq with ⟨h,rfl⟩ | ⟨q,rfl,h1,h2,_⟩
   ·exact⟨fun _=>h,fun _=>by omega⟩
   ·exact⟨fun h=>by omega,fun h=>absurd ⟨q,h1,h2⟩ h⟩
  have hd:decide (i<(l.length:Int))=true:=decide_eq_true (by omega)
  unfold Qk
  by_cases h0:0<i
  ·have hw':af ((i:Int) - 1)=((i - 1:Nat):Int):=(aH _ (by omega)).trans (by omega)
   rw[hw']
   simp only[bJ]
   grind [=dK]
  ·have:i=0:=by omega
   subst this
   grind [=dK]
 ·simp only[iH.G0,iH.R0]
  rw[decide_eq_false (by omega),cond_false,h3]
def qI(l:List I4)(n:Nat):Prop:=∀ b,b<n→∀ a,a<b→(g4 l a).1<(g4 l b).1
theorem vg(l:List I4)(n:Nat)(h:∀ i,i<n→0<i→(g4 l (i - 1)).1<(g4 l i).1):qI l n:=by
 intro b
 induction b with
 |zero=>intro _ a ha;omega
 |succ b ih=>
  intro hb a ha
  have h1:=h (b+1) hb (by omega)
  rw[show b+1 - 1=b by omega]at h1
  by_cases hab:a=b
  ·subst hab;exact h1
  ·exact Int.lt_trans (ih (by omega) a (by omega)) h1
theorem WO(l:List I4):(∀ i,i<l.length→Qk l i)↔(∀ i,i<l.length→yO l i):=by
 constructor
 ·intro h
  have hr:=vg l l.length fun i hi=>(h i hi).2.1
  intro i hi
  obtain⟨h1,h2,h3,h4,h5⟩:=h i hi
  refine⟨h1,h2, ?_,h4,h5⟩
  rcases h3 with h3 | ⟨⟨p,hp,hu⟩,h3⟩
  ·exact Or.inl h3
  ·refine Or.inr ⟨p, ?_,hu⟩
   rcases Nat.lt_trichotomy p i with h |h |h
   ·exact h
   ·subst h;omega
   ·have:=hr p hp i h;omega
 ·intro h
  have hr:=vg l l.length fun i hi=>(h i hi).2.1
  intro i hi
  obtain⟨h1,h2,h3,h4,h5⟩:=h i hi
  refine⟨h1,h2, ?_,h4,h5⟩
  rcases h3 with h3 | ⟨p,hp,hu⟩
  ·exact Or.inl h3
  ·exact Or.inr ⟨⟨p,by omega,hu⟩,by have:=hr i hi p hp;omega⟩
theorem vw(c:Int)(l m:List I4)(hl:l.length≤1048576)(hm:m.length≤1048576):zI (c,l,m,())=some (bb (kQ c l m),()):=by
 show iH.FF (300+l.length+m.length) c l m=_
 simp only[iH.FF,iH.T,xH,Option.bind_some]
 have e1:=fun k0=>aeg k0 c l m hl hm (fun t=>iH.A2 c l m t) (fun _=>iH.A3 c l m ()) rfl rfl
 have e0:=aeh (300+l.length+m.length) c l m _ hl (fun t f f3 f4=>iH.A0 c l m t f f3 f4)
  (fun f f3 f4=>iH.A1 (fun i f f3 f4=>iH.G1 (300+l.length+m.length) (fun t=>iH.A2 c l m t) (fun _=>iH.A3 c l m ()) (300+l.length+m.length) i f f3 f4) c l m f f3 f4) rfl
  (e1 _ _ (by omega)) (300+l.length+m.length) (by omega)
 rw[e0,WO]
 unfold kQ
 grind [=dK]
def yP(a b:Int):Int:=if a<b then -1 else if a>b then 1 else 0
theorem yK(a b:Int):qo (a,b,())=some (yP a b,()):=by
 have h:∀ x:Int,wL (x,())=some (false,()):=fun x=>by simp[wL,LQ.T]
 simp only[qo,Kz.T,h,Option.bind_some,cond_false]
 unfold yP
 grind [=dK]
theorem xY(a b:Int):yP a b<0↔a<b:=by unfold yP;split;omega;split <;>omega
theorem xZ(a b:Int):yP a b=0↔a=b:=by unfold yP;split;omega;split <;>omega
theorem PD(i j:Nat)(h:i+j≤4194304):af (Int.fdiv (IntKind.u64.wrap (af ((i:Int)+(j:Int)))) (2 ^ 1))=(((i+j) / 2:Nat):Int):=by
 rw[aH ((i:Int)+j) (by omega),u64_in _ (by omega)]
 rw[show Int.fdiv ((i:Int)+(j:Int)) (2 ^ 1)=(((i+j) / 2:Nat):Int) by
  rw[Int.fdiv_eq_ediv_of_nonneg _ (by decide)];omega]
 exact aH _ (by omega)
theorem bsearch(l:List I4)(u:Int)(hl:l.length≤1048576)(hr:qI l l.length):
  ∃ p:Nat,Hq (l,u,())=some ((p:Int),bb (iK l l.length u),())∧p≤l.length∧(∀ q,q<p→(g4 l q).1<u)∧(∀ q,p≤q→q<l.length→u≤(g4 l q).1)∧(iK l l.length u→p<l.length∧(g4 l p).1=u):=by
 have key:∀ (k0 k i j:Nat),i≤j→j≤l.length→j - i<k→(∀ q,q<i→(g4 l q).1<u)→(∀ q,j≤q→q<l.length→u≤(g4 l q).1)→
   ∃ p:Nat,wC.G0 k0 (fun x2 t n i=>wC.A0 l u x2 t n i) k l u (l.length:Int) i j=some ((p:Int),bb (iK l l.length u),())∧p≤l.length∧(∀ q,q<p→(g4 l q).1<u)∧(∀ q,p≤q→q<l.length→u≤(g4 l q).1):=by
  intro k0 k
  induction k with
  |zero=>intro i j _ _ h;omega
  |succ k ih=>
   intro i j hij hj hk hlo hhi
   simp only[wC.G0,wC.R0,PD i j (by omega),zC,Ky.T,yK,Option.bind_some,bJ]
   by_cases h:i<j
   ·have hw:af ((((i+j) / 2:Nat):Int)+1)=(((i+j) / 2+1:Nat):Int):=aH _ (by omega)
    rw[hw,decide_eq_true (by omega),cond_true,if_pos (by omega)]
    by_cases hc:(g4 l ((i+j) / 2)).1<u
    ·rw[decide_eq_true ((xY _ _).2 hc),cond_true]
     refine ih _ _ (by omega) hj (by omega) (fun q hq=> ?_) hhi
     by_cases h2:q=(i+j) / 2
     ·subst h2;exact hc
     ·exact Int.lt_trans (hr _ (by omega) q (by omega)) hc
    ·rw[decide_eq_false (fun h=>hc ((xY _ _).1 h)),cond_false]
     refine ih _ _ (by omega) (by omega) (by omega) hlo (fun q h1 h2=> ?_)
     by_cases h3:q=(i+j) / 2
     ·subst h3;omega
     ·have:=hr q h2 ((i+j) / 2) (by omega);omega
   ·have:i=j:=by omega
    subst this
    rw[decide_eq_false (by omega),cond_false]
    simp only[wC.A0,zC,Ky.T,yK,Option.bind_some,bJ]
    refine⟨i, ?_,hj,hlo,hhi⟩
    by_cases h4:i<l.length
    ·rw[decide_eq_true (by omega),cond_true,if_pos (by omega)]
     congr 3
     by_cases h5:(g4 l i).1=u
     ·rw[dH ⟨i,h4,h5⟩]
      exact beq_iff_eq.2 ((xZ _ _).2 h5)
     ·rw[eY]
      ·exact beq_eq_false_iff_ne.2 fun h=>h5 ((xZ _ _).1 h)
      ·rintro⟨p,hp,hpu⟩
       by_cases h6:p<i
       ·have:=hlo p h6;omega
       ·have:=hhi i (by omega) h4
        by_cases h7:p=i
        ·subst h7;exact h5 hpu
        ·have:=hr p hp i (by omega);omega
    ·rw[decide_eq_false (by omega),cond_false]
     congr 3
     rw[eY]
     rintro⟨p,hp,hpu⟩
     have:=hlo p (by omega);omega
 obtain⟨p,h1,h2,h3,h4⟩:=key (300+l.length) (300+l.length) 0 l.length (by omega) (by omega) (by omega) (by intro q hq;omega) (by intro q h1 h2;omega)
 refine⟨p,h1,h2,h3,h4, ?_⟩
 rintro⟨q,hq,hqu⟩
 by_cases h5:q<p
 ·have:=h3 q h5;omega
 ·have h6:=h4 p (by omega) (by omega)
  refine⟨by omega, ?_⟩
  by_cases h7:p=q
  ·subst h7;exact hqu
  ·have:=hr q hq p (by omega);omega
theorem Xh(c:Int)(l m:List I4)(u:Int)(hl:l.length≤1048576)(hr:qI l l.length):
  ∃ p:Nat,qx (c,l,m,u,())=some ((p:Int),bb (iK l l.length u),())∧p≤l.length∧(iK l l.length u→p<l.length∧(g4 l p).1=u):=by
 obtain⟨p,h1,h2,h3,h4,h5⟩:=bsearch l u hl hr
 exact⟨p,by simp only[qx,LP.T,h1,Option.bind_some],h2,h5⟩
theorem P6(c:Int)(l m:List I4)(u:Int)(hl:l.length≤1048576)(hr:qI l l.length):mF (c,l,m,u,())=some (bb (u=0∨iK l l.length u),()):=by
 obtain⟨p,h1,h2,h3⟩:=Xh c l m u hl hr
 simp only[mF,Ry.T,h1,Option.bind_some]
 grind [=dK]
theorem adG(l:List I4)(i:Nat)(h:∀ j,j<i→yO l j)(hi:i≤l.length):qI (l.take i) (l.take i).length:=by
 have hr:=vg l i fun j hj=>(h j hj).2.1
 intro b hb a ha
 rw[List.length_take]at hb
 have:=hr b (by omega) a ha
 simp only[g4,List.getD_eq_getElem?_getD,List.getElem?_take]at this ⊢
 rw[if_pos (by omega),if_pos (by omega)]
 exact this
theorem afi(l:List I4)(i:Nat)(u:Int)(hi:i≤l.length):iK (l.take i) (l.take i).length u↔iK l i u:=by
 have e:∀ p,p<i→g4 (l.take i) p=g4 l p:=fun p hp=>by
  simp only[g4,List.getD_eq_getElem?_getD,List.getElem?_take]
  rw[if_pos hp]
 rw[List.length_take,Nat.min_eq_left hi]
 exact⟨fun⟨p,hp,h⟩=>⟨p,hp,by rw[←e p hp];exact h⟩,fun⟨p,hp,h⟩=>⟨p,hp,by rw[e p hp];exact h⟩⟩
theorem aex(k0:Nat)(c:Int)(l m:List I4)(Q:Prop)(hl:l.length≤1048576)(hx0:Bool→Int→List I4→List I4→Option (Bool×Unit))(hx1:Int→List I4→List I4→Option (Bool×Unit))(h2:hx0 false c l m=some (false,()))(h3:(∀ j,j<l.length→yO l j)→hx1 c l m=some (bb Q,()))(k:Nat)(hk:l.length<k):
  iI.G0 k0 hx0 hx1 k l l.length 0 c l m=some (bb ((∀ j,j<l.length→yO l j)∧Q),()):=by
 refine FI (g:=fun k i=>iI.G0 k0 hx0 hx1 k l l.length (i:Nat) c l m) (fun k i hi hb=> ?_) (fun hb k=> ?_) k hk
 ·have hh:=P6 0 (l.take i) [] (g4 l i).2.1 (by rw[List.length_take];omega) (adG l i hb (by omega))
  rw[lC (show((g4 l i).2.1=0∨iK (l.take i) (l.take i).length (g4 l i).2.1)↔((g4 l i).2.1=0∨iK l i (g4 l i).2.1) by rw[afi l i _ (by omega)])]at hh
  have hw:af ((i:Int)+1)=((i+1:Nat):Int):=aH _ (by omega)
  simp only[iI.G0,iI.R0,bJ,Int.toNat_natCast,hh,Qe,Fa,V6,Option.bind_some,hw]
  have hd:decide (i<(l.length:Int))=true:=decide_eq_true (by omega)
  unfold yO
  by_cases h0:0<i
  ·have hw':af ((i:Int) - 1)=((i - 1:Nat):Int):=(aH _ (by omega)).trans (by omega)
   rw[hw']
   simp only[bJ]
   grind [=dK]
  ·have:i=0:=by omega
   subst this
   grind [=dK]
 ·simp only[iI.G0,iI.R0]
  rw[decide_eq_false (by omega),cond_false,h3 hb]
theorem aew(k0:Nat)(c:Int)(l m:List I4)(hl:l.length≤1048576)(hm:m.length≤1048576)(hr:qI l l.length)(hx2:Bool→Option (Bool×Unit))(hx3:Unit→Option (Bool×Unit))(h2:hx2 false=some (false,()))(h3:hx3 ()=some (true,()))(k:Nat)(hk:m.length<k):
  iI.G1 k0 hx2 hx3 k m m.length 0 c l m=some (bb (∀ j,j<m.length→BL l m j),()):=by
 refine qW (g:=fun k i=>iI.G1 k0 hx2 hx3 k m m.length (i:Nat) c l m) (fun k i hi _=> ?_) (fun _ k=> ?_) k hk
 ·have hh:=P6 c l m (g4 m i).2.1 hl hr
  have hw:af ((i:Int)+1)=((i+1:Nat):Int):=aH _ (by omega)
  simp only[iI.G1,iI.R1,bJ,hh,Qe,Fa,V6,Option.bind_some,hw]
  have hd:decide (i<(m.length:Int))=true:=decide_eq_true (by omega)
  unfold BL
  by_cases h0:0<i
  ·have hw':af ((i:Int) - 1)=((i - 1:Nat):Int):=(aH _ (by omega)).trans (by omega)
   rw[hw']
   simp only[bJ]
   grind [=dK]
  ·have:i=0:=by omega
   subst this
   grind [=dK]
 ·simp only[iI.G1,iI.R1]
  rw[decide_eq_false (by omega),cond_false,h3]
theorem afh(c:Int)(l m:List I4)(hl:l.length≤1048576)(hm:m.length≤1048576):Lp (c,l,m,())=some (bb (kQ c l m),()):=by
 show iI.FF (300+l.length+m.length) c l m=_
 simp only[iI.FF,iI.T,Fa,Option.bind_some]
 have e0:=aex (300+l.length+m.length) c l m _ hl (fun t f f3 f4=>iI.A0 c l m t f f3 f4)
  (fun f f3 f4=>iI.A1 (fun t t' i f f3 f4=>iI.G1 (300+l.length+m.length) (fun t=>iI.A2 c l m t) (fun _=>iI.A3 c l m ()) (300+l.length+m.length) t t' i f f3 f4) c l m f f3 f4) rfl
  (fun hb=>aew _ c l m hl hm (vg l _ fun i hi=>(hb i hi).2.1) (fun t=>iI.A2 c l m t) (fun _=>iI.A3 c l m ()) rfl rfl _ (by omega)) (300+l.length+m.length) (by omega)
 rw[e0]
 unfold kQ
 grind [=dK]
end Go.Rv
