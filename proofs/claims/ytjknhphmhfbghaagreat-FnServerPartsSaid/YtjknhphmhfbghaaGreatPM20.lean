/- Plain facts: farm. -/
import Derived.Test.YtjknhphmhfbghaaGreatPM19
set_option linter.unusedVariables false
set_option linter.unusedSimpArgs false
set_option linter.unusedSectionVars false
namespace Go.Rv
abbrev I4:=Int×Int×Int×Int×Unit
abbrev I3:=Int×Int×Int×Unit
abbrev g4(l:List I4)(i:Nat):I4:=l.getD i (0,0,0,0,())
abbrev g3(l:List I3)(i:Nat):I3:=l.getD i (0,0,0,())
def iF(z:Int):Prop:=1≤z∧z≤1000000
def dN(z:Int):Prop:=0≤z∧z≤1125899906842624
def jJ(z:Int):Prop:=1≤z∧z≤1073741824
def oO(z:Int):Prop:=0≤z∧z≤1000000
def iV(l:List I4)(n:Nat)(u:Int):Prop:=∃ p,p<n∧(g4 l p).1=u
def yS(l:List I4)(i:Nat):Prop:=iF (g4 l i).1∧(0<i→(g4 l (i - 1)).1<(g4 l i).1)∧((g4 l i).2.1=0∨iV l i (g4 l i).2.1)∧dN (g4 l i).2.2.1∧jJ (g4 l i).2.2.2.1
def BU(l m:List I4)(i:Nat):Prop:=iF (g4 m i).1∧(0<i→(g4 m (i - 1)).1<(g4 m i).1)∧((g4 m i).2.1=0∨iV l l.length (g4 m i).2.1)∧dN (g4 m i).2.2.1∧jJ (g4 m i).2.2.2.1
def lq(c:Int)(l m:List I4):Prop:=dN c∧l.length≤30∧m.length≤60∧(∀ i,i<l.length→yS l i)∧(∀ i,i<m.length→BU l m i)
theorem EW(n:Int):lK (n,())=some (bb (iF n),()):=by
 simp only[lK,UI.T, ←yD]
 by_cases h:n≥1
 ·rw[dD h];simp only[cond_true];congr 2;exact lN (by unfold iF;omega)
 ·rw[eP h];simp only[cond_false];congr 2;exact(eP (by unfold iF;omega)).symm
theorem xN(n:Int):eG (n,())=some (bb (dN n),()):=by
 simp only[eG,TV.T, ←yD]
 by_cases h:n≥0
 ·rw[dD h];simp only[cond_true];congr 2;exact lN (by unfold dN;omega)
 ·rw[eP h];simp only[cond_false];congr 2;exact(eP (by unfold dN;omega)).symm
theorem MI(n:Int):gI (n,())=some (bb (jJ n),()):=by
 simp only[gI,SL.T, ←yD]
 by_cases h:n≥1
 ·rw[dD h];simp only[cond_true];congr 2;exact lN (by unfold jJ;omega)
 ·rw[eP h];simp only[cond_false];congr 2;exact(eP (by unfold jJ;omega)).symm
theorem yN(n a b:Int):nJ (n,a,b,())=some (bb (a≤n∧n≤b),()):=by
 simp only[nJ,Xo.T, ←yD]
 by_cases h:a≤n
 ·rw[dD h];simp only[cond_true];congr 2;exact lN (by omega)
 ·rw[eP h];simp only[cond_false];congr 2;exact(eP (by omega)).symm
theorem Pe(n:Int):gJ (n,())=some (bb (iF n),()):=by simp only[gJ,EF.T,yN,Option.bind_some];rfl
theorem EX(n:Int):jq (n,())=some (bb (dN n),()):=by simp only[jq,Ei.T,yN,Option.bind_some];rfl
theorem VJ(n:Int):kD (n,())=some (bb (jJ n),()):=by simp only[kD,D6.T,yN,Option.bind_some];rfl
theorem Na(c:Int)(l m:List I4)(u:Int)(hl:l.length≤1048576):∃ p:Int,jR (c,l,m,u,())=some (p,())∧((¬ iV l l.length u∧p= -1)∨∃ q:Nat,p=q∧q<l.length∧(g4 l q).1=u∧∀ j,j<q→(g4 l j).1≠u):=by
 have key:∀ (k0 k i:Nat),i≤l.length→l.length - i<k→(∀ j,j<i→(g4 l j).1≠u)→∃ p:Int,xq.G0 k0 (fun t=>xq.A0 c l m u t) (fun _=>xq.A1 c l m u ()) k u i c l m=some (p,())∧((¬ iV l l.length u∧p= -1)∨∃ q:Nat,p=q∧q<l.length∧(g4 l q).1=u∧∀ j,j<q→(g4 l j).1≠u):=by
  intro k0 k
  induction k with
  |zero=>intro i _ h;omega
  |succ k ih=>
   intro i hi hk hb
   rw[xq.G0,xq.R0]
   by_cases h:i<l.length
   ·have hw:af ((i:Int)+1)=((i+1:Nat):Int):=aH _ (by omega)
    rw[hw,decide_eq_true (by omega),cond_true,if_pos (by omega)]
    by_cases hu:(rd (0,0,0,0,()) l (i:Int)).1=u
    ·rw[show((rd (0,0,0,0,()) l (i:Int)).1==u)=true by simpa using hu]
     exact⟨i,rfl,Or.inr ⟨i,rfl,h,hu,hb⟩⟩
    ·rw[show((rd (0,0,0,0,()) l (i:Int)).1==u)=false by simpa using hu]
     refine ih (i+1) (by omega) (by omega) fun j hj=> ?_
     by_cases hji:j=i
     ·subst hji;exact hu
     ·exact hb j (by omega)
   ·rw[decide_eq_false (by omega),cond_false]
    refine⟨-1,rfl,Or.inl ⟨?_,rfl⟩⟩
    rintro⟨p,hp,hpu⟩
    exact hb p (by omega) hpu
 exact key _ _ 0 (by omega) (by show _<300+l.length+m.length;omega) (by intro j hj;omega)
theorem acT(k0:Nat)(c:Int)(l m:List I4)(hl:l.length≤1048576)(hm:m.length≤1048576)(hx2:Bool→Option (Bool×Unit))(hx3:Unit→Option (Bool×Unit))(h2:hx2 false=some (false,()))(h3:hx3 ()=some (true,()))(k:Nat)(hk:m.length<k):
  iR.G1 k0 hx2 hx3 k 0 c l m=some (bb (∀ j,j<m.length→BU l m j),()):=by
 refine BG (g:=fun k i=>iR.G1 k0 hx2 hx3 k (i:Nat) c l m) (fun k i hi _=> ?_) (fun _ k=> ?_) k hk
 ·obtain⟨p,hp,hq⟩:=Na c l m (g4 m i).2.1 hl
  have hw:af ((i:Int)+1)=((i+1:Nat):Int):=aH _ (by omega)
  simp only[iR.G1,iR.R1,bY,hp,EW,xN,MI,Option.bind_some,hw]
  have hn:p<0↔¬ iV l l.length (g4 m i).2.1:=by
   rcases hq with ⟨h,rfl⟩ | ⟨q,rfl,h1,h2,_⟩
   ·exact⟨fun _=>h,fun _=>by omega⟩
   ·exact⟨fun h=>by omega,fun h=>absurd ⟨q,h1,h2⟩ h⟩
  have hd:decide (i<(m.length:Int))=true:=decide_eq_true (by omega)
  unfold BU
  by_cases h0:0<i
  ·have hw':af ((i:Int) - 1)=((i - 1:Nat):Int):=(aH _ (by omega)).trans (by omega)
   rw[hw']
   simp only[bY]
   grind [=fE]
  ·have:i=0:=by omega
   subst this
   grind [=fE]
 ·simp only[iR.G1,iR.R1]
  rw[decide_eq_false (by omega),cond_false,h3]
def Po(l:List I4)(i:Nat):Prop:=iF (g4 l i).1∧(0<i→(g4 l (i - 1)).1<(g4 l i).1)∧((g4 l i).2.1=0∨(iV l l.length (g4 l i).2.1∧(g4 l i).2.1<(g4 l i).1))∧dN (g4 l i).2.2.1∧jJ (g4 l i).2.2.2.1
theorem acU(k0:Nat)(c:Int)(l m:List I4)(Q:Prop)(hl:l.length≤1048576)(hx0:Bool→Int→List I4→List I4→Option (Bool×Unit))(hx1:Int→List I4→List I4→Option (Bool×Unit))(h2:hx0 false c l m=some (false,()))(h3:hx1 c l m=some (bb Q,()))(k:Nat)(hk:l.length<k):
  iR.G0 k0 hx0 hx1 k 0 c l m=some (bb ((∀ j,j<l.length→Po l j)∧Q),()):=by
 refine Fz (g:=fun k i=>iR.G0 k0 hx0 hx1 k (i:Nat) c l m) (fun k i hi _=> ?_) (fun _ k=> ?_) k hk
 ·obtain⟨p,hp,hq⟩:=Na c l m (g4 l i).2.1 hl
  have hw:af ((i:Int)+1)=((i+1:Nat):Int):=aH _ (by omega)
  simp only[iR.G0,iR.R0,bY,hp,EW,xN,MI,Option.bind_some,hw]
  have hn:p<0↔¬ iV l l.length (g4 l i).2.1:=by
   rcases hq with ⟨h,rfl⟩ | ⟨q,rfl,h1,h2,_⟩
   ·exact⟨fun _=>h,fun _=>by omega⟩
   ·exact⟨fun h=>by omega,fun h=>absurd ⟨q,h1,h2⟩ h⟩
  have hd:decide (i<(l.length:Int))=true:=decide_eq_true (by omega)
  unfold Po
  by_cases h0:0<i
  ·have hw':af ((i:Int) - 1)=((i - 1:Nat):Int):=(aH _ (by omega)).trans (by omega)
   rw[hw']
   simp only[bY]
   grind [=fE]
  ·have:i=0:=by omega
   subst this
   grind [=fE]
 ·simp only[iR.G0,iR.R0]
  rw[decide_eq_false (by omega),cond_false,h3]
def qK(l:List I4)(n:Nat):Prop:=∀ b,b<n→∀ a,a<b→(g4 l a).1<(g4 l b).1
theorem vk(l:List I4)(n:Nat)(h:∀ i,i<n→0<i→(g4 l (i - 1)).1<(g4 l i).1):qK l n:=by
 intro b
 induction b with
 |zero=>intro _ a ha;omega
 |succ b ih=>
  intro hb a ha
  have h1:=h (b+1) hb (by omega)
  rw[show b+1 - 1=b by omega]at h1
  by_cases hab:a=b
  ·subst hab;exact h1
  ·exact Int.lt_trans (ih (by omega) a (by omega)) h1
theorem Wn(l:List I4):(∀ i,i<l.length→Po l i)↔(∀ i,i<l.length→yS l i):=by
 constructor
 ·intro h
  have hr:=vk l l.length fun i hi=>(h i hi).2.1
  intro i hi
  obtain⟨h1,h2,h3,h4,h5⟩:=h i hi
  refine⟨h1,h2, ?_,h4,h5⟩
  rcases h3 with h3 | ⟨⟨p,hp,hu⟩,h3⟩
  ·exact Or.inl h3
  ·refine Or.inr ⟨p, ?_,hu⟩
   rcases Nat.lt_trichotomy p i with h |h |h
   ·exact h
   ·subst h;omega
   ·have:=hr p hp i h;omega
 ·intro h
  have hr:=vk l l.length fun i hi=>(h i hi).2.1
  intro i hi
  obtain⟨h1,h2,h3,h4,h5⟩:=h i hi
  refine⟨h1,h2, ?_,h4,h5⟩
  rcases h3 with h3 | ⟨p,hp,hu⟩
  ·exact Or.inl h3
  ·exact Or.inr ⟨⟨p,by omega,hu⟩,by have:=hr i hi p hp;omega⟩
theorem vz(c:Int)(l m:List I4)(hl:l.length≤1048576)(hm:m.length≤1048576):zQ (c,l,m,())=some (bb (lq c l m),()):=by
 show iR.FF (300+l.length+m.length) c l m=_
 simp only[iR.FF,iR.T,xN,Option.bind_some]
 have e1:=fun k0=>acT k0 c l m hl hm (fun t=>iR.A2 c l m t) (fun _=>iR.A3 c l m ()) rfl rfl
 have e0:=acU (300+l.length+m.length) c l m _ hl (fun t f f3 f4=>iR.A0 c l m t f f3 f4)
  (fun f f3 f4=>iR.A1 (fun i f f3 f4=>iR.G1 (300+l.length+m.length) (fun t=>iR.A2 c l m t) (fun _=>iR.A3 c l m ()) (300+l.length+m.length) i f f3 f4) c l m f f3 f4) rfl
  (e1 _ _ (by omega)) (300+l.length+m.length) (by omega)
 rw[e0,Wn]
 unfold lq
 grind [=fE]
def yT(a b:Int):Int:=if a<b then -1 else if a>b then 1 else 0
theorem yO(a b:Int):qx (a,b,())=some (yT a b,()):=by
 have h:∀ x:Int,wR (x,())=some (false,()):=fun x=>by simp[wR,Le.T]
 simp only[qx,J7.T,h,Option.bind_some,cond_false]
 unfold yT
 grind [=fE]
theorem yg(a b:Int):yT a b<0↔a<b:=by unfold yT;split;omega;split <;>omega
theorem yh(a b:Int):yT a b=0↔a=b:=by unfold yT;split;omega;split <;>omega
theorem OG(i j:Nat)(h:i+j≤4194304):af (Int.fdiv (IntKind.u64.wrap (af ((i:Int)+(j:Int)))) (2 ^ 1))=(((i+j) / 2:Nat):Int):=by
 rw[aH ((i:Int)+j) (by omega),u64_in _ (by omega)]
 rw[show Int.fdiv ((i:Int)+(j:Int)) (2 ^ 1)=(((i+j) / 2:Nat):Int) by
  rw[Int.fdiv_eq_ediv_of_nonneg _ (by decide)];omega]
 exact aH _ (by omega)
theorem bsearch(l:List I4)(u:Int)(hl:l.length≤1048576)(hr:qK l l.length):
  ∃ p:Nat,Ht (l,u,())=some ((p:Int),bb (iV l l.length u),())∧p≤l.length∧(∀ q,q<p→(g4 l q).1<u)∧(∀ q,p≤q→q<l.length→u≤(g4 l q).1)∧(iV l l.length u→p<l.length∧(g4 l p).1=u):=by
 have key:∀ (k0 k i j:Nat),i≤j→j≤l.length→j - i<k→(∀ q,q<i→(g4 l q).1<u)→(∀ q,j≤q→q<l.length→u≤(g4 l q).1)→
   ∃ p:Nat,wE.G0 k0 (fun x2 t n i=>wE.A0 l u x2 t n i) k l u (l.length:Int) i j=some ((p:Int),bb (iV l l.length u),())∧p≤l.length∧(∀ q,q<p→(g4 l q).1<u)∧(∀ q,p≤q→q<l.length→u≤(g4 l q).1):=by
  intro k0 k
  induction k with
  |zero=>intro i j _ _ h;omega
  |succ k ih=>
   intro i j hij hj hk hlo hhi
   simp only[wE.G0,wE.R0,OG i j (by omega),zH,J6.T,yO,Option.bind_some,bY]
   by_cases h:i<j
   ·have hw:af ((((i+j) / 2:Nat):Int)+1)=(((i+j) / 2+1:Nat):Int):=aH _ (by omega)
    rw[hw,decide_eq_true (by omega),cond_true,if_pos (by omega)]
    by_cases hc:(g4 l ((i+j) / 2)).1<u
    ·rw[decide_eq_true ((yg _ _).2 hc),cond_true]
     refine ih _ _ (by omega) hj (by omega) (fun q hq=> ?_) hhi
     by_cases h2:q=(i+j) / 2
     ·subst h2;exact hc
     ·exact Int.lt_trans (hr _ (by omega) q (by omega)) hc
    ·rw[decide_eq_false (fun h=>hc ((yg _ _).1 h)),cond_false]
     refine ih _ _ (by omega) (by omega) (by omega) hlo (fun q h1 h2=> ?_)
     by_cases h3:q=(i+j) / 2
     ·subst h3;omega
     ·have:=hr q h2 ((i+j) / 2) (by omega);omega
   ·have:i=j:=by omega
    subst this
    rw[decide_eq_false (by omega),cond_false]
    simp only[wE.A0,zH,J6.T,yO,Option.bind_some,bY]
    refine⟨i, ?_,hj,hlo,hhi⟩
    by_cases h4:i<l.length
    ·rw[decide_eq_true (by omega),cond_true,if_pos (by omega)]
     congr 3
     by_cases h5:(g4 l i).1=u
     ·rw[dD ⟨i,h4,h5⟩]
      exact beq_iff_eq.2 ((yh _ _).2 h5)
     ·rw[eP]
      ·exact beq_eq_false_iff_ne.2 fun h=>h5 ((yh _ _).1 h)
      ·rintro⟨p,hp,hpu⟩
       by_cases h6:p<i
       ·have:=hlo p h6;omega
       ·have:=hhi i (by omega) h4
        by_cases h7:p=i
        ·subst h7;exact h5 hpu
        ·have:=hr p hp i (by omega);omega
    ·rw[decide_eq_false (by omega),cond_false]
     congr 3
     rw[eP]
     rintro⟨p,hp,hpu⟩
     have:=hlo p (by omega);omega
 obtain⟨p,h1,h2,h3,h4⟩:=key (300+l.length) (300+l.length) 0 l.length (by omega) (by omega) (by omega) (by intro q hq;omega) (by intro q h1 h2;omega)
 refine⟨p,h1,h2,h3,h4, ?_⟩
 rintro⟨q,hq,hqu⟩
 by_cases h5:q<p
 ·have:=h3 q h5;omega
 ·have h6:=h4 p (by omega) (by omega)
  refine⟨by omega, ?_⟩
  by_cases h7:p=q
  ·subst h7;exact hqu
  ·have:=hr q hq p (by omega);omega
theorem WL(c:Int)(l m:List I4)(u:Int)(hl:l.length≤1048576)(hr:qK l l.length):
  ∃ p:Nat,qB (c,l,m,u,())=some ((p:Int),bb (iV l l.length u),())∧p≤l.length∧(iV l l.length u→p<l.length∧(g4 l p).1=u):=by
 obtain⟨p,h1,h2,h3,h4,h5⟩:=bsearch l u hl hr
 exact⟨p,by simp only[qB,Ld.T,h1,Option.bind_some],h2,h5⟩
theorem O1(c:Int)(l m:List I4)(u:Int)(hl:l.length≤1048576)(hr:qK l l.length):mZ (c,l,m,u,())=some (bb (u=0∨iV l l.length u),()):=by
 obtain⟨p,h1,h2,h3⟩:=WL c l m u hl hr
 simp only[mZ,QR.T,h1,Option.bind_some]
 grind [=fE]
theorem ack(l:List I4)(i:Nat)(h:∀ j,j<i→yS l j)(hi:i≤l.length):qK (l.take i) (l.take i).length:=by
 have hr:=vk l i fun j hj=>(h j hj).2.1
 intro b hb a ha
 rw[List.length_take]at hb
 have:=hr b (by omega) a ha
 simp only[g4,List.getD_eq_getElem?_getD,List.getElem?_take]at this ⊢
 rw[if_pos (by omega),if_pos (by omega)]
 exact this
theorem adM(l:List I4)(i:Nat)(u:Int)(hi:i≤l.length):iV (l.take i) (l.take i).length u↔iV l i u:=by
 have e:∀ p,p<i→g4 (l.take i) p=g4 l p:=fun p hp=>by
  simp only[g4,List.getD_eq_getElem?_getD,List.getElem?_take]
  rw[if_pos hp]
 rw[List.length_take,Nat.min_eq_left hi]
 exact⟨fun⟨p,hp,h⟩=>⟨p,hp,by rw[←e p hp];exact h⟩,fun⟨p,hp,h⟩=>⟨p,hp,by rw[e p hp];exact h⟩⟩
theorem ac8(k0:Nat)(c:Int)(l m:List I4)(Q:Prop)(hl:l.length≤1048576)(hx0:Bool→Int→List I4→List I4→Option (Bool×Unit))(hx1:Int→List I4→List I4→Option (Bool×Unit))(h2:hx0 false c l m=some (false,()))(h3:(∀ j,j<l.length→yS l j)→hx1 c l m=some (bb Q,()))(k:Nat)(hk:l.length<k):
  iT.G0 k0 hx0 hx1 k l l.length 0 c l m=some (bb ((∀ j,j<l.length→yS l j)∧Q),()):=by
 refine Fz (g:=fun k i=>iT.G0 k0 hx0 hx1 k l l.length (i:Nat) c l m) (fun k i hi hb=> ?_) (fun hb k=> ?_) k hk
 ·have hh:=O1 0 (l.take i) [] (g4 l i).2.1 (by rw[List.length_take];omega) (ack l i hb (by omega))
  rw[lN (show((g4 l i).2.1=0∨iV (l.take i) (l.take i).length (g4 l i).2.1)↔((g4 l i).2.1=0∨iV l i (g4 l i).2.1) by rw[adM l i _ (by omega)])]at hh
  have hw:af ((i:Int)+1)=((i+1:Nat):Int):=aH _ (by omega)
  simp only[iT.G0,iT.R0,bY,Int.toNat_natCast,hh,Pe,EX,VJ,Option.bind_some,hw]
  have hd:decide (i<(l.length:Int))=true:=decide_eq_true (by omega)
  unfold yS
  by_cases h0:0<i
  ·have hw':af ((i:Int) - 1)=((i - 1:Nat):Int):=(aH _ (by omega)).trans (by omega)
   rw[hw']
   simp only[bY]
   grind [=fE]
  ·have:i=0:=by omega
   subst this
   grind [=fE]
 ·simp only[iT.G0,iT.R0]
  rw[decide_eq_false (by omega),cond_false,h3 hb]
theorem ac7(k0:Nat)(c:Int)(l m:List I4)(hl:l.length≤1048576)(hm:m.length≤1048576)(hr:qK l l.length)(hx2:Bool→Option (Bool×Unit))(hx3:Unit→Option (Bool×Unit))(h2:hx2 false=some (false,()))(h3:hx3 ()=some (true,()))(k:Nat)(hk:m.length<k):
  iT.G1 k0 hx2 hx3 k m m.length 0 c l m=some (bb (∀ j,j<m.length→BU l m j),()):=by
 refine BG (g:=fun k i=>iT.G1 k0 hx2 hx3 k m m.length (i:Nat) c l m) (fun k i hi _=> ?_) (fun _ k=> ?_) k hk
 ·have hh:=O1 c l m (g4 m i).2.1 hl hr
  have hw:af ((i:Int)+1)=((i+1:Nat):Int):=aH _ (by omega)
  simp only[iT.G1,iT.R1,bY,hh,Pe,EX,VJ,Option.bind_some,hw]
  have hd:decide (i<(m.length:Int))=true:=decide_eq_true (by omega)
  unfold BU
  by_cases h0:0<i
  ·have hw':af ((i:Int) - 1)=((i - 1:Nat):Int):=(aH _ (by omega)).trans (by omega)
   rw[hw']
   simp only[bY]
   grind [=fE]
  ·have:i=0:=by omega
   subst this
   grind [=fE]
 ·simp only[iT.G1,iT.R1]
  rw[decide_eq_false (by omega),cond_false,h3]
theorem adL(c:Int)(l m:List I4)(hl:l.length≤1048576)(hm:m.length≤1048576):KQ (c,l,m,())=some (bb (lq c l m),()):=by
 show iT.FF (300+l.length+m.length) c l m=_
 simp only[iT.FF,iT.T,EX,Option.bind_some]
 have e0:=ac8 (300+l.length+m.length) c l m _ hl (fun t f f3 f4=>iT.A0 c l m t f f3 f4)
  (fun f f3 f4=>iT.A1 (fun t t' i f f3 f4=>iT.G1 (300+l.length+m.length) (fun t=>iT.A2 c l m t) (fun _=>iT.A3 c l m ()) (300+l.length+m.length) t t' i f f3 f4) c l m f f3 f4) rfl
  (fun hb=>ac7 _ c l m hl hm (vk l _ fun i hi=>(hb i hi).2.1) (fun t=>iT.A2 c l m t) (fun _=>iT.A3 c l m ()) rfl rfl _ (by omega)) (300+l.length+m.length) (by omega)
 rw[e0]
 unfold lq
 grind [=fE]
end Go.Rv
