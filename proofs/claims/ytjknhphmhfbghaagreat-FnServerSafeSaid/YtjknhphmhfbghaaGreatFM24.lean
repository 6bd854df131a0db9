/- Plain facts: fill_s. -/
import Derived.Test.YtjknhphmhfbghaaGreatFM23
set_option linter.unusedVariables false
set_option linter.unusedSimpArgs false
set_option linter.unusedSectionVars false
namespace Go.Rv
section
variable {l:List aP} {a:Int}
def lJ(l:List aP)(T:Nat):Nat→Int
 |0=> -1
 |i+1=>if aN l i<T then lJ l T i else if lJ l T i<0 then(i:Int)else if aN l i<aN l (lJ l T i).toNat then(i:Int)else lJ l T i
theorem Fg(T:Nat):∀ i,(lJ l T i= -1∧∀ p,p<i→aN l p<T)∨∃ q:Nat,lJ l T i=q∧q<i∧T≤aN l q∧∀ p,p<i→T≤aN l p→aN l q≤aN l p
 |0=>Or.inl ⟨rfl,by intro p hp;omega⟩
 |i+1=>by
  simp only[lJ]
  rcases Fg T i with ⟨h1,h2⟩ | ⟨q,h1,h2,h3,h4⟩
  ·by_cases hr:aN l i<T
   ·rw[if_pos hr]
    refine Or.inl ⟨h1,fun p hp=> ?_⟩
    by_cases e:p=i
    ·subst e;exact hr
    ·exact h2 p (by omega)
   ·rw[if_neg hr,if_pos (by omega)]
    refine Or.inr ⟨i,rfl,by omega,by omega,fun p hp hT=> ?_⟩
    by_cases e:p=i
    ·subst e;exact Nat.le_refl _
    ·have:=h2 p (by omega);omega
  ·right
   by_cases hr:aN l i<T
   ·rw[if_pos hr]
    refine⟨q,h1,by omega,h3,fun p hp hT=> ?_⟩
    by_cases e:p=i
    ·subst e;omega
    ·exact h4 p (by omega) hT
   ·rw[if_neg hr,if_neg (by omega),h1,Int.toNat_natCast]
    by_cases hc:aN l i<aN l q
    ·rw[if_pos hc]
     refine⟨i,rfl,by omega,by omega,fun p hp hT=> ?_⟩
     by_cases e:p=i
     ·subst e;exact Nat.le_refl _
     ·have:=h4 p (by omega) hT;omega
    ·rw[if_neg hc]
     refine⟨q,rfl,by omega,h3,fun p hp hT=> ?_⟩
     by_cases e:p=i
     ·subst e;omega
     ·exact h4 p (by omega) hT
theorem adR(h:iK l):lJ l l.length l.length= -1:=by
 rcases Fg (l:=l) l.length l.length with ⟨h1,_⟩ | ⟨q,_,h2,h3,_⟩
 ·exact h1
 ·have:=nP h2;omega
theorem Ws(h:iK l)(T:Nat)(hT:T<l.length):∃ q:Nat,lJ l T l.length=q∧q<l.length∧aN l q=T∧aS l q=oA l T:=by
 obtain⟨p,hp,hr,he⟩:=Fe h hT
 rcases Fg (l:=l) T l.length with ⟨_,h2⟩ | ⟨q,h1,h2,h3,h4⟩
 ·have:=h2 p hp;omega
 ·have:=h4 p hp (by omega)
  have hq:aN l q=T:=by omega
  have e:=sH h h2 hp (by omega)
  subst e
  exact⟨q,h1,h2,hq,he⟩
variable (h:iK l) (hid:∀ p,p<l.length→iG (aS l p).1) (hn:l.length≤100) (ha:0≤a∧a≤72057594037927936)
include h hn
theorem sp0(k0:Nat)(hx:List aP→Int→Int→List (Int×Unit)→List (Bool×Unit)→Option (List (Int×Unit)×Unit))(rest:Int)(out:List (Int×Unit))(dn:List (Bool×Unit))(k:Nat)(hk:l.length<k):
  dm.G0 k0 hx k l rest 0 0 out dn=hx l rest (sumTo l.length fun p=>(aS l p).2.2.1) out dn:=by
 refine run 0 l.length (fun k i=>dm.G0 k0 hx k l rest (sumTo i fun p=>(aS l p).2.2.1) (i:Nat) out dn) _ (fun k i _ hi=> ?_) (fun k=> ?_) k (by omega) (by omega)
 ·have hb:=mF 1073741824 (fun p=>(aS l p).2.2.1) i fun q hq=>by have:=qX h q (by omega);omega
  have hw:=qX h i hi
  show dm.G0 k0 hx (k+1) l rest (sumTo i fun p=>(aS l p).2.2.1) (i:Nat) out dn=dm.G0 k0 hx k l rest (sumTo (i+1) fun p=>(aS l p).2.2.1) ((i+1:Nat):Int) out dn
  simp only[dm.G0,dm.R0,bZ]
  rw[decide_eq_true (by omega),cond_true,if_pos (by omega),show l.getD i (0,0,0,())=aS l i from rfl,aI _ (by omega),aI _ (by omega)]
  rfl
 ·simp only[dm.G0,dm.R0]
  rw[decide_eq_false (by omega),cond_false]
include hid in
theorem sp2(k0:Nat)(hx:List aP→Int→Int→Int→List (Int×Unit)→List (Bool×Unit)→Option (List (Int×Unit)×Unit))(T:Nat)(rest all:Int)(out:List (Int×Unit))(k:Nat)(hk:l.length<k):
  dm.G2 k0 hx k l rest all (-1) 0 out (rg l.length fun p=>decide (aN l p<T))=hx l rest all (lJ l T l.length) out (rg l.length fun p=>decide (aN l p<T)):=by
 refine run 0 l.length (fun k i=>dm.G2 k0 hx k l rest all (lJ l T i) (i:Nat) out (rg l.length fun p=>decide (aN l p<T))) _ (fun k i _ hi=> ?_) (fun k=> ?_) k (by omega) (by omega)
 ·show dm.G2 k0 hx (k+1) l rest all (lJ l T i) (i:Nat) out _=dm.G2 k0 hx k l rest all (lJ l T (i+1)) ((i+1:Nat):Int) out _
  simp only[dm.G2,dm.R2,bZ,ji,Int.toNat_natCast]
  rw[decide_eq_true (by omega),cond_true,if_pos (by omega),mJ _ _ _ _ hi,aI _ (by omega)]
  simp only[lJ]
  by_cases hr:aN l i<T
  ·rw[decide_eq_true hr,if_pos hr];rfl
  ·rw[decide_eq_false hr,if_neg hr]
   simp only[Bool.not_false,cond_true]
   rcases Fg (l:=l) T i with ⟨h1,_⟩ | ⟨q,h1,h2,_⟩
   ·rw[h1,decide_eq_true (by omega),cond_true,if_pos (by omega)];rfl
   ·have c1:¬ ((q:Int)<0):=by omega
    have c2:(0:Int)≤(i:Int)∧(i:Int)<(l.length:Int):=by omega
    have c3:(0:Int)≤(q:Int)∧(q:Int)<(l.length:Int):=by omega
    rw[h1,decide_eq_false c1,cond_false,if_neg c1,if_pos c2,if_pos c3,Int.toNat_natCast,bZ]
    have hc:=abr (aS l i) (aS l q) (h.1 _ (rW hi)) (h.1 _ (rW (by omega))) (hid i hi) (hid q (by omega))
    rw[hc]
    simp only[Option.bind_some]
    have ho:=aew h hi (show q<l.length by omega)
    by_cases hlt:aN l i<aN l q
    ·rw[decide_eq_true (ho.2 hlt),cond_true,if_pos hlt];rfl
    ·rw[decide_eq_false (fun x=>hlt (ho.1 x)),cond_false,if_neg hlt];rfl
 ·simp only[dm.G2,dm.R2]
  rw[decide_eq_false (by omega),cond_false]
include ha in
theorem Xd(t:Nat)(ht:t<l.length)(hs:∀ s,s<t→jA l a s):∃ y,wR ((oA l t).2.1,bM l t,aU l a t,(oA l t).2.2.1,())=some (y,())∧(y>0↔¬ jA l a t):=by
 obtain⟨h1,h2⟩:=mG h ha t (by omega) hs
 have hw:=oN h t ht
 have hA:=qW h hn t (by omega)
 have hW:=xP h t ht
 unfold jA
 generalize (oA l t).2.1=w at*
 generalize (oA l t).2.2.1=g at*
 generalize bM l t=A at*
 generalize aU l a t=r at*
 obtain⟨w,rfl⟩:=Int.eq_ofNat_of_zero_le hW.1
 obtain⟨A,rfl⟩:=Int.eq_ofNat_of_zero_le hA.1
 obtain⟨r,rfl⟩:=Int.eq_ofNat_of_zero_le h1
 obtain⟨g,rfl⟩:=Int.eq_ofNat_of_zero_le (by omega:0≤g)
 refine⟨_,Ux w A r g (by omega) (by omega) (by omega) (by omega), ?_⟩
 rw[Int.natCast_mul,Int.natCast_mul]
 unfold sg
 generalize (w:Int)*(A:Int)=x
 generalize (r:Int)*(g:Int)=y
 split
 ·omega
 ·split <;>omega
include ha hid in
theorem sp1(k0:Nat)(hk0:l.length<k0)(hx2 hx3:List aP→Int→Int→List (Int×Unit)→List (Bool×Unit)→Option (List (Int×Unit)×Unit))(T:Nat)(hT:jk l a T):
  ∀ d t k,t+d=T→d<k→dm.G1 k0 hx2 hx3 k l (aU l a t) (bM l t) (rg l.length fun p=>if aN l p<t then(aS l p).2.1 else 0) (rg l.length fun p=>decide (aN l p<t))=
   if T=l.length then hx2 l (aU l a T) (bM l T) (rg l.length fun p=>if aN l p<T then(aS l p).2.1 else 0) (rg l.length fun p=>decide (aN l p<T))
   else hx3 l (aU l a T) (bM l T) (rg l.length fun p=>if aN l p<T then(aS l p).2.1 else 0) (rg l.length fun p=>decide (aN l p<T)):=by
 intro d
 induction d with
 |zero=>
  intro t k ht hk
  obtain⟨k,rfl⟩:∃ j,k=j+1:=⟨k - 1,by omega⟩
  have:t=T:=by omega
  subst this
  simp only[dm.G1,dm.R1]
  rw[sp2 h hid hn k0 _ t _ _ _ k0 hk0]
  simp only[dm.A1]
  by_cases he:t=l.length
  ·rw[if_pos he]
   have:lJ l t l.length= -1:=by rw[he];exact adR h
   rw[this,decide_eq_true (by omega),cond_true]
  ·rw[if_neg he]
   have htl:t<l.length:=by have:=hT.1;omega
   obtain⟨q,hq,hql,hqr,hqe⟩:=Ws h t htl
   obtain⟨y,hy,hyf⟩:=Xd h hn ha t htl hT.2.1
   rw[hq,decide_eq_false (by omega),cond_false,if_pos (by omega),if_pos (by omega)]
   simp only[bZ]
   rw[show l.getD q (0,0,0,())=oA l t from hqe,hy]
   simp only[Option.bind_some]
   have hnf:¬ jA l a t:=by rcases hT.2.2 with h1 |h1;exact absurd h1 he;exact h1
   rw[decide_eq_true (hyf.2 hnf),cond_true]
 |succ d ih=>
  intro t k ht hk
  obtain⟨k,rfl⟩:∃ j,k=j+1:=⟨k - 1,by omega⟩
  have htl:t<l.length:=by have:=hT.1;omega
  have hs:∀ s,s<t→jA l a s:=fun s hs=>hT.2.1 s (by omega)
  obtain⟨q,hq,hql,hqr,hqe⟩:=Ws h t htl
  obtain⟨y,hy,hyf⟩:=Xd h hn ha t htl hs
  obtain⟨h1,h2⟩:=mG h ha t (by omega) hs
  have hw:=oN h t htl
  have hA:=qW h hn t (by omega)
  have hW:=xP h t htl
  have IH:=ih (t+1) k (by omega) (by omega)
  simp only[dm.G1,dm.R1]
  rw[sp2 h hid hn k0 _ t _ _ _ k0 hk0]
  simp only[dm.A1]
  rw[hq,decide_eq_false (by omega),cond_false,if_pos (by omega),if_pos (by omega)]
  simp only[bZ,ji]
  rw[show l.getD q (0,0,0,())=oA l t from hqe,hy]
  simp only[Option.bind_some]
  have hff:¬ y>0:=fun hc=>hyf.1 hc (hT.2.1 t (by omega))
  rw[decide_eq_false hff,cond_false,if_pos (by omega),if_pos (by omega),if_pos (by omega),if_pos (by omega),if_pos (by omega),Int.toNat_natCast,qQ,qQ]
  have e1:af (aU l a t - (oA l t).2.1)=aU l a (t+1):=by
   rw[aI _ (by omega)];unfold aU;simp only[sumTo];omega
  have e2:af (bM l t - (oA l t).2.2.1)=bM l (t+1):=by
   rw[aI _ (by omega)];unfold bM;simp only[sumTo];omega
  rw[e1,e2]
  refine Eq.trans ?_ IH
  congr 1
  ·refine fF _ _ _ fun p hp=> ?_
   by_cases e:p=q
   ·subst e;rw[if_pos rfl,if_pos (by omega),show aS l p=oA l t from hqe]
   ·have:aN l p≠t:=fun hc=>e (sH h hp hql (by omega))
    rw[if_neg e]
    by_cases hr:aN l p<t
    ·rw[if_pos hr,if_pos (by omega)]
    ·rw[if_neg hr,if_neg (by omega)]
  ·refine fF _ _ _ fun p hp=> ?_
   by_cases e:p=q
   ·subst e;rw[if_pos rfl,decide_eq_true (by omega)]
   ·have:aN l p≠t:=fun hc=>e (sH h hp hql (by omega))
    rw[if_neg e]
    by_cases hr:aN l p<t
    ·rw[decide_eq_true hr,decide_eq_true (by omega)]
    ·rw[decide_eq_false hr,decide_eq_false (by omega)]
include ha in
theorem aev(T p:Nat)(hT:jk l a T)(hp:p<l.length)(hr:T≤aN l p):∃ x y u v w,uM (IntKind.u64.wrap (aU l a T),IntKind.u64.wrap (aS l p).2.2.1,())=some (x,y,())∧
  Ae (x,y,IntKind.u64.wrap (bM l T),())=some (u,v,w,())∧af v=gK l a T p:=by
 obtain⟨h1,h2⟩:=mG h ha T hT.1 hT.2.1
 have hw:=qX h p hp
 have hA:=qW h hn T hT.1
 have hA2:=Es h T p hp hr
 have hS:=sF h hn ha T p hT hp hr
 unfold gK at hS ⊢
 generalize (aS l p).2.2.1=g at*
 generalize bM l T=A at*
 generalize aU l a T=r at*
 obtain⟨A,rfl⟩:=Int.eq_ofNat_of_zero_le hA.1
 obtain⟨r,rfl⟩:=Int.eq_ofNat_of_zero_le h1
 obtain⟨g,rfl⟩:=Int.eq_ofNat_of_zero_le (by omega:0≤g)
 rw[dO,dO,dO,Nat.mod_eq_of_lt (by omega),Nat.mod_eq_of_lt (by omega),Nat.mod_eq_of_lt (by omega)]
 have hrg:r*g<340282366920938463463374607431768211456:=Nat.lt_of_le_of_lt (Nat.mul_le_mul (by omega:r≤72057594037927936) (by omega:g≤1073741824)) (by decide)
 rw[←Int.natCast_mul, ←Int.natCast_ediv]at hS
 refine⟨_,_,_,_,_,OO r g (by omega) (by omega),afq (r*g) A hrg (by omega) (by omega), ?_⟩
 rw[←Int.natCast_mul, ←Int.natCast_ediv]
 generalize r*g / A=Q at*
 show af ((Q % 18446744073709551616:Nat):Int)=_
 rw[Nat.mod_eq_of_lt (by omega),aI _ (by omega)]
include ha in
theorem sp3(k0:Nat)(hx:List aP→Int→List (Int×Unit)→List (Bool×Unit)→Option (List (Int×Unit)×Unit))(T:Nat)(hT:jk l a T)(k:Nat)(hk:l.length<k):
  dm.G3 k0 hx k l (aU l a T) (bM l T) (aU l a T) 0 (rg l.length fun p=>if aN l p<T then(aS l p).2.1 else 0) (rg l.length fun p=>decide (aN l p<T))=
   hx l (leftA l a T) (rg l.length (fJ l a T)) (rg l.length fun p=>decide (aN l p<T)):=by
 have e0:(rg l.length fun p=>if aN l p<T then(aS l p).2.1 else 0)=rg l.length fun p=>if p<0 then fJ l a T p else if aN l p<T then(aS l p).2.1 else 0:=fF _ _ _ fun p _=>(if_neg (by omega:¬ p<0)).symm
 have e1:rg l.length (fJ l a T)=rg l.length fun p=>if p<l.length then fJ l a T p else if aN l p<T then(aS l p).2.1 else 0:=fF _ _ _ fun p hp=>(if_pos hp).symm
 rw[e0,e1]
 suffices x:dm.G3 k0 hx k l (aU l a T) (bM l T) (aU l a T - sumTo 0 fun p=>if aN l p<T then 0 else gK l a T p) ((0:Nat):Int) (rg l.length fun p=>if p<0 then fJ l a T p else if aN l p<T then(aS l p).2.1 else 0) (rg l.length fun p=>decide (aN l p<T))=hx l (leftA l a T) (rg l.length fun p=>if p<l.length then fJ l a T p else if aN l p<T then(aS l p).2.1 else 0) (rg l.length fun p=>decide (aN l p<T)) by
  rw[show(aU l a T - sumTo 0 fun p=>if aN l p<T then 0 else gK l a T p)=aU l a T by simp[sumTo]]at x
  exact x
 refine run 0 l.length (fun k i=>dm.G3 k0 hx k l (aU l a T) (bM l T) (aU l a T - sumTo i fun p=>if aN l p<T then 0 else gK l a T p) (i:Nat) (rg l.length fun p=>if p<i then fJ l a T p else if aN l p<T then(aS l p).2.1 else 0) (rg l.length fun p=>decide (aN l p<T))) _ (fun k i _ hi=> ?_) (fun k=> ?_) k (by omega) (by omega)
 ·show dm.G3 k0 hx (k+1) l _ _ _ (i:Nat) _ _=dm.G3 k0 hx k l _ _ (aU l a T - sumTo (i+1) fun p=>if aN l p<T then 0 else gK l a T p) ((i+1:Nat):Int) _ _
  simp only[dm.G3,dm.R3,bZ,ji,Int.toNat_natCast]
  rw[decide_eq_true (by omega),cond_true,if_pos (by omega),mJ _ _ _ _ hi,aI ((i:Int)+1) (by omega)]
  by_cases hr:aN l i<T
  ·rw[decide_eq_true hr]
   simp only[Bool.not_true,cond_false,sumTo]
   rw[if_pos hr,Int.add_zero]
   congr 1
   refine fF _ _ _ fun p hp=> ?_
   by_cases e:p=i
   ·subst e;rw[if_neg (by omega:¬ p<p),if_pos (by omega:p<p+1),if_pos hr];unfold fJ;rw[if_pos hr]
   ·by_cases e2:p<i
    ·rw[if_pos e2,if_pos (by omega:p<i+1)]
    ·rw[if_neg e2,if_neg (by omega:¬ p<i+1)]
  ·rw[decide_eq_false hr]
   obtain⟨x,y,u,v,w,hm,hd,hv⟩:=aev h hn ha T i hT hi (by omega)
   have hS:=sF h hn ha T i hT hi (by omega)
   simp only[Bool.not_false,cond_true]
   rw[if_pos (by omega),show l.getD i (0,0,0,())=aS l i from rfl,hm]
   simp only[Option.bind_some]
   rw[hd]
   simp only[Option.bind_some]
   rw[hv,qQ]
   simp only[ji]
   rw[if_pos (by omega),if_pos (by omega),mJ _ _ _ _ hi,if_pos rfl]
   simp only[sumTo]
   rw[if_neg hr]
   have hb:=mF 72057594037927936 (fun p=>if aN l p<T then 0 else gK l a T p) i fun q hq=>by
    by_cases hr:aN l q<T
    ·rw[if_pos hr];omega
    ·rw[if_neg hr];have:=sF h hn ha T q hT (by omega) (by omega);omega
   obtain⟨h1,h2⟩:=mG h ha T hT.1 hT.2.1
   rw[aI _ (by omega),show aU l a T - (sumTo i fun p=>if aN l p<T then 0 else gK l a T p) - gK l a T i=aU l a T - ((sumTo i fun p=>if aN l p<T then 0 else gK l a T p)+gK l a T i) by omega]
   congr 1
   refine fF _ _ _ fun p hp=> ?_
   by_cases e:p=i
   ·subst e;rw[if_pos rfl,if_pos (by omega)];unfold fJ;rw[if_neg hr]
   ·rw[if_neg e]
    by_cases e2:p<i
    ·rw[if_pos e2,if_pos (by omega:p<i+1)]
    ·rw[if_neg e2,if_neg (by omega:¬ p<i+1)]
 ·simp only[dm.G3,dm.R3]
  rw[decide_eq_false (by omega),cond_false]
  rfl
include ha in
theorem sp4(k0:Nat)(hx:List (Int×Unit)→Option (List (Int×Unit)×Unit))(T:Nat)(hT:jk l a T)(k:Nat)(hk:l.length<k):
  dm.G4 k0 hx k l (leftA l a T) 0 (rg l.length (fJ l a T)) (rg l.length fun p=>decide (aN l p<T))=hx (rg l.length (gy l a T)):=by
 have key:∀ d i k,i+d=l.length→d<k→dm.G4 k0 hx k l (fO l a T i) (i:Nat) (rg l.length fun p=>if p<i then gy l a T p else fJ l a T p) (rg l.length fun p=>decide (aN l p<T))=hx (rg l.length (gy l a T)):=by
  intro d
  induction d with
  |zero=>
   intro i k hi hk
   obtain⟨k,rfl⟩:∃ j,k=j+1:=⟨k - 1,by omega⟩
   simp only[dm.G4,dm.R4]
   rw[decide_eq_false (by omega),cond_false]
   congr 1
   exact fF _ _ _ fun p hp=>by rw[if_pos (by omega)]
  |succ d ih=>
   intro i k hi hk
   obtain⟨k,rfl⟩:∃ j,k=j+1:=⟨k - 1,by omega⟩
   have hb:=OI h hn ha T hT i
   have IH:=ih (i+1) k (by omega) (by omega)
   simp only[dm.G4,dm.R4,ji,Int.toNat_natCast]
   rw[decide_eq_true (by omega),cond_true]
   by_cases hl:0<fO l a T i
   ·rw[decide_eq_true (by omega),cond_true,if_pos (by omega),mJ _ _ _ _ (by omega),mJ _ _ _ _ (by omega),aI ((i:Int)+1) (by omega),if_neg (by omega:¬ i<i)]
    by_cases hr:aN l i<T
    ·rw[decide_eq_true hr]
     simp only[Bool.not_true,cond_false]
     refine Eq.trans ?_ IH
     simp only[fO]
     rw[if_neg (by omega)]
     congr 1
     refine fF _ _ _ fun p hp=> ?_
     by_cases e:p=i
     ·subst e;rw[if_neg (by omega),if_pos (by omega)];unfold gy;rw[if_neg (by omega)]
     ·by_cases e2:p<i
      ·rw[if_pos e2,if_pos (by omega:p<i+1)]
      ·rw[if_neg e2,if_neg (by omega:¬ p<i+1)]
    ·rw[decide_eq_false hr]
     simp only[Bool.not_false,cond_true]
     have hB:fJ l a T i=gK l a T i:=by unfold fJ;rw[if_neg hr]
     have hS:=sF h hn ha T i hT (by omega) (by omega)
     rw[if_pos (by omega),if_pos (by omega),qQ,aI _ (by omega),aI _ (by omega)]
     refine Eq.trans ?_ IH
     simp only[fO]
     rw[if_pos (by omega)]
     congr 1
     refine fF _ _ _ fun p hp=> ?_
     by_cases e:p=i
     ·subst e;rw[if_pos rfl,if_pos (by omega)];unfold gy;rw[if_pos (by omega)]
     ·rw[if_neg e]
      by_cases e2:p<i
      ·rw[if_pos e2,if_pos (by omega:p<i+1)]
      ·rw[if_neg e2,if_neg (by omega:¬ p<i+1)]
   ·rw[decide_eq_false (by omega),cond_false]
    congr 1
    refine fF _ _ _ fun p hp=> ?_
    by_cases e2:p<i
    ·rw[if_pos e2]
    ·rw[if_neg e2]
     unfold gy
     rw[if_neg (by rw[aeD T i (by omega) p (by omega)];omega)]
 have:=key l.length 0 k (by omega) hk
 rw[show(rg l.length fun p=>if p<0 then gy l a T p else fJ l a T p)=rg l.length (fJ l a T)from fF _ _ _ fun p _=>by rw[if_neg (by omega)]]at this
 exact this
include ha hid in
theorem acV(T:Nat)(hT:jk l a T):wW (a,l,())=some (rg l.length (gy l a T),()):=by
 simp only[wW,dm.FF,dm.T]
 rw[if_pos (by omega),if_pos (by omega),sp0 h hn _ _ _ _ _ _ (by omega)]
 simp only[dm.A0]
 rw[Int.toNat_natCast,qH,qH]
 have h1:=sp1 h hid hn ha (300+l.length) (by omega) (dm.A2 a l) (dm.A3 (dm.G3 (300+l.length) (dm.A4 (dm.G4 (300+l.length) (dm.A5 a l) (300+l.length)) a l) (300+l.length)) a l) T hT T 0 (300+l.length) (by omega) (by have:=hT.1;omega)
 have r0:aU l a 0=a:=by unfold aU;simp[sumTo]
 have a0:bM l 0=sumTo l.length fun p=>(aS l p).2.2.1:=by unfold bM;simp[sumTo]
 have o0:(rg l.length fun p=>if aN l p<0 then(aS l p).2.1 else 0)=rg l.length fun _=>(0:Int):=fF _ _ _ fun p _=>by rw[if_neg (by omega)]
 have d0:(rg l.length fun p=>decide (aN l p<0))=rg l.length fun _=>false:=fF _ _ _ fun p _=>decide_eq_false (by omega)
 rw[r0,a0,o0,d0]at h1
 rw[h1]
 by_cases he:T=l.length
 ·rw[if_pos he]
  simp only[dm.A2]
  congr 2
  refine fF _ _ _ fun p hp=> ?_
  have hlt:aN l p<T:=by have:=nP hp;omega
  unfold gy
  rw[if_neg (by omega:¬ (T≤aN l p∧0<fO l a T p))]
  unfold fJ
  rw[if_pos hlt,if_pos hlt]
 ·rw[if_neg he]
  simp only[dm.A3]
  rw[sp3 h hn ha _ _ T hT _ (by omega)]
  simp only[dm.A4]
  rw[sp4 h hn ha _ _ T hT _ (by omega)]
  rfl
end
end Go.Rv
