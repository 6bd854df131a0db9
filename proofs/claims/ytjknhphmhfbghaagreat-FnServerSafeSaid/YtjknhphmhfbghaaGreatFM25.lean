/- Plain facts: fill_i. -/
import Derived.Test.YtjknhphmhfbghaaGreatFM24
set_option linter.unusedVariables false
set_option linter.unusedSimpArgs false
set_option linter.unusedSectionVars false
namespace Go.Rv
theorem adX{l:List aP}(hnd:l.Nodup)(hn:l.length≤100)(q:Nat)(hq:q<l.length):CG (l,(aS l q).1,(aS l q).2.1,(aS l q).2.2.1,())=some ((q:Int),()):=by
 have key:∀ (k0:Nat) (hx0:Int→Option (Int×Unit)) (hx1:Unit→Option (Int×Unit)) (d i k:Nat),i+d=q→d<k→rE.G0 k0 hx0 hx1 k l (l.length:Int) (i:Nat) (aS l q).1 (aS l q).2.1 (aS l q).2.2.1=hx0 (q:Int):=by
  intro k0 hx0 hx1 d
  induction d with
  |zero=>
   intro i k hi hk
   obtain⟨k,rfl⟩:∃ j,k=j+1:=⟨k - 1,by omega⟩
   have:i=q:=by omega
   subst this
   simp only[rE.G0,rE.R0,bZ]
   rw[decide_eq_true (by omega),cond_true,if_pos (by omega),show l.getD i (0,0,0,())=aS l i from rfl]
   simp
  |succ d ih=>
   intro i k hi hk
   obtain⟨k,rfl⟩:∃ j,k=j+1:=⟨k - 1,by omega⟩
   have hil:i<l.length:=by omega
   simp only[rE.G0,rE.R0,bZ]
   rw[decide_eq_true (by omega),cond_true,if_pos (by omega),show l.getD i (0,0,0,())=aS l i from rfl,aI _ (by omega)]
   have hne:aS l q≠aS l i:=by
    intro e
    rw[jO hil,jO hq]at e
    have:=(List.getElem_inj hnd).1 e
    omega
   have hf:((aS l q).1==(aS l i).1&&((aS l q).2.1==(aS l i).2.1&&((aS l q).2.2.1==(aS l i).2.2.1&&true)))=false:=by
    rw[←Bool.not_eq_true]
    intro hc
    simp only[Bool.and_eq_true,beq_iff_eq,and_true]at hc
    exact hne (Prod.ext hc.1 (Prod.ext hc.2.1 (Prod.ext hc.2.2 rfl)))
   rw[hf,cond_false]
   exact ih (i+1) k (by omega) (by omega)
 simp only[CG,rE.FF,rE.T]
 exact key _ _ _ q 0 _ (by omega) (by omega)
section
variable {l:List aP} {a:Int}
variable (h:iK l) (hn:l.length≤100) (ha:0≤a∧a≤72057594037927936)
include h hn
theorem Ey(t:Nat)(ht:t<l.length):∃ q:Nat,q<l.length∧aN l q=t∧aS l q=oA l t∧uS ((oA l t).1,(oA l t).2.1,(oA l t).2.2.1,l,())=some ((q:Int),()):=by
 obtain⟨q,hq,hr,he⟩:=Fe h ht
 refine⟨q,hq,hr,he, ?_⟩
 have:=adX (Eg h) hn q hq
 rw[he]at this
 simp only[uS,TJ.T,this,Option.bind_some]
include ha in
theorem EW(t:Nat)(ht:t<l.length)(hs:∀ s,s<t→jA l a s):∃ y,zN ((oA l t).1,(oA l t).2.1,(oA l t).2.2.1,aU l a t,bM l t,())=some (y,())∧(y=true↔jA l a t):=by
 obtain⟨h1,h2⟩:=mG h ha t (by omega) hs
 have hw:=oN h t ht
 have hA:=qW h hn t (by omega)
 have hW:=xP h t ht
 simp only[zN,RQ.T]
 rw[decide_eq_true (by omega),cond_true]
 unfold jA
 generalize (oA l t).2.1=w at*
 generalize (oA l t).2.2.1=g at*
 generalize bM l t=A at*
 generalize aU l a t=r at*
 obtain⟨w,rfl⟩:=Int.eq_ofNat_of_zero_le hW.1
 obtain⟨A,rfl⟩:=Int.eq_ofNat_of_zero_le hA.1
 obtain⟨r,rfl⟩:=Int.eq_ofNat_of_zero_le h1
 obtain⟨g,rfl⟩:=Int.eq_ofNat_of_zero_le (by omega:0≤g)
 rw[W9 w A r g (by omega) (by omega) (by omega) (by omega)]
 refine⟨_,rfl, ?_⟩
 rw[decide_eq_true_iff,Int.natCast_mul,Int.natCast_mul]
 unfold sg
 generalize (w:Int)*(A:Int)=x
 generalize (r:Int)*(g:Int)=y
 split
 ·omega
 ·split <;>omega
abbrev outT(l:List aP)(t:Nat):List (Int×Unit):=rg l.length fun p=>if aN l p<t then(aS l p).2.1 else 0
theorem Wp(t q:Nat)(hq:q<l.length)(hr:aN l q=t)(he:aS l q=oA l t):(outT l t).set q ((oA l t).2.1,())=outT l (t+1):=by
 rw[qQ]
 refine fF _ _ _ fun p hp=> ?_
 by_cases e:p=q
 ·subst e;rw[if_pos rfl,if_pos (by omega),he]
 ·have:aN l p≠t:=fun hc=>e (sH h hp hq (by omega))
  rw[if_neg e]
  by_cases hr:aN l p<t
  ·rw[if_pos hr,if_pos (by omega)]
  ·rw[if_neg hr,if_neg (by omega)]
abbrev RF:=Option (List (Int×Unit)×Int×Int×Int×List (Bool×Unit)×Unit)
include ha in
theorem im2(k0:Nat)(hx1:List aP→Int→Int→Int→Int→Int→Int→List aP→List (Int×Unit)→List (Bool×Unit)→RF)(hx2:Nat→Nat→List aP→Int→Int→Int→Int→Int→Int→List aP→List (Int×Unit)→List (Bool×Unit)→RF)
  (c1 c2 c3:Int) (o5:List (Bool×Unit)) (T:Nat) (hT:jk l a T):
  ∀ d t k,t+d=T→d<k→bY.G2 k0 hx1 hx2 k t (l.length - t) l c1 c2 c3 (aU l a t) (bM l t) (t:Nat) (dh l) (outT l t) o5=hx2 T (l.length - T) l c1 c2 c3 (aU l a T) (bM l T) (T:Nat) (dh l) (outT l T) o5:=by
 intro d
 induction d with
 |zero=>
  intro t k ht hk
  obtain⟨k,rfl⟩:∃ j,k=j+1:=⟨k - 1,by omega⟩
  have:t=T:=by omega
  subst this
  simp only[bY.G2,bY.R2]
  by_cases he:t=l.length
  ·rw[decide_eq_false (by omega),cond_false]
  ·have htl:t<l.length:=by have:=hT.1;omega
   obtain⟨y,hy,hyf⟩:=EW h hn ha t htl hT.2.1
   have hnf:¬ jA l a t:=by rcases hT.2.2 with h1 |h1;exact absurd h1 he;exact h1
   rw[decide_eq_true (by omega),cond_true,if_pos (by rw[iW];omega),if_pos (by omega),Int.toNat_zero,Nat.add_zero,show(dh l).getD t (0,0,0,())=oA l t from rfl,hy]
   have:y=false:=by cases y;rfl;exact absurd (hyf.1 rfl) hnf
   subst this
   rfl
 |succ d ih=>
  intro t k ht hk
  obtain⟨k,rfl⟩:∃ j,k=j+1:=⟨k - 1,by omega⟩
  have htl:t<l.length:=by have:=hT.1;omega
  have hs:∀ s,s<t→jA l a s:=fun s hs=>hT.2.1 s (by omega)
  obtain⟨y,hy,hyf⟩:=EW h hn ha t htl hs
  obtain⟨q,hq,hr,he,hp⟩:=Ey h hn t htl
  obtain⟨h1,h2⟩:=mG h ha t (by omega) hs
  have hw:=oN h t htl
  have hA:=qW h hn t (by omega)
  have hW:=xP h t htl
  have:=hyf.2 (hT.2.1 t (by omega))
  subst this
  simp only[bY.G2,bY.R2]
  have c1':t+(l.length - t)≤(dh l).length:=by rw[iW];omega
  rw[decide_eq_true (by omega),cond_true,if_pos c1',if_pos (by omega),Int.toNat_zero,Nat.add_zero,show(dh l).getD t (0,0,0,())=oA l t from rfl,hy]
  simp only[Option.bind_some,cond_true]
  rw[if_pos c1',if_pos (by omega),hp]
  simp only[Option.bind_some,ji,Int.toNat_natCast]
  have e1:af (aU l a t - (oA l t).2.1)=aU l a (t+1):=by
   rw[aI _ (by omega)];unfold aU;simp only[sumTo];omega
  have e2:af (bM l t - (oA l t).2.2.1)=bM l (t+1):=by
   rw[aI _ (by omega)];unfold bM;simp only[sumTo];omega
  have e3:af ((t:Int)+1)=((t+1:Nat):Int):=aI _ (by omega)
  rw[if_pos (by omega),if_pos c1',if_pos (by omega),e1,e2,e3,Wp h hn t q hq hr he,Int.toNat_one,show l.length - t - 1=l.length - (t+1) by omega]
  exact ih (t+1) k (by omega) (by omega)
include ha in
theorem im1(k0:Nat)(hx1:List aP→Int→Int→Int→Int→Int→Int→List aP→List (Int×Unit)→List (Bool×Unit)→RF)(hx2:Nat→Nat→List aP→Int→Int→Int→Int→Int→Int→List aP→List (Int×Unit)→List (Bool×Unit)→RF)
  (c1 c2 c3:Int) (o5:List (Bool×Unit)) (T:Nat) (hT:jk l a T) (k:Nat) (hk:T<k):
  bY.G1 k0 hx1 hx2 k l c1 c2 c3 (aU l a 0) (bM l 0) 0 (dh l) (outT l 0) o5=if T=0 then hx1 l c1 c2 c3 (aU l a 0) (bM l 0) 0 (dh l) (outT l 0) o5 else hx2 T (l.length - T) l c1 c2 c3 (aU l a T) (bM l T) (T:Nat) (dh l) (outT l T) o5:=by
 obtain⟨k,rfl⟩:∃ j,k=j+1:=⟨k - 1,by omega⟩
 simp only[bY.G1,bY.R1]
 by_cases h0:T=0
 ·subst h0
  rw[if_pos rfl]
  by_cases he:l.length=0
  ·rw[decide_eq_false (by rw[iW];omega),cond_false]
  ·obtain⟨y,hy,hyf⟩:=EW h hn ha 0 (by omega) hT.2.1
   have hnf:¬ jA l a 0:=by rcases hT.2.2 with h1 |h1;exact absurd h1.symm he;exact h1
   rw[decide_eq_true (by rw[iW];omega),cond_true,if_pos (by rw[iW];omega),Int.toNat_zero,show(dh l).getD 0 (0,0,0,())=oA l 0 from rfl,hy]
   have:y=false:=by cases y;rfl;exact absurd (hyf.1 rfl) hnf
   subst this
   rfl
 ·rw[if_neg h0]
  have htl:0<l.length:=by have:=hT.1;omega
  have hs:∀ s,s<0→jA l a s:=fun s hs=>by omega
  obtain⟨y,hy,hyf⟩:=EW h hn ha 0 htl hs
  obtain⟨q,hq,hr,he,hp⟩:=Ey h hn 0 htl
  obtain⟨h1,h2⟩:=mG h ha 0 (by omega) hs
  have hw:=oN h 0 htl
  have hA:=qW h hn 0 (by omega)
  have hW:=xP h 0 htl
  have:=hyf.2 (hT.2.1 0 (by omega))
  subst this
  have c1':(0:Int)≤0∧0<((dh l).length:Int):=by rw[iW];omega
  rw[decide_eq_true (by rw[iW];omega),cond_true,if_pos c1',Int.toNat_zero,show(dh l).getD 0 (0,0,0,())=oA l 0 from rfl,hy]
  simp only[Option.bind_some,cond_true]
  rw[if_pos c1',hp]
  simp only[Option.bind_some,ji,Int.toNat_natCast]
  have e1:af (aU l a 0 - (oA l 0).2.1)=aU l a 1:=by
   rw[aI _ (by omega)];unfold aU;simp[sumTo]
  have e2:af (bM l 0 - (oA l 0).2.2.1)=bM l 1:=by
   rw[aI _ (by omega)];unfold bM;simp only[sumTo];omega
  have e3:af ((0:Int)+1)=((1:Nat):Int):=aI _ (by omega)
  rw[if_pos (by omega),if_pos (by rw[iW];omega),e1,e2,e3,Wp h hn 0 q hq hr he,Int.toNat_one,iW]
  exact im2 h hn ha k0 hx1 hx2 c1 c2 c3 o5 T hT (T - 1) 1 k (by omega) (by omega)
theorem im0(k0:Nat)(hx:List aP→Int→Int→Int→Int→Int→Int→List (Int×Unit)→List (Bool×Unit)→RF)(c1 c2 c3 out out3:Int)(o3:List (Int×Unit))(o4:List (Bool×Unit))(k:Nat)(hk:l.length<k):
  bY.G0 k0 hx k l (l.length:Int) 0 l c1 c2 c3 out 0 out3 o3 o4=hx l c1 c2 c3 out (sumTo l.length fun p=>(aS l p).2.2.1) out3 o3 o4:=by
 refine run 0 l.length (fun k i=>bY.G0 k0 hx k l (l.length:Int) (i:Nat) l c1 c2 c3 out (sumTo i fun p=>(aS l p).2.2.1) out3 o3 o4) _ (fun k i _ hi=> ?_) (fun k=> ?_) k (by omega) (by omega)
 ·have hb:=mF 1073741824 (fun p=>(aS l p).2.2.1) i fun q hq=>by have:=qX h q (by omega);omega
  have hw:=qX h i hi
  show bY.G0 k0 hx (k+1) l _ (i:Nat) l c1 c2 c3 out (sumTo i fun p=>(aS l p).2.2.1) out3 o3 o4=bY.G0 k0 hx k l _ ((i+1:Nat):Int) l c1 c2 c3 out (sumTo (i+1) fun p=>(aS l p).2.2.1) out3 o3 o4
  simp only[bY.G0,bY.R0,bZ]
  rw[decide_eq_true (by omega),cond_true,if_pos (by omega),show l.getD i (0,0,0,())=aS l i from rfl,aI ((i:Int)+1) (by omega),aI _ (by omega)]
  rfl
 ·simp only[bY.G0,bY.R0]
  rw[decide_eq_false (by omega),cond_false]
def eY(l:List aP)(a:Int)(T j:Nat):Int:=aU l a T*(oA l (T+j)).2.2.1 / bM l T
include ha in
theorem Ox(T j:Nat)(hT:jk l a T)(hj:T+j<l.length):xh (aU l a T,(oA l (T+j)).2.2.1,bM l T,())=some (eY l a T j,())∧0≤eY l a T j∧eY l a T j≤a:=by
 obtain⟨q,hq,hr,he⟩:=Fe h hj
 obtain⟨h1,h2⟩:=mG h ha T hT.1 hT.2.1
 have hw:=qX h q hq
 have hA:=qW h hn T hT.1
 have hA2:=Es h T q hq (by omega)
 have hS:=sF h hn ha T q hT hq (by omega)
 unfold eY
 unfold gK at hS
 rw[←show aS l q=oA l (T+j)from he]
 generalize (aS l q).2.2.1=g at*
 generalize bM l T=A at*
 generalize aU l a T=r at*
 obtain⟨A,rfl⟩:=Int.eq_ofNat_of_zero_le hA.1
 obtain⟨r,rfl⟩:=Int.eq_ofNat_of_zero_le h1
 obtain⟨g,rfl⟩:=Int.eq_ofNat_of_zero_le (by omega:0≤g)
 rw[←Int.natCast_mul, ←Int.natCast_ediv]at hS ⊢
 refine⟨aej r g A (by omega) (by omega) (by omega) (by omega) ?_,hS⟩
 generalize r*g / A=Q at*
 omega
theorem Om(T q j:Nat)(hq:q<l.length)(hr:aN l q=T+j):gK l a T q=eY l a T j:=by
 unfold gK eY
 rw[←vK hq,hr]
include ha in
theorem left_eq(T:Nat)(hT:jk l a T):aU l a T - sumTo (l.length - T) (eY l a T)=leftA l a T:=by
 unfold leftA
 have e:=acT l h (fun t=>if t<T then 0 else aU l a T*(oA l t).2.2.1 / bM l T)
 have e1:(sumTo l.length fun p=>if aN l p<T then 0 else gK l a T p)=sumTo l.length fun p=>(fun t=>if t<T then 0 else aU l a T*(oA l t).2.2.1 / bM l T) (aN l p):=by
  refine sumTo_congr _ _ _ fun p hp=> ?_
  by_cases hr:aN l p<T
  ·simp only[if_pos hr]
  ·simp only[if_neg hr]
   unfold gK
   rw[show oA l (aN l p)=aS l p from vK hp]
 rw[e1,e]
 have hs:=xk (fun t=>if t<T then 0 else aU l a T*(oA l t).2.2.1 / bM l T) T (l.length - T)
 rw[show T+(l.length - T)=l.length by have:=hT.1;omega]at hs
 rw[hs,LU _ T fun q hq=>by simp only[if_pos hq]]
 have:sumTo (l.length - T) (fun i=>if T+i<T then 0 else aU l a T*(oA l (T+i)).2.2.1 / bM l T)=sumTo (l.length - T) (eY l a T):=by
  refine sumTo_congr _ _ _ fun i hi=> ?_
  rw[if_neg (by omega)];rfl
 rw[this]
 omega
abbrev jH(l:List aP)(a:Int)(T j:Nat):List (Int×Unit):=rg l.length fun p=>if aN l p<T then(aS l p).2.1 else if aN l p<T+j then gK l a T p else 0
abbrev jy(l:List aP)(T j:Nat):List (Bool×Unit):=rg l.length fun p=>decide (T≤aN l p∧aN l p<T+j)
theorem Vs(T j q:Nat)(hq:q<l.length)(hr:aN l q=T+j):(jH l a T j).set q (eY l a T j,())=jH l a T (j+1):=by
 rw[qQ]
 refine fF _ _ _ fun p hp=> ?_
 by_cases e:p=q
 ·subst e;rw[if_pos rfl,if_neg (by omega),if_pos (by omega),Om h hn T p j hq hr]
 ·have:aN l p≠T+j:=fun hc=>e (sH h hp hq (by omega))
  rw[if_neg e]
  by_cases h1:aN l p<T
  ·rw[if_pos h1,if_pos h1]
  ·rw[if_neg h1,if_neg h1]
   by_cases h2:aN l p<T+j
   ·rw[if_pos h2,if_pos (by omega)]
   ·rw[if_neg h2,if_neg (by omega)]
theorem UH(T j q:Nat)(hq:q<l.length)(hr:aN l q=T+j):(jy l T j).set q (true,())=jy l T (j+1):=by
 rw[qQ]
 refine fF _ _ _ fun p hp=> ?_
 by_cases e:p=q
 ·subst e;rw[if_pos rfl,decide_eq_true (by omega)]
 ·have:aN l p≠T+j:=fun hc=>e (sH h hp hq (by omega))
  rw[if_neg e]
  by_cases h2:T≤aN l p∧aN l p<T+j
  ·rw[decide_eq_true h2,decide_eq_true (by omega)]
  ·rw[decide_eq_false h2,decide_eq_false (by omega)]
include ha in
theorem Vj(T i:Nat)(hT:jk l a T)(hi:T+i≤l.length):0≤sumTo i (eY l a T)∧sumTo i (eY l a T)≤7205759403792793600:=by
 have hb:=mF 72057594037927936 (eY l a T) i fun q hq=>by have:=(Ox h hn ha T q hT (by omega)).2;omega
 omega
include ha in
theorem im4(k0:Nat)(hx:Int→List aP→Int→Int→Int→Int→Int→Int→List (Bool×Unit)→List (Int×Unit)→List (Bool×Unit)→RF)(c1 c2 c3 out3:Int)(o6:List (Bool×Unit))(T:Nat)(hT:jk l a T)(k:Nat)(hk:l.length<k):
  bY.G4 k0 hx k (aU l a T) T (l.length - T) ((l.length - T:Nat):Int) 0 l c1 c2 c3 (aU l a T) (bM l T) out3 (jy l T 0) (dh l) (jH l a T 0) o6=
   hx (aU l a T - sumTo (l.length - T) (eY l a T)) l c1 c2 c3 (aU l a T) (bM l T) out3 (jy l T (l.length - T)) (jH l a T (l.length - T)) o6:=by
 have hTl:=hT.1
 obtain⟨b1,b2⟩:=mG h ha T hT.1 hT.2.1
 suffices x:bY.G4 k0 hx k (aU l a T - sumTo 0 (eY l a T)) T (l.length - T) ((l.length - T:Nat):Int) ((0:Nat):Int) l c1 c2 c3 (aU l a T) (bM l T) out3 (jy l T 0) (dh l) (jH l a T 0) o6=
   hx (aU l a T - sumTo (l.length - T) (eY l a T)) l c1 c2 c3 (aU l a T) (bM l T) out3 (jy l T (l.length - T)) (jH l a T (l.length - T)) o6 by
  rw[show aU l a T - sumTo 0 (eY l a T)=aU l a T by simp[sumTo]]at x
  exact x
 refine run 0 (l.length - T) (fun k i=>bY.G4 k0 hx k (aU l a T - sumTo i (eY l a T)) T (l.length - T) ((l.length - T:Nat):Int) (i:Nat) l c1 c2 c3 (aU l a T) (bM l T) out3 (jy l T i) (dh l) (jH l a T i) o6) _ (fun k i _ hi=> ?_) (fun k=> ?_) k (by omega) (by omega)
 ·show bY.G4 k0 hx (k+1) (aU l a T - sumTo i (eY l a T)) T _ _ (i:Nat) l c1 c2 c3 _ _ out3 (jy l T i) _ (jH l a T i) o6=bY.G4 k0 hx k (aU l a T - sumTo (i+1) (eY l a T)) T _ _ ((i+1:Nat):Int) l c1 c2 c3 _ _ out3 (jy l T (i+1)) _ (jH l a T (i+1)) o6
  obtain⟨q,hq,hr,he,hp⟩:=Ey h hn (T+i) (by omega)
  obtain⟨hs,s1,s2⟩:=Ox h hn ha T i hT (by omega)
  have hb:=Vj h hn ha T i hT (by omega)
  simp only[bY.G4,bY.R4,Int.toNat_natCast]
  rw[decide_eq_true (by omega),cond_true,if_pos (by rw[iW];omega),if_pos (by omega),show(dh l).getD (T+i) (0,0,0,())=oA l (T+i)from rfl,hp]
  simp only[Option.bind_some]
  rw[hs]
  simp only[Option.bind_some,Int.toNat_natCast]
  rw[Vs h hn T i q hq hr,UH h hn T i q hq hr]
  simp only[ji]
  rw[if_pos (by omega),if_pos (by omega),if_pos (by omega),mJ _ _ _ _ hq,if_neg (by omega:¬ aN l q<T),if_pos (by omega:aN l q<T+(i+1)),Om h hn T q i hq hr,aI ((i:Int)+1) (by omega),aI _ (by omega)]
  simp only[sumTo]
  rw[show aU l a T - sumTo i (eY l a T) - eY l a T i=aU l a T - (sumTo i (eY l a T)+eY l a T i) by omega]
  rfl
 ·simp only[bY.G4,bY.R4]
  rw[decide_eq_false (by omega),cond_false]
include ha in
theorem im3(k0:Nat)(hx:Int→List aP→Int→Int→Int→Int→Int→Int→List (Bool×Unit)→List (Int×Unit)→List (Bool×Unit)→RF)(c1 c2 c3 out3:Int)(o6:List (Bool×Unit))(hT:jk l a 0)(k:Nat)(hk:l.length<k):
  bY.G3 k0 hx k (aU l a 0) (l.length:Int) 0 l c1 c2 c3 (aU l a 0) (bM l 0) out3 (jy l 0 0) (dh l) (jH l a 0 0) o6=
   hx (aU l a 0 - sumTo (l.length - 0) (eY l a 0)) l c1 c2 c3 (aU l a 0) (bM l 0) out3 (jy l 0 (l.length - 0)) (jH l a 0 (l.length - 0)) o6:=by
 obtain⟨b1,b2⟩:=mG h ha 0 hT.1 hT.2.1
 rw[Nat.sub_zero]
 suffices x:bY.G3 k0 hx k (aU l a 0 - sumTo 0 (eY l a 0)) (l.length:Int) ((0:Nat):Int) l c1 c2 c3 (aU l a 0) (bM l 0) out3 (jy l 0 0) (dh l) (jH l a 0 0) o6=
   hx (aU l a 0 - sumTo l.length (eY l a 0)) l c1 c2 c3 (aU l a 0) (bM l 0) out3 (jy l 0 l.length) (jH l a 0 l.length) o6 by
  rw[show aU l a 0 - sumTo 0 (eY l a 0)=aU l a 0 by simp[sumTo]]at x
  exact x
 refine run 0 l.length (fun k i=>bY.G3 k0 hx k (aU l a 0 - sumTo i (eY l a 0)) (l.length:Int) (i:Nat) l c1 c2 c3 (aU l a 0) (bM l 0) out3 (jy l 0 i) (dh l) (jH l a 0 i) o6) _ (fun k i _ hi=> ?_) (fun k=> ?_) k (by omega) (by omega)
 ·show bY.G3 k0 hx (k+1) (aU l a 0 - sumTo i (eY l a 0)) _ (i:Nat) l c1 c2 c3 _ _ out3 (jy l 0 i) _ (jH l a 0 i) o6=bY.G3 k0 hx k (aU l a 0 - sumTo (i+1) (eY l a 0)) _ ((i+1:Nat):Int) l c1 c2 c3 _ _ out3 (jy l 0 (i+1)) _ (jH l a 0 (i+1)) o6
  obtain⟨q,hq,hr,he,hp⟩:=Ey h hn (0+i) (by omega)
  obtain⟨hs,s1,s2⟩:=Ox h hn ha 0 i hT (by omega)
  have hb:=Vj h hn ha 0 i hT (by omega)
  simp only[bY.G3,bY.R3,Int.toNat_natCast]
  rw[decide_eq_true (by omega),cond_true,if_pos (by rw[iW];omega),show(dh l).getD i (0,0,0,())=oA l (0+i) by rw[Nat.zero_add],hp]
  simp only[Option.bind_some]
  rw[hs]
  simp only[Option.bind_some,Int.toNat_natCast]
  rw[Vs h hn 0 i q hq hr,UH h hn 0 i q hq hr]
  simp only[ji]
  rw[if_pos (by omega),if_pos (by omega),if_pos (by omega),mJ _ _ _ _ hq,if_neg (by omega:¬ aN l q<0),if_pos (by omega:aN l q<0+(i+1)),Om h hn 0 q i hq hr,aI ((i:Int)+1) (by omega),aI _ (by omega)]
  simp only[sumTo]
  rw[show aU l a 0 - sumTo i (eY l a 0) - eY l a 0 i=aU l a 0 - (sumTo i (eY l a 0)+eY l a 0 i) by omega]
  rfl
 ·simp only[bY.G3,bY.R3]
  rw[decide_eq_false (by omega),cond_false]
abbrev yE(l:List aP)(a:Int)(T:Nat):List (Bool×Unit):=rg l.length fun p=>decide (T≤aN l p∧0<fO l a T p)
include ha in
theorem im5(k0:Nat)(hx:Int→Int→Int→Int→Int→Int→List (Int×Unit)→List (Bool×Unit)→RF)(c1 c2 c3 out out2 out3:Int)(T:Nat)(hT:jk l a T)(k:Nat)(hk:l.length<k):
  bY.G5 k0 hx k (leftA l a T) (l.length:Int) 0 c1 c2 c3 out out2 out3 (rg l.length fun p=>decide (T≤aN l p)) (rg l.length (fJ l a T)) (rg l.length fun _=>false)=hx c1 c2 c3 out out2 out3 (rg l.length (gy l a T)) (yE l a T):=by
 have e0:rg l.length (fJ l a T)=rg l.length fun p=>if p<0 then gy l a T p else fJ l a T p:=fF _ _ _ fun p _=>(if_neg (by omega:¬ p<0)).symm
 have e1:rg l.length (gy l a T)=rg l.length fun p=>if p<l.length then gy l a T p else fJ l a T p:=fF _ _ _ fun p hp=>(if_pos hp).symm
 have e2:(rg l.length fun _=>false)=rg l.length fun p=>decide (p<0∧T≤aN l p∧0<fO l a T p):=fF _ _ _ fun p _=>(decide_eq_false (by omega)).symm
 have e3:yE l a T=rg l.length fun p=>decide (p<l.length∧T≤aN l p∧0<fO l a T p):=fF _ _ _ fun p hp=>by
  by_cases hc:T≤aN l p∧0<fO l a T p
  ·rw[decide_eq_true hc,decide_eq_true ⟨hp,hc⟩]
  ·rw[decide_eq_false hc,decide_eq_false (fun x=>hc x.2)]
 rw[e0,e1,e2,e3]
 refine run 0 l.length (fun k i=>bY.G5 k0 hx k (fO l a T i) (l.length:Int) (i:Nat) c1 c2 c3 out out2 out3 (rg l.length fun p=>decide (T≤aN l p)) (rg l.length fun p=>if p<i then gy l a T p else fJ l a T p) (rg l.length fun p=>decide (p<i∧T≤aN l p∧0<fO l a T p))) _ (fun k i _ hi=> ?_) (fun k=> ?_) k (by omega) (by omega)
 ·show bY.G5 k0 hx (k+1) (fO l a T i) _ (i:Nat) c1 c2 c3 out out2 out3 _ _ _=bY.G5 k0 hx k (fO l a T (i+1)) _ ((i+1:Nat):Int) c1 c2 c3 out out2 out3 _ _ _
  have hb:=OI h hn ha T hT i
  simp only[bY.G5,bY.R5,ji,Int.toNat_natCast,fO]
  rw[decide_eq_true (by omega),cond_true,if_pos (by omega),mJ _ _ _ _ hi,mJ _ _ _ _ hi,aI ((i:Int)+1) (by omega),if_neg (by omega:¬ i<i)]
  have cg:∀ (hc:¬ (T≤aN l i∧0<fO l a T i)),(rg l.length fun p=>if p<i then gy l a T p else fJ l a T p)=(rg l.length fun p=>if p<i+1 then gy l a T p else fJ l a T p)∧
    (rg l.length fun p=>decide (p<i∧T≤aN l p∧0<fO l a T p))=(rg l.length fun p=>decide (p<i+1∧T≤aN l p∧0<fO l a T p)):=by
   intro hc
   refine⟨fF _ _ _ fun p hp=> ?_,fF _ _ _ fun p hp=> ?_⟩
   ·by_cases e:p=i
    ·subst e;rw[if_neg (by omega:¬ p<p),if_pos (by omega:p<p+1)];unfold gy;rw[if_neg hc]
    ·by_cases e2:p<i
     ·rw[if_pos e2,if_pos (by omega:p<i+1)]
     ·rw[if_neg e2,if_neg (by omega:¬ p<i+1)]
   ·by_cases e:p=i
    ·subst e;rw[decide_eq_false (by omega),decide_eq_false (fun x=>hc x.2)]
    ·by_cases e2:p<i
     ·simp only[e2,show p<i+1 by omega,true_and]
     ·rw[decide_eq_false (by omega),decide_eq_false (by omega)]
  by_cases hr:T≤aN l i
  ·rw[decide_eq_true hr,cond_true]
   by_cases hl:0<fO l a T i
   ·have hB:fJ l a T i=gK l a T i:=by unfold fJ;rw[if_neg (by omega)]
    have hS:=sF h hn ha T i hT hi hr
    rw[decide_eq_true (by omega),cond_true,if_pos (by omega),if_pos (by omega),if_pos (by omega),qQ,qQ,aI _ (by omega),aI _ (by omega),if_pos ⟨hr,hl⟩]
    congr 1
    ·refine fF _ _ _ fun p hp=> ?_
     by_cases e:p=i
     ·subst e;rw[if_pos rfl,if_pos (by omega:p<p+1)];unfold gy;rw[if_pos ⟨hr,hl⟩]
     ·rw[if_neg e]
      by_cases e2:p<i
      ·rw[if_pos e2,if_pos (by omega:p<i+1)]
      ·rw[if_neg e2,if_neg (by omega:¬ p<i+1)]
    ·refine fF _ _ _ fun p hp=> ?_
     by_cases e:p=i
     ·subst e;rw[if_pos rfl,decide_eq_true ⟨by omega,hr,hl⟩]
     ·rw[if_neg e]
      by_cases e2:p<i
      ·simp only[e2,show p<i+1 by omega,true_and]
      ·rw[decide_eq_false (by omega),decide_eq_false (by omega)]
   ·obtain⟨g1,g2⟩:=cg (fun x=>hl x.2)
    rw[decide_eq_false (by omega),cond_false,if_neg (fun x=>hl x.2),g1,g2]
    rfl
  ·obtain⟨g1,g2⟩:=cg (fun x=>hr x.1)
   rw[decide_eq_false hr,cond_false,if_neg (fun x=>hr x.1),g1,g2]
   rfl
 ·simp only[bY.G5,bY.R5]
  rw[decide_eq_false (by omega),cond_false]
include ha in
theorem adf(T:Nat)(hT:jk l a T):Ak (a,l,())=some (rg l.length (gy l a T),if T=l.length then 0 else aU l a T,if T=l.length then 0 else bM l T,(T:Int),yE l a T,()):=by
 have hTl:=hT.1
 simp only[Ak,bY.FF,bY.T]
 rw[if_pos (by omega),if_pos (by omega),im0 h hn _ _ _ _ _ _ _ _ _ _ (by omega)]
 simp only[bY.A0,VT l h,Option.bind_some]
 rw[Int.toNat_natCast,qH,qH]
 have r0:aU l a 0=a:=by unfold aU;simp[sumTo]
 have a0:bM l 0=sumTo l.length fun p=>(aS l p).2.2.1:=by unfold bM;simp[sumTo]
 have o0:outT l 0=rg l.length fun _=>(0:Int):=fF _ _ _ fun p _=>by rw[if_neg (by omega)]
 have h1:=fun k0 hx1 hx2 k hk=>im1 h hn ha k0 hx1 hx2 0 0 0 (rg l.length fun _=>false) T hT k hk
 rw[r0,a0,o0]at h1
 rw[h1 _ _ _ _ (by omega)]
 have fin:∀ (c1 c2 c3:Int),T≠l.length→∀ left,left=leftA l a T→
   bY.A3 (bY.G5 (300+l.length) (bY.A4 a l) (300+l.length)) a l left l c1 c2 c3 (aU l a T) (bM l T) (T:Int) (jy l T (l.length - T)) (jH l a T (l.length - T)) (rg l.length fun _=>false)=some (rg l.length (gy l a T),aU l a T,bM l T,(T:Int),yE l a T,()):=by
  intro c1 c2 c3 _ left hl
  subst hl
  have e1:jy l T (l.length - T)=rg l.length fun p=>decide (T≤aN l p):=fF _ _ _ fun p hp=>by
   have:=nP hp
   by_cases hr:T≤aN l p
   ·rw[decide_eq_true hr,decide_eq_true (by omega)]
   ·rw[decide_eq_false hr,decide_eq_false (by omega)]
  have e2:jH l a T (l.length - T)=rg l.length (fJ l a T):=fF _ _ _ fun p hp=>by
   have:=nP hp
   unfold fJ
   by_cases hr:aN l p<T
   ·rw[if_pos hr,if_pos hr]
   ·rw[if_neg hr,if_neg hr,if_pos (by omega)]
  simp only[bY.A3]
  rw[e1,e2,im5 h hn ha _ _ _ _ _ _ _ _ T hT _ (by omega)]
  rfl
 have full:T=l.length→∀ (c1 c2:Int),some (outT l T,(0:Int),(0:Int),(T:Int),(rg l.length fun _=>false),())=some (rg l.length (gy l a T),if T=l.length then 0 else aU l a T,if T=l.length then 0 else bM l T,(T:Int),yE l a T,()):=by
  intro he _ _
  rw[if_pos he,if_pos he]
  have e1:outT l T=rg l.length (gy l a T):=fF _ _ _ fun p hp=>by
   have hlt:aN l p<T:=by have:=nP hp;omega
   unfold gy
   rw[if_neg (by omega:¬ (T≤aN l p∧0<fO l a T p))]
   unfold fJ
   rw[if_pos hlt,if_pos hlt]
  have e2:(rg l.length fun _=>false)=yE l a T:=fF _ _ _ fun p hp=>by
   have hlt:aN l p<T:=by have:=nP hp;omega
   exact(decide_eq_false (by omega)).symm
  rw[e1,e2]
 have pj0:∀ T,(rg l.length fun _=>false)=jy l T 0:=fun T=>fF _ _ _ fun p _=>(decide_eq_false (by omega)).symm
 have oj0:∀ T,outT l T=jH l a T 0:=fun T=>fF _ _ _ fun p _=>by
  by_cases hr:aN l p<T
  ·rw[if_pos hr,if_pos hr]
  ·rw[if_neg hr,if_neg hr,if_neg (by omega)]
 by_cases h0:T=0
 ·subst h0
  rw[if_pos rfl]
  simp only[bY.A1]
  by_cases he:0=l.length
  ·rw[show(((dh l).length:Int)==0)=true by rw[iW, ←he];rfl,cond_true, ←full he 0 0,o0]
   rfl
  ·rw[show(((dh l).length:Int)==0)=false from beq_eq_false_iff_ne.2 (by rw[iW];omega),cond_false,if_pos (by omega),Int.toNat_natCast,qH,iW]
   rw[if_neg he,if_neg he,r0,a0,pj0 0, ←o0,oj0 0]
   have x:=im3 h hn ha (300+l.length) (bY.A3 (bY.G5 (300+l.length) (bY.A4 a l) (300+l.length)) a l) 0 0 0 0 (jy l 0 0) hT (300+l.length) (by omega)
   rw[r0,a0]at x
   rw[x]
   have y:=fin 0 0 0 he _ (left_eq h hn ha 0 hT)
   rw[r0,a0,pj0 0]at y
   exact y
 ·rw[if_neg h0]
  simp only[bY.A2]
  by_cases he:T=l.length
  ·rw[show(((l.length - T:Nat):Int)==0)=true by rw[he,Nat.sub_self];rfl,cond_true, ←full he 0 0]
  ·rw[show(((l.length - T:Nat):Int)==0)=false by simp;omega,cond_false,if_pos (by omega),Int.toNat_natCast,qH,if_neg he,if_neg he]
   have y:=fin 0 0 0 he _ (left_eq h hn ha T hT)
   rw[pj0 T]at y ⊢
   rw[oj0 T,im4 h hn ha _ _ _ _ _ _ _ T hT _ (by omega)]
   exact y
end
end Go.Rv
