/- Plain facts: fill_i. -/
import Derived.Test.YtjknhphmhfbghaaGreatPM24
set_option linter.unusedVariables false
set_option linter.unusedSimpArgs false
set_option linter.unusedSectionVars false
namespace Go.Rv
theorem aeu{l:List aQ}(hnd:l.Nodup)(hn:l.length≤100)(q:Nat)(hq:q<l.length):CU (l,(aS l q).1,(aS l q).2.1,(aS l q).2.2.1,())=some ((q:Int),()):=by
 have key:∀ (k0:Nat) (hx0:Int→Option (Int×Unit)) (hx1:Unit→Option (Int×Unit)) (d i k:Nat),i+d=q→d<k→rF.G0 k0 hx0 hx1 k l (l.length:Int) (i:Nat) (aS l q).1 (aS l q).2.1 (aS l q).2.2.1=hx0 (q:Int):=by
  intro k0 hx0 hx1 d
  induction d with
  |zero=>
   intro i k hi hk
   obtain⟨k,rfl⟩:∃ j,k=j+1:=⟨k - 1,by omega⟩
   have:i=q:=by omega
   subst this
   simp only[rF.G0,rF.R0,bY]
   rw[decide_eq_true (by omega),cond_true,if_pos (by omega),show l.getD i (0,0,0,())=aS l i from rfl]
   simp
  |succ d ih=>
   intro i k hi hk
   obtain⟨k,rfl⟩:∃ j,k=j+1:=⟨k - 1,by omega⟩
   have hil:i<l.length:=by omega
   simp only[rF.G0,rF.R0,bY]
   rw[decide_eq_true (by omega),cond_true,if_pos (by omega),show l.getD i (0,0,0,())=aS l i from rfl,aH _ (by omega)]
   have hne:aS l q≠aS l i:=by
    intro e
    rw[jL hil,jL hq]at e
    have:=(List.getElem_inj hnd).1 e
    omega
   have hf:((aS l q).1==(aS l i).1&&((aS l q).2.1==(aS l i).2.1&&((aS l q).2.2.1==(aS l i).2.2.1&&true)))=false:=by
    rw[←Bool.not_eq_true]
    intro hc
    simp only[Bool.and_eq_true,beq_iff_eq,and_true]at hc
    exact hne (Prod.ext hc.1 (Prod.ext hc.2.1 (Prod.ext hc.2.2 rfl)))
   rw[hf,cond_false]
   exact ih (i+1) k (by omega) (by omega)
 simp only[CU,rF.FF,rF.T]
 exact key _ _ _ q 0 _ (by omega) (by omega)
section
variable {l:List aQ} {a:Int}
variable (h:iJ l) (hn:l.length≤100) (ha:0≤a∧a≤72057594037927936)
include h hn
theorem EK(t:Nat)(ht:t<l.length):∃ q:Nat,q<l.length∧aK l q=t∧aS l q=oA l t∧uT ((oA l t).1,(oA l t).2.1,(oA l t).2.2.1,l,())=some ((q:Int),()):=by
 obtain⟨q,hq,hr,he⟩:=FC h ht
 refine⟨q,hq,hr,he, ?_⟩
 have:=aeu (Et h) hn q hq
 rw[he]at this
 simp only[uT,Uy.T,this,Option.bind_some]
include ha in
theorem Ff(t:Nat)(ht:t<l.length)(hs:∀ s,s<t→jw l a s):∃ y,zU ((oA l t).1,(oA l t).2.1,(oA l t).2.2.1,aV l a t,bM l t,())=some (y,())∧(y=true↔jw l a t):=by
 obtain⟨h1,h2⟩:=mG h ha t (by omega) hs
 have hw:=oQ h t ht
 have hA:=qX h hn t (by omega)
 have hW:=xU h t ht
 simp only[zU,Tf.T]
 rw[decide_eq_true (by omega),cond_true]
 unfold jw
 generalize (oA l t).2.1=w at*
 generalize (oA l t).2.2.1=g at*
 generalize bM l t=A at*
 generalize aV l a t=r at*
 obtain⟨w,rfl⟩:=Int.eq_ofNat_of_zero_le hW.1
 obtain⟨A,rfl⟩:=Int.eq_ofNat_of_zero_le hA.1
 obtain⟨r,rfl⟩:=Int.eq_ofNat_of_zero_le h1
 obtain⟨g,rfl⟩:=Int.eq_ofNat_of_zero_le (by omega:0≤g)
 rw[XG w A r g (by omega) (by omega) (by omega) (by omega)]
 refine⟨_,rfl, ?_⟩
 rw[decide_eq_true_iff,Int.natCast_mul,Int.natCast_mul]
 unfold sg
 generalize (w:Int)*(A:Int)=x
 generalize (r:Int)*(g:Int)=y
 split
 ·omega
 ·split <;>omega
abbrev outT(l:List aQ)(t:Nat):List (Int×Unit):=rg l.length fun p=>if aK l p<t then(aS l p).2.1 else 0
theorem Xe(t q:Nat)(hq:q<l.length)(hr:aK l q=t)(he:aS l q=oA l t):(outT l t).set q ((oA l t).2.1,())=outT l (t+1):=by
 rw[qR]
 refine fD _ _ _ fun p hp=> ?_
 by_cases e:p=q
 ·subst e;rw[if_pos rfl,if_pos (by omega),he]
 ·have:aK l p≠t:=fun hc=>e (sH h hp hq (by omega))
  rw[if_neg e]
  by_cases hr:aK l p<t
  ·rw[if_pos hr,if_pos (by omega)]
  ·rw[if_neg hr,if_neg (by omega)]
abbrev RF:=Option (List (Int×Unit)×Int×Int×Int×List (Bool×Unit)×Unit)
include ha in
theorem im2(k0:Nat)(hx1:List aQ→Int→Int→Int→Int→Int→Int→List aQ→List (Int×Unit)→List (Bool×Unit)→RF)(hx2:Nat→Nat→List aQ→Int→Int→Int→Int→Int→Int→List aQ→List (Int×Unit)→List (Bool×Unit)→RF)
  (c1 c2 c3:Int) (o5:List (Bool×Unit)) (T:Nat) (hT:jh l a T):
  ∀ d t k,t+d=T→d<k→bZ.G2 k0 hx1 hx2 k t (l.length - t) l c1 c2 c3 (aV l a t) (bM l t) (t:Nat) (dw l) (outT l t) o5=hx2 T (l.length - T) l c1 c2 c3 (aV l a T) (bM l T) (T:Nat) (dw l) (outT l T) o5:=by
 intro d
 induction d with
 |zero=>
  intro t k ht hk
  obtain⟨k,rfl⟩:∃ j,k=j+1:=⟨k - 1,by omega⟩
  have:t=T:=by omega
  subst this
  simp only[bZ.G2,bZ.R2]
  by_cases he:t=l.length
  ·rw[decide_eq_false (by omega),cond_false]
  ·have htl:t<l.length:=by have:=hT.1;omega
   obtain⟨y,hy,hyf⟩:=Ff h hn ha t htl hT.2.1
   have hnf:¬ jw l a t:=by rcases hT.2.2 with h1 |h1;exact absurd h1 he;exact h1
   rw[decide_eq_true (by omega),cond_true,if_pos (by rw[iW];omega),if_pos (by omega),Int.toNat_zero,Nat.add_zero,show(dw l).getD t (0,0,0,())=oA l t from rfl,hy]
   have:y=false:=by cases y;rfl;exact absurd (hyf.1 rfl) hnf
   subst this
   rfl
 |succ d ih=>
  intro t k ht hk
  obtain⟨k,rfl⟩:∃ j,k=j+1:=⟨k - 1,by omega⟩
  have htl:t<l.length:=by have:=hT.1;omega
  have hs:∀ s,s<t→jw l a s:=fun s hs=>hT.2.1 s (by omega)
  obtain⟨y,hy,hyf⟩:=Ff h hn ha t htl hs
  obtain⟨q,hq,hr,he,hp⟩:=EK h hn t htl
  obtain⟨h1,h2⟩:=mG h ha t (by omega) hs
  have hw:=oQ h t htl
  have hA:=qX h hn t (by omega)
  have hW:=xU h t htl
  have:=hyf.2 (hT.2.1 t (by omega))
  subst this
  simp only[bZ.G2,bZ.R2]
  have c1':t+(l.length - t)≤(dw l).length:=by rw[iW];omega
  rw[decide_eq_true (by omega),cond_true,if_pos c1',if_pos (by omega),Int.toNat_zero,Nat.add_zero,show(dw l).getD t (0,0,0,())=oA l t from rfl,hy]
  simp only[Option.bind_some,cond_true]
  rw[if_pos c1',if_pos (by omega),hp]
  simp only[Option.bind_some,jg,Int.toNat_natCast]
  have e1:af (aV l a t - (oA l t).2.1)=aV l a (t+1):=by
   rw[aH _ (by omega)];unfold aV;simp only[sumTo];omega
  have e2:af (bM l t - (oA l t).2.2.1)=bM l (t+1):=by
   rw[aH _ (by omega)];unfold bM;simp only[sumTo];omega
  have e3:af ((t:Int)+1)=((t+1:Nat):Int):=aH _ (by omega)
  rw[if_pos (by omega),if_pos c1',if_pos (by omega),e1,e2,e3,Xe h hn t q hq hr he,Int.toNat_one,show l.length - t - 1=l.length - (t+1) by omega]
  exact ih (t+1) k (by omega) (by omega)
include ha in
theorem im1(k0:Nat)(hx1:List aQ→Int→Int→Int→Int→Int→Int→List aQ→List (Int×Unit)→List (Bool×Unit)→RF)(hx2:Nat→Nat→List aQ→Int→Int→Int→Int→Int→Int→List aQ→List (Int×Unit)→List (Bool×Unit)→RF)
  (c1 c2 c3:Int) (o5:List (Bool×Unit)) (T:Nat) (hT:jh l a T) (k:Nat) (hk:T<k):
  bZ.G1 k0 hx1 hx2 k l c1 c2 c3 (aV l a 0) (bM l 0) 0 (dw l) (outT l 0) o5=if T=0 then hx1 l c1 c2 c3 (aV l a 0) (bM l 0) 0 (dw l) (outT l 0) o5 else hx2 T (l.length - T) l c1 c2 c3 (aV l a T) (bM l T) (T:Nat) (dw l) (outT l T) o5:=by
 obtain⟨k,rfl⟩:∃ j,k=j+1:=⟨k - 1,by omega⟩
 simp only[bZ.G1,bZ.R1]
 by_cases h0:T=0
 ·subst h0
  rw[if_pos rfl]
  by_cases he:l.length=0
  ·rw[decide_eq_false (by rw[iW];omega),cond_false]
  ·obtain⟨y,hy,hyf⟩:=Ff h hn ha 0 (by omega) hT.2.1
   have hnf:¬ jw l a 0:=by rcases hT.2.2 with h1 |h1;exact absurd h1.symm he;exact h1
   rw[decide_eq_true (by rw[iW];omega),cond_true,if_pos (by rw[iW];omega),Int.toNat_zero,show(dw l).getD 0 (0,0,0,())=oA l 0 from rfl,hy]
   have:y=false:=by cases y;rfl;exact absurd (hyf.1 rfl) hnf
   subst this
   rfl
 ·rw[if_neg h0]
  have htl:0<l.length:=by have:=hT.1;omega
  have hs:∀ s,s<0→jw l a s:=fun s hs=>by omega
  obtain⟨y,hy,hyf⟩:=Ff h hn ha 0 htl hs
  obtain⟨q,hq,hr,he,hp⟩:=EK h hn 0 htl
  obtain⟨h1,h2⟩:=mG h ha 0 (by omega) hs
  have hw:=oQ h 0 htl
  have hA:=qX h hn 0 (by omega)
  have hW:=xU h 0 htl
  have:=hyf.2 (hT.2.1 0 (by omega))
  subst this
  have c1':(0:Int)≤0∧0<((dw l).length:Int):=by rw[iW];omega
  rw[decide_eq_true (by rw[iW];omega),cond_true,if_pos c1',Int.toNat_zero,show(dw l).getD 0 (0,0,0,())=oA l 0 from rfl,hy]
  simp only[Option.bind_some,cond_true]
  rw[if_pos c1',hp]
  simp only[Option.bind_some,jg,Int.toNat_natCast]
  have e1:af (aV l a 0 - (oA l 0).2.1)=aV l a 1:=by
   rw[aH _ (by omega)];unfold aV;simp[sumTo]
  have e2:af (bM l 0 - (oA l 0).2.2.1)=bM l 1:=by
   rw[aH _ (by omega)];unfold bM;simp only[sumTo];omega
  have e3:af ((0:Int)+1)=((1:Nat):Int):=aH _ (by omega)
  rw[if_pos (by omega),if_pos (by rw[iW];omega),e1,e2,e3,Xe h hn 0 q hq hr he,Int.toNat_one,iW]
  exact im2 h hn ha k0 hx1 hx2 c1 c2 c3 o5 T hT (T - 1) 1 k (by omega) (by omega)
theorem im0(k0:Nat)(hx:List aQ→Int→Int→Int→Int→Int→Int→List (Int×Unit)→List (Bool×Unit)→RF)(c1 c2 c3 out out3:Int)(o3:List (Int×Unit))(o4:List (Bool×Unit))(k:Nat)(hk:l.length<k):
  bZ.G0 k0 hx k l (l.length:Int) 0 l c1 c2 c3 out 0 out3 o3 o4=hx l c1 c2 c3 out (sumTo l.length fun p=>(aS l p).2.2.1) out3 o3 o4:=by
 refine run 0 l.length (fun k i=>bZ.G0 k0 hx k l (l.length:Int) (i:Nat) l c1 c2 c3 out (sumTo i fun p=>(aS l p).2.2.1) out3 o3 o4) _ (fun k i _ hi=> ?_) (fun k=> ?_) k (by omega) (by omega)
 ·have hb:=mF 1073741824 (fun p=>(aS l p).2.2.1) i fun q hq=>by have:=qY h q (by omega);omega
  have hw:=qY h i hi
  show bZ.G0 k0 hx (k+1) l _ (i:Nat) l c1 c2 c3 out (sumTo i fun p=>(aS l p).2.2.1) out3 o3 o4=bZ.G0 k0 hx k l _ ((i+1:Nat):Int) l c1 c2 c3 out (sumTo (i+1) fun p=>(aS l p).2.2.1) out3 o3 o4
  simp only[bZ.G0,bZ.R0,bY]
  rw[decide_eq_true (by omega),cond_true,if_pos (by omega),show l.getD i (0,0,0,())=aS l i from rfl,aH ((i:Int)+1) (by omega),aH _ (by omega)]
  rfl
 ·simp only[bZ.G0,bZ.R0]
  rw[decide_eq_false (by omega),cond_false]
def eU(l:List aQ)(a:Int)(T j:Nat):Int:=aV l a T*(oA l (T+j)).2.2.1 / bM l T
include ha in
theorem OX(T j:Nat)(hT:jh l a T)(hj:T+j<l.length):xA (aV l a T,(oA l (T+j)).2.2.1,bM l T,())=some (eU l a T j,())∧0≤eU l a T j∧eU l a T j≤a:=by
 obtain⟨q,hq,hr,he⟩:=FC h hj
 obtain⟨h1,h2⟩:=mG h ha T hT.1 hT.2.1
 have hw:=qY h q hq
 have hA:=qX h hn T hT.1
 have hA2:=EG h T q hq (by omega)
 have hS:=sF h hn ha T q hT hq (by omega)
 unfold eU
 unfold gQ at hS
 rw[←show aS l q=oA l (T+j)from he]
 generalize (aS l q).2.2.1=g at*
 generalize bM l T=A at*
 generalize aV l a T=r at*
 obtain⟨A,rfl⟩:=Int.eq_ofNat_of_zero_le hA.1
 obtain⟨r,rfl⟩:=Int.eq_ofNat_of_zero_le h1
 obtain⟨g,rfl⟩:=Int.eq_ofNat_of_zero_le (by omega:0≤g)
 rw[←Int.natCast_mul, ←Int.natCast_ediv]at hS ⊢
 refine⟨aeP r g A (by omega) (by omega) (by omega) (by omega) ?_,hS⟩
 generalize r*g / A=Q at*
 omega
theorem OM(T q j:Nat)(hq:q<l.length)(hr:aK l q=T+j):gQ l a T q=eU l a T j:=by
 unfold gQ eU
 rw[←vO hq,hr]
include ha in
theorem left_eq(T:Nat)(hT:jh l a T):aV l a T - sumTo (l.length - T) (eU l a T)=leftA l a T:=by
 unfold leftA
 have e:=adt l h (fun t=>if t<T then 0 else aV l a T*(oA l t).2.2.1 / bM l T)
 have e1:(sumTo l.length fun p=>if aK l p<T then 0 else gQ l a T p)=sumTo l.length fun p=>(fun t=>if t<T then 0 else aV l a T*(oA l t).2.2.1 / bM l T) (aK l p):=by
  refine sumTo_congr _ _ _ fun p hp=> ?_
  by_cases hr:aK l p<T
  ·simp only[if_pos hr]
  ·simp only[if_neg hr]
   unfold gQ
   rw[show oA l (aK l p)=aS l p from vO hp]
 rw[e1,e]
 have hs:=xB (fun t=>if t<T then 0 else aV l a T*(oA l t).2.2.1 / bM l T) T (l.length - T)
 rw[show T+(l.length - T)=l.length by have:=hT.1;omega]at hs
 rw[hs,MJ _ T fun q hq=>by simp only[if_pos hq]]
 have:sumTo (l.length - T) (fun i=>if T+i<T then 0 else aV l a T*(oA l (T+i)).2.2.1 / bM l T)=sumTo (l.length - T) (eU l a T):=by
  refine sumTo_congr _ _ _ fun i hi=> ?_
  rw[if_neg (by omega)];rfl
 rw[this]
 omega
abbrev jF(l:List aQ)(a:Int)(T j:Nat):List (Int×Unit):=rg l.length fun p=>if aK l p<T then(aS l p).2.1 else if aK l p<T+j then gQ l a T p else 0
abbrev jv(l:List aQ)(T j:Nat):List (Bool×Unit):=rg l.length fun p=>decide (T≤aK l p∧aK l p<T+j)
theorem V5(T j q:Nat)(hq:q<l.length)(hr:aK l q=T+j):(jF l a T j).set q (eU l a T j,())=jF l a T (j+1):=by
 rw[qR]
 refine fD _ _ _ fun p hp=> ?_
 by_cases e:p=q
 ·subst e;rw[if_pos rfl,if_neg (by omega),if_pos (by omega),OM h hn T p j hq hr]
 ·have:aK l p≠T+j:=fun hc=>e (sH h hp hq (by omega))
  rw[if_neg e]
  by_cases h1:aK l p<T
  ·rw[if_pos h1,if_pos h1]
  ·rw[if_neg h1,if_neg h1]
   by_cases h2:aK l p<T+j
   ·rw[if_pos h2,if_pos (by omega)]
   ·rw[if_neg h2,if_neg (by omega)]
theorem Vw(T j q:Nat)(hq:q<l.length)(hr:aK l q=T+j):(jv l T j).set q (true,())=jv l T (j+1):=by
 rw[qR]
 refine fD _ _ _ fun p hp=> ?_
 by_cases e:p=q
 ·subst e;rw[if_pos rfl,decide_eq_true (by omega)]
 ·have:aK l p≠T+j:=fun hc=>e (sH h hp hq (by omega))
  rw[if_neg e]
  by_cases h2:T≤aK l p∧aK l p<T+j
  ·rw[decide_eq_true h2,decide_eq_true (by omega)]
  ·rw[decide_eq_false h2,decide_eq_false (by omega)]
include ha in
theorem VT(T i:Nat)(hT:jh l a T)(hi:T+i≤l.length):0≤sumTo i (eU l a T)∧sumTo i (eU l a T)≤7205759403792793600:=by
 have hb:=mF 72057594037927936 (eU l a T) i fun q hq=>by have:=(OX h hn ha T q hT (by omega)).2;omega
 omega
include ha in
theorem im4(k0:Nat)(hx:Int→List aQ→Int→Int→Int→Int→Int→Int→List (Bool×Unit)→List (Int×Unit)→List (Bool×Unit)→RF)(c1 c2 c3 out3:Int)(o6:List (Bool×Unit))(T:Nat)(hT:jh l a T)(k:Nat)(hk:l.length<k):
  bZ.G4 k0 hx k (aV l a T) T (l.length - T) ((l.length - T:Nat):Int) 0 l c1 c2 c3 (aV l a T) (bM l T) out3 (jv l T 0) (dw l) (jF l a T 0) o6=
   hx (aV l a T - sumTo (l.length - T) (eU l a T)) l c1 c2 c3 (aV l a T) (bM l T) out3 (jv l T (l.length - T)) (jF l a T (l.length - T)) o6:=by
 have hTl:=hT.1
 obtain⟨b1,b2⟩:=mG h ha T hT.1 hT.2.1
 suffices x:bZ.G4 k0 hx k (aV l a T - sumTo 0 (eU l a T)) T (l.length - T) ((l.length - T:Nat):Int) ((0:Nat):Int) l c1 c2 c3 (aV l a T) (bM l T) out3 (jv l T 0) (dw l) (jF l a T 0) o6=
   hx (aV l a T - sumTo (l.length - T) (eU l a T)) l c1 c2 c3 (aV l a T) (bM l T) out3 (jv l T (l.length - T)) (jF l a T (l.length - T)) o6 by
  rw[show aV l a T - sumTo 0 (eU l a T)=aV l a T by simp[sumTo]]at x
  exact x
 refine run 0 (l.length - T) (fun k i=>bZ.G4 k0 hx k (aV l a T - sumTo i (eU l a T)) T (l.length - T) ((l.length - T:Nat):Int) (i:Nat) l c1 c2 c3 (aV l a T) (bM l T) out3 (jv l T i) (dw l) (jF l a T i) o6) _ (fun k i _ hi=> ?_) (fun k=> ?_) k (by omega) (by omega)
 ·show bZ.G4 k0 hx (k+1) (aV l a T - sumTo i (eU l a T)) T _ _ (i:Nat) l c1 c2 c3 _ _ out3 (jv l T i) _ (jF l a T i) o6=bZ.G4 k0 hx k (aV l a T - sumTo (i+1) (eU l a T)) T _ _ ((i+1:Nat):Int) l c1 c2 c3 _ _ out3 (jv l T (i+1)) _ (jF l a T (i+1)) o6
  obtain⟨q,hq,hr,he,hp⟩:=EK h hn (T+i) (by omega)
  obtain⟨hs,s1,s2⟩:=OX h hn ha T i hT (by omega)
  have hb:=VT h hn ha T i hT (by omega)
  simp only[bZ.G4,bZ.R4,Int.toNat_natCast]
  rw[decide_eq_true (by omega),cond_true,if_pos (by rw[iW];omega),if_pos (by omega),show(dw l).getD (T+i) (0,0,0,())=oA l (T+i)from rfl,hp]
  simp only[Option.bind_some]
  rw[hs]
  simp only[Option.bind_some,Int.toNat_natCast]
  rw[V5 h hn T i q hq hr,Vw h hn T i q hq hr]
  simp only[jg]
  rw[if_pos (by omega),if_pos (by omega),if_pos (by omega),mJ _ _ _ _ hq,if_neg (by omega:¬ aK l q<T),if_pos (by omega:aK l q<T+(i+1)),OM h hn T q i hq hr,aH ((i:Int)+1) (by omega),aH _ (by omega)]
  simp only[sumTo]
  rw[show aV l a T - sumTo i (eU l a T) - eU l a T i=aV l a T - (sumTo i (eU l a T)+eU l a T i) by omega]
  rfl
 ·simp only[bZ.G4,bZ.R4]
  rw[decide_eq_false (by omega),cond_false]
include ha in
theorem im3(k0:Nat)(hx:Int→List aQ→Int→Int→Int→Int→Int→Int→List (Bool×Unit)→List (Int×Unit)→List (Bool×Unit)→RF)(c1 c2 c3 out3:Int)(o6:List (Bool×Unit))(hT:jh l a 0)(k:Nat)(hk:l.length<k):
  bZ.G3 k0 hx k (aV l a 0) (l.length:Int) 0 l c1 c2 c3 (aV l a 0) (bM l 0) out3 (jv l 0 0) (dw l) (jF l a 0 0) o6=
   hx (aV l a 0 - sumTo (l.length - 0) (eU l a 0)) l c1 c2 c3 (aV l a 0) (bM l 0) out3 (jv l 0 (l.length - 0)) (jF l a 0 (l.length - 0)) o6:=by
 obtain⟨b1,b2⟩:=mG h ha 0 hT.1 hT.2.1
 rw[Nat.sub_zero]
 suffices x:bZ.G3 k0 hx k (aV l a 0 - sumTo 0 (eU l a 0)) (l.length:Int) ((0:Nat):Int) l c1 c2 c3 (aV l a 0) (bM l 0) out3 (jv l 0 0) (dw l) (jF l a 0 0) o6=
   hx (aV l a 0 - sumTo l.length (eU l a 0)) l c1 c2 c3 (aV l a 0) (bM l 0) out3 (jv l 0 l.length) (jF l a 0 l.length) o6 by
  rw[show aV l a 0 - sumTo 0 (eU l a 0)=aV l a 0 by simp[sumTo]]at x
  exact x
 refine run 0 l.length (fun k i=>bZ.G3 k0 hx k (aV l a 0 - sumTo i (eU l a 0)) (l.length:Int) (i:Nat) l c1 c2 c3 (aV l a 0) (bM l 0) out3 (jv l 0 i) (dw l) (jF l a 0 i) o6) _ (fun k i _ hi=> ?_) (fun k=> ?_) k (by omega) (by omega)
 ·show bZ.G3 k0 hx (k+1) (aV l a 0 - sumTo i (eU l a 0)) _ (i:Nat) l c1 c2 c3 _ _ out3 (jv l 0 i) _ (jF l a 0 i) o6=bZ.G3 k0 hx k (aV l a 0 - sumTo (i+1) (eU l a 0)) _ ((i+1:Nat):Int) l c1 c2 c3 _ _ out3 (jv l 0 (i+1)) _ (jF l a 0 (i+1)) o6
  obtain⟨q,hq,hr,he,hp⟩:=EK h hn (0+i) (by omega)
  obtain⟨hs,s1,s2⟩:=OX h hn ha 0 i hT (by omega)
  have hb:=VT h hn ha 0 i hT (by omega)
  simp only[bZ.G3,bZ.R3,Int.toNat_natCast]
  rw[decide_eq_true (by omega),cond_true,if_pos (by rw[iW];omega),show(dw l).getD i (0,0,0,())=oA l (0+i) by rw[Nat.zero_add],hp]
  simp only[Option.bind_some]
  rw[hs]
  simp only[Option.bind_some,Int.toNat_natCast]
  rw[V5 h hn 0 i q hq hr,Vw h hn 0 i q hq hr]
  simp only[jg]
  rw[if_pos (by omega),if_pos (by omega),if_pos (by omega),mJ _ _ _ _ hq,if_neg (by omega:¬ aK l q<0),if_pos (by omega:aK l q<0+(i+1)),OM h hn 0 q i hq hr,aH ((i:Int)+1) (by omega),aH _ (by omega)]
  simp only[sumTo]
  rw[show aV l a 0 - sumTo i (eU l a 0) - eU l a 0 i=aV l a 0 - (sumTo i (eU l a 0)+eU l a 0 i) by omega]
  rfl
 ·simp only[bZ.G3,bZ.R3]
  rw[decide_eq_false (by omega),cond_false]
abbrev yH(l:List aQ)(a:Int)(T:Nat):List (Bool×Unit):=rg l.length fun p=>decide (T≤aK l p∧0<fK l a T p)
include ha in
theorem im5(k0:Nat)(hx:Int→Int→Int→Int→Int→Int→List (Int×Unit)→List (Bool×Unit)→RF)(c1 c2 c3 out out2 out3:Int)(T:Nat)(hT:jh l a T)(k:Nat)(hk:l.length<k):
  bZ.G5 k0 hx k (leftA l a T) (l.length:Int) 0 c1 c2 c3 out out2 out3 (rg l.length fun p=>decide (T≤aK l p)) (rg l.length (fG l a T)) (rg l.length fun _=>false)=hx c1 c2 c3 out out2 out3 (rg l.length (gB l a T)) (yH l a T):=by
 have e0:rg l.length (fG l a T)=rg l.length fun p=>if p<0 then gB l a T p else fG l a T p:=fD _ _ _ fun p _=>(if_neg (by omega:¬ p<0)).symm
 have e1:rg l.length (gB l a T)=rg l.length fun p=>if p<l.length then gB l a T p else fG l a T p:=fD _ _ _ fun p hp=>(if_pos hp).symm
 have e2:(rg l.length fun _=>false)=rg l.length fun p=>decide (p<0∧T≤aK l p∧0<fK l a T p):=fD _ _ _ fun p _=>(decide_eq_false (by omega)).symm
 have e3:yH l a T=rg l.length fun p=>decide (p<l.length∧T≤aK l p∧0<fK l a T p):=fD _ _ _ fun p hp=>by
  by_cases hc:T≤aK l p∧0<fK l a T p
  ·rw[decide_eq_true hc,decide_eq_true ⟨hp,hc⟩]
  ·rw[decide_eq_false hc,decide_eq_false (fun x=>hc x.2)]
 rw[e0,e1,e2,e3]
 refine run 0 l.length (fun k i=>bZ.G5 k0 hx k (fK l a T i) (l.length:Int) (i:Nat) c1 c2 c3 out out2 out3 (rg l.length fun p=>decide (T≤aK l p)) (rg l.length fun p=>if p<i then gB l a T p else fG l a T p) (rg l.length fun p=>decide (p<i∧T≤aK l p∧0<fK l a T p))) _ (fun k i _ hi=> ?_) (fun k=> ?_) k (by omega) (by omega)
 ·show bZ.G5 k0 hx (k+1) (fK l a T i) _ (i:Nat) c1 c2 c3 out out2 out3 _ _ _=bZ.G5 k0 hx k (fK l a T (i+1)) _ ((i+1:Nat):Int) c1 c2 c3 out out2 out3 _ _ _
  have hb:=O6 h hn ha T hT i
  simp only[bZ.G5,bZ.R5,jg,Int.toNat_natCast,fK]
  rw[decide_eq_true (by omega),cond_true,if_pos (by omega),mJ _ _ _ _ hi,mJ _ _ _ _ hi,aH ((i:Int)+1) (by omega),if_neg (by omega:¬ i<i)]
  have cg:∀ (hc:¬ (T≤aK l i∧0<fK l a T i)),(rg l.length fun p=>if p<i then gB l a T p else fG l a T p)=(rg l.length fun p=>if p<i+1 then gB l a T p else fG l a T p)∧
    (rg l.length fun p=>decide (p<i∧T≤aK l p∧0<fK l a T p))=(rg l.length fun p=>decide (p<i+1∧T≤aK l p∧0<fK l a T p)):=by
   intro hc
   refine⟨fD _ _ _ fun p hp=> ?_,fD _ _ _ fun p hp=> ?_⟩
   ·by_cases e:p=i
    ·subst e;rw[if_neg (by omega:¬ p<p),if_pos (by omega:p<p+1)];unfold gB;rw[if_neg hc]
    ·by_cases e2:p<i
     ·rw[if_pos e2,if_pos (by omega:p<i+1)]
     ·rw[if_neg e2,if_neg (by omega:¬ p<i+1)]
   ·by_cases e:p=i
    ·subst e;rw[decide_eq_false (by omega),decide_eq_false (fun x=>hc x.2)]
    ·by_cases e2:p<i
     ·simp only[e2,show p<i+1 by omega,true_and]
     ·rw[decide_eq_false (by omega),decide_eq_false (by omega)]
  by_cases hr:T≤aK l i
  ·rw[decide_eq_true hr,cond_true]
   by_cases hl:0<fK l a T i
   ·have hB:fG l a T i=gQ l a T i:=by unfold fG;rw[if_neg (by omega)]
    have hS:=sF h hn ha T i hT hi hr
    rw[decide_eq_true (by omega),cond_true,if_pos (by omega),if_pos (by omega),if_pos (by omega),qR,qR,aH _ (by omega),aH _ (by omega),if_pos ⟨hr,hl⟩]
    congr 1
    ·refine fD _ _ _ fun p hp=> ?_
     by_cases e:p=i
     ·subst e;rw[if_pos rfl,if_pos (by omega:p<p+1)];unfold gB;rw[if_pos ⟨hr,hl⟩]
     ·rw[if_neg e]
      by_cases e2:p<i
      ·rw[if_pos e2,if_pos (by omega:p<i+1)]
      ·rw[if_neg e2,if_neg (by omega:¬ p<i+1)]
    ·refine fD _ _ _ fun p hp=> ?_
     by_cases e:p=i
     ·subst e;rw[if_pos rfl,decide_eq_true ⟨by omega,hr,hl⟩]
     ·rw[if_neg e]
      by_cases e2:p<i
      ·simp only[e2,show p<i+1 by omega,true_and]
      ·rw[decide_eq_false (by omega),decide_eq_false (by omega)]
   ·obtain⟨g1,g2⟩:=cg (fun x=>hl x.2)
    rw[decide_eq_false (by omega),cond_false,if_neg (fun x=>hl x.2),g1,g2]
    rfl
  ·obtain⟨g1,g2⟩:=cg (fun x=>hr x.1)
   rw[decide_eq_false hr,cond_false,if_neg (fun x=>hr x.1),g1,g2]
   rfl
 ·simp only[bZ.G5,bZ.R5]
  rw[decide_eq_false (by omega),cond_false]
include ha in
theorem adK(T:Nat)(hT:jh l a T):Au (a,l,())=some (rg l.length (gB l a T),if T=l.length then 0 else aV l a T,if T=l.length then 0 else bM l T,(T:Int),yH l a T,()):=by
 have hTl:=hT.1
 simp only[Au,bZ.FF,bZ.T]
 rw[if_pos (by omega),if_pos (by omega),im0 h hn _ _ _ _ _ _ _ _ _ _ (by omega)]
 simp only[bZ.A0,WJ l h,Option.bind_some]
 rw[Int.toNat_natCast,qH,qH]
 have r0:aV l a 0=a:=by unfold aV;simp[sumTo]
 have a0:bM l 0=sumTo l.length fun p=>(aS l p).2.2.1:=by unfold bM;simp[sumTo]
 have o0:outT l 0=rg l.length fun _=>(0:Int):=fD _ _ _ fun p _=>by rw[if_neg (by omega)]
 have h1:=fun k0 hx1 hx2 k hk=>im1 h hn ha k0 hx1 hx2 0 0 0 (rg l.length fun _=>false) T hT k hk
 rw[r0,a0,o0]at h1
 rw[h1 _ _ _ _ (by omega)]
 have fin:∀ (c1 c2 c3:Int),T≠l.length→∀ left,left=leftA l a T→
   bZ.A3 (bZ.G5 (300+l.length) (bZ.A4 a l) (300+l.length)) a l left l c1 c2 c3 (aV l a T) (bM l T) (T:Int) (jv l T (l.length - T)) (jF l a T (l.length - T)) (rg l.length fun _=>false)=some (rg l.length (gB l a T),aV l a T,bM l T,(T:Int),yH l a T,()):=by
  intro c1 c2 c3 _ left hl
  subst hl
  have e1:jv l T (l.length - T)=rg l.length fun p=>decide (T≤aK l p):=fD _ _ _ fun p hp=>by
   have:=nS hp
   by_cases hr:T≤aK l p
   ·rw[decide_eq_true hr,decide_eq_true (by omega)]
   ·rw[decide_eq_false hr,decide_eq_false (by omega)]
  have e2:jF l a T (l.length - T)=rg l.length (fG l a T):=fD _ _ _ fun p hp=>by
   have:=nS hp
   unfold fG
   by_cases hr:aK l p<T
   ·rw[if_pos hr,if_pos hr]
   ·rw[if_neg hr,if_neg hr,if_pos (by omega)]
  simp only[bZ.A3]
  rw[e1,e2,im5 h hn ha _ _ _ _ _ _ _ _ T hT _ (by omega)]
  rfl
 have full:T=l.length→∀ (c1 c2:Int),some (outT l T,(0:Int),(0:Int),(T:Int),(rg l.length fun _=>false),())=some (rg l.length (gB l a T),if T=l.length then 0 else aV l a T,if T=l.length then 0 else bM l T,(T:Int),yH l a T,()):=by
  intro he _ _
  rw[if_pos he,if_pos he]
  have e1:outT l T=rg l.length (gB l a T):=fD _ _ _ fun p hp=>by
   have hlt:aK l p<T:=by have:=nS hp;omega
   unfold gB
   rw[if_neg (by omega:¬ (T≤aK l p∧0<fK l a T p))]
   unfold fG
   rw[if_pos hlt,if_pos hlt]
  have e2:(rg l.length fun _=>false)=yH l a T:=fD _ _ _ fun p hp=>by
   have hlt:aK l p<T:=by have:=nS hp;omega
   exact(decide_eq_false (by omega)).symm
  rw[e1,e2]
 have pj0:∀ T,(rg l.length fun _=>false)=jv l T 0:=fun T=>fD _ _ _ fun p _=>(decide_eq_false (by omega)).symm
 have oj0:∀ T,outT l T=jF l a T 0:=fun T=>fD _ _ _ fun p _=>by
  by_cases hr:aK l p<T
  ·rw[if_pos hr,if_pos hr]
  ·rw[if_neg hr,if_neg hr,if_neg (by omega)]
 by_cases h0:T=0
 ·subst h0
  rw[if_pos rfl]
  simp only[bZ.A1]
  by_cases he:0=l.length
  ·rw[show(((dw l).length:Int)==0)=true by rw[iW, ←he];rfl,cond_true, ←full he 0 0,o0]
   rfl
  ·rw[show(((dw l).length:Int)==0)=false from beq_eq_false_iff_ne.2 (by rw[iW];omega),cond_false,if_pos (by omega),Int.toNat_natCast,qH,iW]
   rw[if_neg he,if_neg he,r0,a0,pj0 0, ←o0,oj0 0]
   have x:=im3 h hn ha (300+l.length) (bZ.A3 (bZ.G5 (300+l.length) (bZ.A4 a l) (300+l.length)) a l) 0 0 0 0 (jv l 0 0) hT (300+l.length) (by omega)
   rw[r0,a0]at x
   rw[x]
   have y:=fin 0 0 0 he _ (left_eq h hn ha 0 hT)
   rw[r0,a0,pj0 0]at y
   exact y
 ·rw[if_neg h0]
  simp only[bZ.A2]
  by_cases he:T=l.length
  ·rw[show(((l.length - T:Nat):Int)==0)=true by rw[he,Nat.sub_self];rfl,cond_true, ←full he 0 0]
  ·rw[show(((l.length - T:Nat):Int)==0)=false by simp;omega,cond_false,if_pos (by omega),Int.toNat_natCast,qH,if_neg he,if_neg he]
   have y:=fin 0 0 0 he _ (left_eq h hn ha T hT)
   rw[pj0 T]at y ⊢
   rw[oj0 T,im4 h hn ha _ _ _ _ _ _ _ T hT _ (by omega)]
   exact y
end
end Go.Rv
