/- Plain facts: fill_i. -/
import Derived.Test.YtmgahpicfjpjaaaGreatSM24
set_option linter.unusedVariables false
set_option linter.unusedSimpArgs false
set_option linter.unusedSectionVars false
namespace Go.Rv
theorem afb{l:List aP}(hnd:l.Nodup)(hn:l.length≤100)(q:Nat)(hq:q<l.length):Cb (l,(aQ l q).1,(aQ l q).2.1,(aQ l q).2.2.1,())=some ((q:Int),()):=by
 have key:∀ (k0:Nat) (hx0:Int→Option (Int×Unit)) (hx1:Unit→Option (Int×Unit)) (d i k:Nat),i+d=q→d<k→qR.G0 k0 hx0 hx1 k l (l.length:Int) (i:Nat) (aQ l q).1 (aQ l q).2.1 (aQ l q).2.2.1=hx0 (q:Int):=by
  intro k0 hx0 hx1 d
  induction d with
  |zero=>
   intro i k hi hk
   obtain⟨k,rfl⟩:∃ j,k=j+1:=⟨k - 1,by omega⟩
   have:i=q:=by omega
   subst this
   simp only[qR.G0,qR.R0,bP]
   rw[decide_eq_true (by omega),cond_true,if_pos (by omega),show l.getD i (0,0,0,())=aQ l i from rfl]
   simp
  |succ d ih=>
   intro i k hi hk
   obtain⟨k,rfl⟩:∃ j,k=j+1:=⟨k - 1,by omega⟩
   have hil:i<l.length:=by omega
   simp only[qR.G0,qR.R0,bP]
   rw[decide_eq_true (by omega),cond_true,if_pos (by omega),show l.getD i (0,0,0,())=aQ l i from rfl,aH _ (by omega)]
   have hne:aQ l q≠aQ l i:=by
    intro e
    rw[jA hil,jA hq]at e
    have:=(List.getElem_inj hnd).1 e
    omega
   have hf:((aQ l q).1==(aQ l i).1&&((aQ l q).2.1==(aQ l i).2.1&&((aQ l q).2.2.1==(aQ l i).2.2.1&&true)))=false:=by
    rw[←Bool.not_eq_true]
    intro hc
    simp only[Bool.and_eq_true,beq_iff_eq,and_true]at hc
    exact hne (Prod.ext hc.1 (Prod.ext hc.2.1 (Prod.ext hc.2.2 rfl)))
   rw[hf,cond_false]
   exact ih (i+1) k (by omega) (by omega)
 simp only[Cb,qR.FF,qR.T]
 exact key _ _ _ q 0 _ (by omega) (by omega)
section
variable {l:List aP} {a:Int}
variable (h:gZ l) (hn:l.length≤100) (ha:0≤a∧a≤72057594037927936)
include h hn
theorem EF(t:Nat)(ht:t<l.length):∃ q:Nat,q<l.length∧aK l q=t∧aQ l q=oA l t∧uH ((oA l t).1,(oA l t).2.1,(oA l t).2.2.1,l,())=some ((q:Int),()):=by
 obtain⟨q,hq,hr,he⟩:=Fh h ht
 refine⟨q,hq,hr,he, ?_⟩
 have:=afb (Em h) hn q hq
 rw[he]at this
 simp only[uH,TW.T,this,Option.bind_some]
include ha in
theorem EY(t:Nat)(ht:t<l.length)(hs:∀ s,s<t→je l a s):∃ y,zA ((oA l t).1,(oA l t).2.1,(oA l t).2.2.1,aV l a t,bJ l t,())=some (y,())∧(y=true↔je l a t):=by
 obtain⟨h1,h2⟩:=lU h ha t (by omega) hs
 have hw:=oC h t ht
 have hA:=qJ h hn t (by omega)
 have hW:=xB h t ht
 simp only[zA,RQ.T]
 rw[decide_eq_true (by omega),cond_true]
 unfold je
 generalize (oA l t).2.1=w at*
 generalize (oA l t).2.2.1=g at*
 generalize bJ l t=A at*
 generalize aV l a t=r at*
 obtain⟨w,rfl⟩:=Int.eq_ofNat_of_zero_le hW.1
 obtain⟨A,rfl⟩:=Int.eq_ofNat_of_zero_le hA.1
 obtain⟨r,rfl⟩:=Int.eq_ofNat_of_zero_le h1
 obtain⟨g,rfl⟩:=Int.eq_ofNat_of_zero_le (by omega:0≤g)
 rw[Xi w A r g (by omega) (by omega) (by omega) (by omega)]
 refine⟨_,rfl, ?_⟩
 rw[decide_eq_true_iff,Int.natCast_mul,Int.natCast_mul]
 unfold sg
 generalize (w:Int)*(A:Int)=x
 generalize (r:Int)*(g:Int)=y
 split
 ·omega
 ·split <;>omega
abbrev outT(l:List aP)(t:Nat):List (Int×Unit):=rg l.length fun p=>if aK l p<t then(aQ l p).2.1 else 0
theorem WC(t q:Nat)(hq:q<l.length)(hr:aK l q=t)(he:aQ l q=oA l t):(outT l t).set q ((oA l t).2.1,())=outT l (t+1):=by
 rw[qF]
 refine eX _ _ _ fun p hp=> ?_
 by_cases e:p=q
 ·subst e;rw[if_pos rfl,if_pos (by omega),he]
 ·have:aK l p≠t:=fun hc=>e (rO h hp hq (by omega))
  rw[if_neg e]
  by_cases hr:aK l p<t
  ·rw[if_pos hr,if_pos (by omega)]
  ·rw[if_neg hr,if_neg (by omega)]
abbrev RF:=Option (List (Int×Unit)×Int×Int×Int×List (Bool×Unit)×Unit)
include ha in
theorem im2(k0:Nat)(hx1:List aP→Int→Int→Int→Int→Int→Int→List aP→List (Int×Unit)→List (Bool×Unit)→RF)(hx2:Nat→Nat→List aP→Int→Int→Int→Int→Int→Int→List aP→List (Int×Unit)→List (Bool×Unit)→RF)
  (c1 c2 c3:Int) (o5:List (Bool×Unit)) (T:Nat) (hT:iV l a T):
  ∀ d t k,t+d=T→d<k→bY.G2 k0 hx1 hx2 k t (l.length - t) l c1 c2 c3 (aV l a t) (bJ l t) (t:Nat) (dh l) (outT l t) o5=hx2 T (l.length - T) l c1 c2 c3 (aV l a T) (bJ l T) (T:Nat) (dh l) (outT l T) o5:=by
 intro d
 induction d with
 |zero=>
  intro t k ht hk
  obtain⟨k,rfl⟩:∃ j,k=j+1:=⟨k - 1,by omega⟩
  have:t=T:=by omega
  subst this
  simp only[bY.G2,bY.R2]
  by_cases he:t=l.length
  ·rw[decide_eq_false (by omega),cond_false]
  ·have htl:t<l.length:=by have:=hT.1;omega
   obtain⟨y,hy,hyf⟩:=EY h hn ha t htl hT.2.1
   have hnf:¬ je l a t:=by rcases hT.2.2 with h1 |h1;exact absurd h1 he;exact h1
   rw[decide_eq_true (by omega),cond_true,if_pos (by rw[iI];omega),if_pos (by omega),Int.toNat_zero,Nat.add_zero,show(dh l).getD t (0,0,0,())=oA l t from rfl,hy]
   have:y=false:=by cases y;rfl;exact absurd (hyf.1 rfl) hnf
   subst this
   rfl
 |succ d ih=>
  intro t k ht hk
  obtain⟨k,rfl⟩:∃ j,k=j+1:=⟨k - 1,by omega⟩
  have htl:t<l.length:=by have:=hT.1;omega
  have hs:∀ s,s<t→je l a s:=fun s hs=>hT.2.1 s (by omega)
  obtain⟨y,hy,hyf⟩:=EY h hn ha t htl hs
  obtain⟨q,hq,hr,he,hp⟩:=EF h hn t htl
  obtain⟨h1,h2⟩:=lU h ha t (by omega) hs
  have hw:=oC h t htl
  have hA:=qJ h hn t (by omega)
  have hW:=xB h t htl
  have:=hyf.2 (hT.2.1 t (by omega))
  subst this
  simp only[bY.G2,bY.R2]
  have c1':t+(l.length - t)≤(dh l).length:=by rw[iI];omega
  rw[decide_eq_true (by omega),cond_true,if_pos c1',if_pos (by omega),Int.toNat_zero,Nat.add_zero,show(dh l).getD t (0,0,0,())=oA l t from rfl,hy]
  simp only[Option.bind_some,cond_true]
  rw[if_pos c1',if_pos (by omega),hp]
  simp only[Option.bind_some,iU,Int.toNat_natCast]
  have e1:af (aV l a t - (oA l t).2.1)=aV l a (t+1):=by
   rw[aH _ (by omega)];unfold aV;simp only[sumTo];omega
  have e2:af (bJ l t - (oA l t).2.2.1)=bJ l (t+1):=by
   rw[aH _ (by omega)];unfold bJ;simp only[sumTo];omega
  have e3:af ((t:Int)+1)=((t+1:Nat):Int):=aH _ (by omega)
  rw[if_pos (by omega),if_pos c1',if_pos (by omega),e1,e2,e3,WC h hn t q hq hr he,Int.toNat_one,show l.length - t - 1=l.length - (t+1) by omega]
  exact ih (t+1) k (by omega) (by omega)
include ha in
theorem im1(k0:Nat)(hx1:List aP→Int→Int→Int→Int→Int→Int→List aP→List (Int×Unit)→List (Bool×Unit)→RF)(hx2:Nat→Nat→List aP→Int→Int→Int→Int→Int→Int→List aP→List (Int×Unit)→List (Bool×Unit)→RF)
  (c1 c2 c3:Int) (o5:List (Bool×Unit)) (T:Nat) (hT:iV l a T) (k:Nat) (hk:T<k):
  bY.G1 k0 hx1 hx2 k l c1 c2 c3 (aV l a 0) (bJ l 0) 0 (dh l) (outT l 0) o5=if T=0 then hx1 l c1 c2 c3 (aV l a 0) (bJ l 0) 0 (dh l) (outT l 0) o5 else hx2 T (l.length - T) l c1 c2 c3 (aV l a T) (bJ l T) (T:Nat) (dh l) (outT l T) o5:=by
 obtain⟨k,rfl⟩:∃ j,k=j+1:=⟨k - 1,by omega⟩
 simp only[bY.G1,bY.R1]
 by_cases h0:T=0
 ·subst h0
  rw[if_pos rfl]
  by_cases he:l.length=0
  ·rw[decide_eq_false (by rw[iI];omega),cond_false]
  ·obtain⟨y,hy,hyf⟩:=EY h hn ha 0 (by omega) hT.2.1
   have hnf:¬ je l a 0:=by rcases hT.2.2 with h1 |h1;exact absurd h1.symm he;exact h1
   rw[decide_eq_true (by rw[iI];omega),cond_true,if_pos (by rw[iI];omega),Int.toNat_zero,show(dh l).getD 0 (0,0,0,())=oA l 0 from rfl,hy]
   have:y=false:=by cases y;rfl;exact absurd (hyf.1 rfl) hnf
   subst this
   rfl
 ·rw[if_neg h0]
  have htl:0<l.length:=by have:=hT.1;omega
  have hs:∀ s,s<0→je l a s:=fun s hs=>by omega
  obtain⟨y,hy,hyf⟩:=EY h hn ha 0 htl hs
  obtain⟨q,hq,hr,he,hp⟩:=EF h hn 0 htl
  obtain⟨h1,h2⟩:=lU h ha 0 (by omega) hs
  have hw:=oC h 0 htl
  have hA:=qJ h hn 0 (by omega)
  have hW:=xB h 0 htl
  have:=hyf.2 (hT.2.1 0 (by omega))
  subst this
  have c1':(0:Int)≤0∧0<((dh l).length:Int):=by rw[iI];omega
  rw[decide_eq_true (by rw[iI];omega),cond_true,if_pos c1',Int.toNat_zero,show(dh l).getD 0 (0,0,0,())=oA l 0 from rfl,hy]
  simp only[Option.bind_some,cond_true]
  rw[if_pos c1',hp]
  simp only[Option.bind_some,iU,Int.toNat_natCast]
  have e1:af (aV l a 0 - (oA l 0).2.1)=aV l a 1:=by
   rw[aH _ (by omega)];unfold aV;simp[sumTo]
  have e2:af (bJ l 0 - (oA l 0).2.2.1)=bJ l 1:=by
   rw[aH _ (by omega)];unfold bJ;simp only[sumTo];omega
  have e3:af ((0:Int)+1)=((1:Nat):Int):=aH _ (by omega)
  rw[if_pos (by omega),if_pos (by rw[iI];omega),e1,e2,e3,WC h hn 0 q hq hr he,Int.toNat_one,iI]
  exact im2 h hn ha k0 hx1 hx2 c1 c2 c3 o5 T hT (T - 1) 1 k (by omega) (by omega)
theorem im0(k0:Nat)(hx:List aP→Int→Int→Int→Int→Int→Int→List (Int×Unit)→List (Bool×Unit)→RF)(c1 c2 c3 out out3:Int)(o3:List (Int×Unit))(o4:List (Bool×Unit))(k:Nat)(hk:l.length<k):
  bY.G0 k0 hx k l (l.length:Int) 0 l c1 c2 c3 out 0 out3 o3 o4=hx l c1 c2 c3 out (sumTo l.length fun p=>(aQ l p).2.2.1) out3 o3 o4:=by
 refine run 0 l.length (fun k i=>bY.G0 k0 hx k l (l.length:Int) (i:Nat) l c1 c2 c3 out (sumTo i fun p=>(aQ l p).2.2.1) out3 o3 o4) _ (fun k i _ hi=> ?_) (fun k=> ?_) k (by omega) (by omega)
 ·have hb:=lT 1073741824 (fun p=>(aQ l p).2.2.1) i fun q hq=>by have:=qK h q (by omega);omega
  have hw:=qK h i hi
  show bY.G0 k0 hx (k+1) l _ (i:Nat) l c1 c2 c3 out (sumTo i fun p=>(aQ l p).2.2.1) out3 o3 o4=bY.G0 k0 hx k l _ ((i+1:Nat):Int) l c1 c2 c3 out (sumTo (i+1) fun p=>(aQ l p).2.2.1) out3 o3 o4
  simp only[bY.G0,bY.R0,bP]
  rw[decide_eq_true (by omega),cond_true,if_pos (by omega),show l.getD i (0,0,0,())=aQ l i from rfl,aH ((i:Int)+1) (by omega),aH _ (by omega)]
  rfl
 ·simp only[bY.G0,bY.R0]
  rw[decide_eq_false (by omega),cond_false]
def dZ(l:List aP)(a:Int)(T j:Nat):Int:=aV l a T*(oA l (T+j)).2.2.1 / bJ l T
include ha in
theorem OW(T j:Nat)(hT:iV l a T)(hj:T+j<l.length):wP (aV l a T,(oA l (T+j)).2.2.1,bJ l T,())=some (dZ l a T j,())∧0≤dZ l a T j∧dZ l a T j≤a:=by
 obtain⟨q,hq,hr,he⟩:=Fh h hj
 obtain⟨h1,h2⟩:=lU h ha T hT.1 hT.2.1
 have hw:=qK h q hq
 have hA:=qJ h hn T hT.1
 have hA2:=Ey h T q hq (by omega)
 have hS:=rM h hn ha T q hT hq (by omega)
 unfold dZ
 unfold fZ at hS
 rw[←show aQ l q=oA l (T+j)from he]
 generalize (aQ l q).2.2.1=g at*
 generalize bJ l T=A at*
 generalize aV l a T=r at*
 obtain⟨A,rfl⟩:=Int.eq_ofNat_of_zero_le hA.1
 obtain⟨r,rfl⟩:=Int.eq_ofNat_of_zero_le h1
 obtain⟨g,rfl⟩:=Int.eq_ofNat_of_zero_le (by omega:0≤g)
 rw[←Int.natCast_mul, ←Int.natCast_ediv]at hS ⊢
 refine⟨aft r g A (by omega) (by omega) (by omega) (by omega) ?_,hS⟩
 generalize r*g / A=Q at*
 omega
theorem OL(T q j:Nat)(hq:q<l.length)(hr:aK l q=T+j):fZ l a T q=dZ l a T j:=by
 unfold fZ dZ
 rw[←ve hq,hr]
include ha in
theorem left_eq(T:Nat)(hT:iV l a T):aV l a T - sumTo (l.length - T) (dZ l a T)=leftA l a T:=by
 unfold leftA
 have e:=ad7 l h (fun t=>if t<T then 0 else aV l a T*(oA l t).2.2.1 / bJ l T)
 have e1:(sumTo l.length fun p=>if aK l p<T then 0 else fZ l a T p)=sumTo l.length fun p=>(fun t=>if t<T then 0 else aV l a T*(oA l t).2.2.1 / bJ l T) (aK l p):=by
  refine sumTo_congr _ _ _ fun p hp=> ?_
  by_cases hr:aK l p<T
  ·simp only[if_pos hr]
  ·simp only[if_neg hr]
   unfold fZ
   rw[show oA l (aK l p)=aQ l p from ve hp]
 rw[e1,e]
 have hs:=wQ (fun t=>if t<T then 0 else aV l a T*(oA l t).2.2.1 / bJ l T) T (l.length - T)
 rw[show T+(l.length - T)=l.length by have:=hT.1;omega]at hs
 rw[hs,MH _ T fun q hq=>by simp only[if_pos hq]]
 have:sumTo (l.length - T) (fun i=>if T+i<T then 0 else aV l a T*(oA l (T+i)).2.2.1 / bJ l T)=sumTo (l.length - T) (dZ l a T):=by
  refine sumTo_congr _ _ _ fun i hi=> ?_
  rw[if_neg (by omega)];rfl
 rw[this]
 omega
abbrev jo(l:List aP)(a:Int)(T j:Nat):List (Int×Unit):=rg l.length fun p=>if aK l p<T then(aQ l p).2.1 else if aK l p<T+j then fZ l a T p else 0
abbrev jd(l:List aP)(T j:Nat):List (Bool×Unit):=rg l.length fun p=>decide (T≤aK l p∧aK l p<T+j)
theorem VA(T j q:Nat)(hq:q<l.length)(hr:aK l q=T+j):(jo l a T j).set q (dZ l a T j,())=jo l a T (j+1):=by
 rw[qF]
 refine eX _ _ _ fun p hp=> ?_
 by_cases e:p=q
 ·subst e;rw[if_pos rfl,if_neg (by omega),if_pos (by omega),OL h hn T p j hq hr]
 ·have:aK l p≠T+j:=fun hc=>e (rO h hp hq (by omega))
  rw[if_neg e]
  by_cases h1:aK l p<T
  ·rw[if_pos h1,if_pos h1]
  ·rw[if_neg h1,if_neg h1]
   by_cases h2:aK l p<T+j
   ·rw[if_pos h2,if_pos (by omega)]
   ·rw[if_neg h2,if_neg (by omega)]
theorem UQ(T j q:Nat)(hq:q<l.length)(hr:aK l q=T+j):(jd l T j).set q (true,())=jd l T (j+1):=by
 rw[qF]
 refine eX _ _ _ fun p hp=> ?_
 by_cases e:p=q
 ·subst e;rw[if_pos rfl,decide_eq_true (by omega)]
 ·have:aK l p≠T+j:=fun hc=>e (rO h hp hq (by omega))
  rw[if_neg e]
  by_cases h2:T≤aK l p∧aK l p<T+j
  ·rw[decide_eq_true h2,decide_eq_true (by omega)]
  ·rw[decide_eq_false h2,decide_eq_false (by omega)]
include ha in
theorem Vr(T i:Nat)(hT:iV l a T)(hi:T+i≤l.length):0≤sumTo i (dZ l a T)∧sumTo i (dZ l a T)≤7205759403792793600:=by
 have hb:=lT 72057594037927936 (dZ l a T) i fun q hq=>by have:=(OW h hn ha T q hT (by omega)).2;omega
 omega
include ha in
theorem im4(k0:Nat)(hx:Int→List aP→Int→Int→Int→Int→Int→Int→List (Bool×Unit)→List (Int×Unit)→List (Bool×Unit)→RF)(c1 c2 c3 out3:Int)(o6:List (Bool×Unit))(T:Nat)(hT:iV l a T)(k:Nat)(hk:l.length<k):
  bY.G4 k0 hx k (aV l a T) T (l.length - T) ((l.length - T:Nat):Int) 0 l c1 c2 c3 (aV l a T) (bJ l T) out3 (jd l T 0) (dh l) (jo l a T 0) o6=
   hx (aV l a T - sumTo (l.length - T) (dZ l a T)) l c1 c2 c3 (aV l a T) (bJ l T) out3 (jd l T (l.length - T)) (jo l a T (l.length - T)) o6:=by
 have hTl:=hT.1
 obtain⟨b1,b2⟩:=lU h ha T hT.1 hT.2.1
 suffices x:bY.G4 k0 hx k (aV l a T - sumTo 0 (dZ l a T)) T (l.length - T) ((l.length - T:Nat):Int) ((0:Nat):Int) l c1 c2 c3 (aV l a T) (bJ l T) out3 (jd l T 0) (dh l) (jo l a T 0) o6=
   hx (aV l a T - sumTo (l.length - T) (dZ l a T)) l c1 c2 c3 (aV l a T) (bJ l T) out3 (jd l T (l.length - T)) (jo l a T (l.length - T)) o6 by
  rw[show aV l a T - sumTo 0 (dZ l a T)=aV l a T by simp[sumTo]]at x
  exact x
 refine run 0 (l.length - T) (fun k i=>bY.G4 k0 hx k (aV l a T - sumTo i (dZ l a T)) T (l.length - T) ((l.length - T:Nat):Int) (i:Nat) l c1 c2 c3 (aV l a T) (bJ l T) out3 (jd l T i) (dh l) (jo l a T i) o6) _ (fun k i _ hi=> ?_) (fun k=> ?_) k (by omega) (by omega)
 ·show bY.G4 k0 hx (k+1) (aV l a T - sumTo i (dZ l a T)) T _ _ (i:Nat) l c1 c2 c3 _ _ out3 (jd l T i) _ (jo l a T i) o6=bY.G4 k0 hx k (aV l a T - sumTo (i+1) (dZ l a T)) T _ _ ((i+1:Nat):Int) l c1 c2 c3 _ _ out3 (jd l T (i+1)) _ (jo l a T (i+1)) o6
  obtain⟨q,hq,hr,he,hp⟩:=EF h hn (T+i) (by omega)
  obtain⟨hs,s1,s2⟩:=OW h hn ha T i hT (by omega)
  have hb:=Vr h hn ha T i hT (by omega)
  simp only[bY.G4,bY.R4,Int.toNat_natCast]
  rw[decide_eq_true (by omega),cond_true,if_pos (by rw[iI];omega),if_pos (by omega),show(dh l).getD (T+i) (0,0,0,())=oA l (T+i)from rfl,hp]
  simp only[Option.bind_some]
  rw[hs]
  simp only[Option.bind_some,Int.toNat_natCast]
  rw[VA h hn T i q hq hr,UQ h hn T i q hq hr]
  simp only[iU]
  rw[if_pos (by omega),if_pos (by omega),if_pos (by omega),lV _ _ _ _ hq,if_neg (by omega:¬ aK l q<T),if_pos (by omega:aK l q<T+(i+1)),OL h hn T q i hq hr,aH ((i:Int)+1) (by omega),aH _ (by omega)]
  simp only[sumTo]
  rw[show aV l a T - sumTo i (dZ l a T) - dZ l a T i=aV l a T - (sumTo i (dZ l a T)+dZ l a T i) by omega]
  rfl
 ·simp only[bY.G4,bY.R4]
  rw[decide_eq_false (by omega),cond_false]
include ha in
theorem im3(k0:Nat)(hx:Int→List aP→Int→Int→Int→Int→Int→Int→List (Bool×Unit)→List (Int×Unit)→List (Bool×Unit)→RF)(c1 c2 c3 out3:Int)(o6:List (Bool×Unit))(hT:iV l a 0)(k:Nat)(hk:l.length<k):
  bY.G3 k0 hx k (aV l a 0) (l.length:Int) 0 l c1 c2 c3 (aV l a 0) (bJ l 0) out3 (jd l 0 0) (dh l) (jo l a 0 0) o6=
   hx (aV l a 0 - sumTo (l.length - 0) (dZ l a 0)) l c1 c2 c3 (aV l a 0) (bJ l 0) out3 (jd l 0 (l.length - 0)) (jo l a 0 (l.length - 0)) o6:=by
 obtain⟨b1,b2⟩:=lU h ha 0 hT.1 hT.2.1
 rw[Nat.sub_zero]
 suffices x:bY.G3 k0 hx k (aV l a 0 - sumTo 0 (dZ l a 0)) (l.length:Int) ((0:Nat):Int) l c1 c2 c3 (aV l a 0) (bJ l 0) out3 (jd l 0 0) (dh l) (jo l a 0 0) o6=
   hx (aV l a 0 - sumTo l.length (dZ l a 0)) l c1 c2 c3 (aV l a 0) (bJ l 0) out3 (jd l 0 l.length) (jo l a 0 l.length) o6 by
  rw[show aV l a 0 - sumTo 0 (dZ l a 0)=aV l a 0 by simp[sumTo]]at x
  exact x
 refine run 0 l.length (fun k i=>bY.G3 k0 hx k (aV l a 0 - sumTo i (dZ l a 0)) (l.length:Int) (i:Nat) l c1 c2 c3 (aV l a 0) (bJ l 0) out3 (jd l 0 i) (dh l) (jo l a 0 i) o6) _ (fun k i _ hi=> ?_) (fun k=> ?_) k (by omega) (by omega)
 ·show bY.G3 k0 hx (k+1) (aV l a 0 - sumTo i (dZ l a 0)) _ (i:Nat) l c1 c2 c3 _ _ out3 (jd l 0 i) _ (jo l a 0 i) o6=bY.G3 k0 hx k (aV l a 0 - sumTo (i+1) (dZ l a 0)) _ ((i+1:Nat):Int) l c1 c2 c3 _ _ out3 (jd l 0 (i+1)) _ (jo l a 0 (i+1)) o6
  obtain⟨q,hq,hr,he,hp⟩:=EF h hn (0+i) (by omega)
  obtain⟨hs,s1,s2⟩:=OW h hn ha 0 i hT (by omega)
  have hb:=Vr h hn ha 0 i hT (by omega)
  simp only[bY.G3,bY.R3,Int.toNat_natCast]
  rw[decide_eq_true (by omega),cond_true,if_pos (by rw[iI];omega),show(dh l).getD i (0,0,0,())=oA l (0+i) by rw[Nat.zero_add],hp]
  simp only[Option.bind_some]
  rw[hs]
  simp only[Option.bind_some,Int.toNat_natCast]
  rw[VA h hn 0 i q hq hr,UQ h hn 0 i q hq hr]
  simp only[iU]
  rw[if_pos (by omega),if_pos (by omega),if_pos (by omega),lV _ _ _ _ hq,if_neg (by omega:¬ aK l q<0),if_pos (by omega:aK l q<0+(i+1)),OL h hn 0 q i hq hr,aH ((i:Int)+1) (by omega),aH _ (by omega)]
  simp only[sumTo]
  rw[show aV l a 0 - sumTo i (dZ l a 0) - dZ l a 0 i=aV l a 0 - (sumTo i (dZ l a 0)+dZ l a 0 i) by omega]
  rfl
 ·simp only[bY.G3,bY.R3]
  rw[decide_eq_false (by omega),cond_false]
abbrev yc(l:List aP)(a:Int)(T:Nat):List (Bool×Unit):=rg l.length fun p=>decide (T≤aK l p∧0<fE l a T p)
include ha in
theorem im5(k0:Nat)(hx:Int→Int→Int→Int→Int→Int→List (Int×Unit)→List (Bool×Unit)→RF)(c1 c2 c3 out out2 out3:Int)(T:Nat)(hT:iV l a T)(k:Nat)(hk:l.length<k):
  bY.G5 k0 hx k (leftA l a T) (l.length:Int) 0 c1 c2 c3 out out2 out3 (rg l.length fun p=>decide (T≤aK l p)) (rg l.length (fB l a T)) (rg l.length fun _=>false)=hx c1 c2 c3 out out2 out3 (rg l.length (fO l a T)) (yc l a T):=by
 have e0:rg l.length (fB l a T)=rg l.length fun p=>if p<0 then fO l a T p else fB l a T p:=eX _ _ _ fun p _=>(if_neg (by omega:¬ p<0)).symm
 have e1:rg l.length (fO l a T)=rg l.length fun p=>if p<l.length then fO l a T p else fB l a T p:=eX _ _ _ fun p hp=>(if_pos hp).symm
 have e2:(rg l.length fun _=>false)=rg l.length fun p=>decide (p<0∧T≤aK l p∧0<fE l a T p):=eX _ _ _ fun p _=>(decide_eq_false (by omega)).symm
 have e3:yc l a T=rg l.length fun p=>decide (p<l.length∧T≤aK l p∧0<fE l a T p):=eX _ _ _ fun p hp=>by
  by_cases hc:T≤aK l p∧0<fE l a T p
  ·rw[decide_eq_true hc,decide_eq_true ⟨hp,hc⟩]
  ·rw[decide_eq_false hc,decide_eq_false (fun x=>hc x.2)]
 rw[e0,e1,e2,e3]
 refine run 0 l.length (fun k i=>bY.G5 k0 hx k (fE l a T i) (l.length:Int) (i:Nat) c1 c2 c3 out out2 out3 (rg l.length fun p=>decide (T≤aK l p)) (rg l.length fun p=>if p<i then fO l a T p else fB l a T p) (rg l.length fun p=>decide (p<i∧T≤aK l p∧0<fE l a T p))) _ (fun k i _ hi=> ?_) (fun k=> ?_) k (by omega) (by omega)
 ·show bY.G5 k0 hx (k+1) (fE l a T i) _ (i:Nat) c1 c2 c3 out out2 out3 _ _ _=bY.G5 k0 hx k (fE l a T (i+1)) _ ((i+1:Nat):Int) c1 c2 c3 out out2 out3 _ _ _
  have hb:=O5 h hn ha T hT i
  simp only[bY.G5,bY.R5,iU,Int.toNat_natCast,fE]
  rw[decide_eq_true (by omega),cond_true,if_pos (by omega),lV _ _ _ _ hi,lV _ _ _ _ hi,aH ((i:Int)+1) (by omega),if_neg (by omega:¬ i<i)]
  have cg:∀ (hc:¬ (T≤aK l i∧0<fE l a T i)),(rg l.length fun p=>if p<i then fO l a T p else fB l a T p)=(rg l.length fun p=>if p<i+1 then fO l a T p else fB l a T p)∧
    (rg l.length fun p=>decide (p<i∧T≤aK l p∧0<fE l a T p))=(rg l.length fun p=>decide (p<i+1∧T≤aK l p∧0<fE l a T p)):=by
   intro hc
   refine⟨eX _ _ _ fun p hp=> ?_,eX _ _ _ fun p hp=> ?_⟩
   ·by_cases e:p=i
    ·subst e;rw[if_neg (by omega:¬ p<p),if_pos (by omega:p<p+1)];unfold fO;rw[if_neg hc]
    ·by_cases e2:p<i
     ·rw[if_pos e2,if_pos (by omega:p<i+1)]
     ·rw[if_neg e2,if_neg (by omega:¬ p<i+1)]
   ·by_cases e:p=i
    ·subst e;rw[decide_eq_false (by omega),decide_eq_false (fun x=>hc x.2)]
    ·by_cases e2:p<i
     ·simp only[e2,show p<i+1 by omega,true_and]
     ·rw[decide_eq_false (by omega),decide_eq_false (by omega)]
  by_cases hr:T≤aK l i
  ·rw[decide_eq_true hr,cond_true]
   by_cases hl:0<fE l a T i
   ·have hB:fB l a T i=fZ l a T i:=by unfold fB;rw[if_neg (by omega)]
    have hS:=rM h hn ha T i hT hi hr
    rw[decide_eq_true (by omega),cond_true,if_pos (by omega),if_pos (by omega),if_pos (by omega),qF,qF,aH _ (by omega),aH _ (by omega),if_pos ⟨hr,hl⟩]
    congr 1
    ·refine eX _ _ _ fun p hp=> ?_
     by_cases e:p=i
     ·subst e;rw[if_pos rfl,if_pos (by omega:p<p+1)];unfold fO;rw[if_pos ⟨hr,hl⟩]
     ·rw[if_neg e]
      by_cases e2:p<i
      ·rw[if_pos e2,if_pos (by omega:p<i+1)]
      ·rw[if_neg e2,if_neg (by omega:¬ p<i+1)]
    ·refine eX _ _ _ fun p hp=> ?_
     by_cases e:p=i
     ·subst e;rw[if_pos rfl,decide_eq_true ⟨by omega,hr,hl⟩]
     ·rw[if_neg e]
      by_cases e2:p<i
      ·simp only[e2,show p<i+1 by omega,true_and]
      ·rw[decide_eq_false (by omega),decide_eq_false (by omega)]
   ·obtain⟨g1,g2⟩:=cg (fun x=>hl x.2)
    rw[decide_eq_false (by omega),cond_false,if_neg (fun x=>hl x.2),g1,g2]
    rfl
  ·obtain⟨g1,g2⟩:=cg (fun x=>hr x.1)
   rw[decide_eq_false hr,cond_false,if_neg (fun x=>hr x.1),g1,g2]
   rfl
 ·simp only[bY.G5,bY.R5]
  rw[decide_eq_false (by omega),cond_false]
include ha in
theorem aer(T:Nat)(hT:iV l a T):Aa (a,l,())=some (rg l.length (fO l a T),if T=l.length then 0 else aV l a T,if T=l.length then 0 else bJ l T,(T:Int),yc l a T,()):=by
 have hTl:=hT.1
 simp only[Aa,bY.FF,bY.T]
 rw[if_pos (by omega),if_pos (by omega),im0 h hn _ _ _ _ _ _ _ _ _ _ (by omega)]
 simp only[bY.A0,V6 l h,Option.bind_some]
 rw[Int.toNat_natCast,qj,qj]
 have r0:aV l a 0=a:=by unfold aV;simp[sumTo]
 have a0:bJ l 0=sumTo l.length fun p=>(aQ l p).2.2.1:=by unfold bJ;simp[sumTo]
 have o0:outT l 0=rg l.length fun _=>(0:Int):=eX _ _ _ fun p _=>by rw[if_neg (by omega)]
 have h1:=fun k0 hx1 hx2 k hk=>im1 h hn ha k0 hx1 hx2 0 0 0 (rg l.length fun _=>false) T hT k hk
 rw[r0,a0,o0]at h1
 rw[h1 _ _ _ _ (by omega)]
 have fin:∀ (c1 c2 c3:Int),T≠l.length→∀ left,left=leftA l a T→
   bY.A3 (bY.G5 (300+l.length) (bY.A4 a l) (300+l.length)) a l left l c1 c2 c3 (aV l a T) (bJ l T) (T:Int) (jd l T (l.length - T)) (jo l a T (l.length - T)) (rg l.length fun _=>false)=some (rg l.length (fO l a T),aV l a T,bJ l T,(T:Int),yc l a T,()):=by
  intro c1 c2 c3 _ left hl
  subst hl
  have e1:jd l T (l.length - T)=rg l.length fun p=>decide (T≤aK l p):=eX _ _ _ fun p hp=>by
   have:=nJ hp
   by_cases hr:T≤aK l p
   ·rw[decide_eq_true hr,decide_eq_true (by omega)]
   ·rw[decide_eq_false hr,decide_eq_false (by omega)]
  have e2:jo l a T (l.length - T)=rg l.length (fB l a T):=eX _ _ _ fun p hp=>by
   have:=nJ hp
   unfold fB
   by_cases hr:aK l p<T
   ·rw[if_pos hr,if_pos hr]
   ·rw[if_neg hr,if_neg hr,if_pos (by omega)]
  simp only[bY.A3]
  rw[e1,e2,im5 h hn ha _ _ _ _ _ _ _ _ T hT _ (by omega)]
  rfl
 have full:T=l.length→∀ (c1 c2:Int),some (outT l T,(0:Int),(0:Int),(T:Int),(rg l.length fun _=>false),())=some (rg l.length (fO l a T),if T=l.length then 0 else aV l a T,if T=l.length then 0 else bJ l T,(T:Int),yc l a T,()):=by
  intro he _ _
  rw[if_pos he,if_pos he]
  have e1:outT l T=rg l.length (fO l a T):=eX _ _ _ fun p hp=>by
   have hlt:aK l p<T:=by have:=nJ hp;omega
   unfold fO
   rw[if_neg (by omega:¬ (T≤aK l p∧0<fE l a T p))]
   unfold fB
   rw[if_pos hlt,if_pos hlt]
  have e2:(rg l.length fun _=>false)=yc l a T:=eX _ _ _ fun p hp=>by
   have hlt:aK l p<T:=by have:=nJ hp;omega
   exact(decide_eq_false (by omega)).symm
  rw[e1,e2]
 have pj0:∀ T,(rg l.length fun _=>false)=jd l T 0:=fun T=>eX _ _ _ fun p _=>(decide_eq_false (by omega)).symm
 have oj0:∀ T,outT l T=jo l a T 0:=fun T=>eX _ _ _ fun p _=>by
  by_cases hr:aK l p<T
  ·rw[if_pos hr,if_pos hr]
  ·rw[if_neg hr,if_neg hr,if_neg (by omega)]
 by_cases h0:T=0
 ·subst h0
  rw[if_pos rfl]
  simp only[bY.A1]
  by_cases he:0=l.length
  ·rw[show(((dh l).length:Int)==0)=true by rw[iI, ←he];rfl,cond_true, ←full he 0 0,o0]
   rfl
  ·rw[show(((dh l).length:Int)==0)=false from beq_eq_false_iff_ne.2 (by rw[iI];omega),cond_false,if_pos (by omega),Int.toNat_natCast,qj,iI]
   rw[if_neg he,if_neg he,r0,a0,pj0 0, ←o0,oj0 0]
   have x:=im3 h hn ha (300+l.length) (bY.A3 (bY.G5 (300+l.length) (bY.A4 a l) (300+l.length)) a l) 0 0 0 0 (jd l 0 0) hT (300+l.length) (by omega)
   rw[r0,a0]at x
   rw[x]
   have y:=fin 0 0 0 he _ (left_eq h hn ha 0 hT)
   rw[r0,a0,pj0 0]at y
   exact y
 ·rw[if_neg h0]
  simp only[bY.A2]
  by_cases he:T=l.length
  ·rw[show(((l.length - T:Nat):Int)==0)=true by rw[he,Nat.sub_self];rfl,cond_true, ←full he 0 0]
  ·rw[show(((l.length - T:Nat):Int)==0)=false by simp;omega,cond_false,if_pos (by omega),Int.toNat_natCast,qj,if_neg he,if_neg he]
   have y:=fin 0 0 0 he _ (left_eq h hn ha T hT)
   rw[pj0 T]at y ⊢
   rw[oj0 T,im4 h hn ha _ _ _ _ _ _ _ T hT _ (by omega)]
   exact y
end
end Go.Rv
