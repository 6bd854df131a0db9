/- Plain facts: fill0. -/
import Derived.Test.YtjknhphmhfbghaaGreatFM22
set_option linter.unusedVariables false
set_option linter.unusedSimpArgs false
set_option linter.unusedSectionVars false
namespace Go.Rv
abbrev aS(l:List aP)(p:Nat):aP:=l.getD p (0,0,0,())
def aN(l:List aP)(p:Nat):Nat:=(dh l).idxOf (aS l p)
theorem rW{l:List aP}{p:Nat}(hp:p<l.length):aS l p∈l:=by
 simp only[aS,List.getD_eq_getElem?_getD,List.getElem?_eq_getElem hp,Option.getD_some];exact List.getElem_mem hp
theorem jO{l:List aP}{p:Nat}(hp:p<l.length):aS l p=l[p]:=by
 simp[aS,List.getD_eq_getElem?_getD,hp]
theorem Eg{l:List aP}(h:iK l):l.Nodup:=by
 rw[List.nodup_iff_pairwise_ne]
 exact h.2.1.imp fun hab e=>hab (by rw[e])
theorem xK(l:List aP):(dh l).Perm l:=List.mergeSort_perm _ _
theorem iW(l:List aP):(dh l).length=l.length:=(xK l).length_eq
theorem Uw{l:List aP}(h:iK l):(dh l).Nodup:=(xK l).nodup_iff.2 (Eg h)
theorem Nb{l:List aP}(h:iK l)(t:Nat)(ht:t<l.length):kM (aS (dh l) t):=
 h.1 _ ((xK l).mem_iff.1 (rW (by rw[iW];exact ht)))
theorem nP{l:List aP}{p:Nat}(hp:p<l.length):aN l p<l.length:=by
 rw[←iW];exact List.idxOf_lt_length_iff.2 ((xK l).mem_iff.2 (rW hp))
theorem vK{l:List aP}{p:Nat}(hp:p<l.length):aS (dh l) (aN l p)=aS l p:=by
 have h:=nP hp
 rw[←iW]at h
 rw[jO h]
 exact List.getElem_idxOf h
theorem sH{l:List aP}(h:iK l){p q:Nat}(hp:p<l.length)(hq:q<l.length)(e:aN l p=aN l q):p=q:=by
 have:=(vK hp).symm.trans ((congrArg (aS (dh l)) e).trans (vK hq))
 rw[jO hp,jO hq]at this
 exact(List.getElem_inj (Eg h)).1 this
theorem Fe{l:List aP}(h:iK l){t:Nat}(ht:t<l.length):∃ p,p<l.length∧aN l p=t∧aS l p=aS (dh l) t:=by
 have hts:t<(dh l).length:=by rw[iW];exact ht
 have hm:aS (dh l) t∈l:=(xK l).mem_iff.1 (rW hts)
 obtain⟨p,hp,hpe⟩:=List.getElem_of_mem hm
 refine⟨p,hp, ?_,by rw[jO hp,hpe]⟩
 unfold aN
 rw[jO hp,hpe,jO hts]
 exact(Uw h).idxOf_getElem t hts
theorem acU{l:List aP}(h:iK l):(dh l).Pairwise fun a b=>iQ b a=false:=by
 have e:((l.attach).mergeSort fun x y=> !iQ y.1 x.1).map (·.1)=dh l:=by
  refine(List.map_mergeSort (r:=fun x y:lH l=> !iQ y.1 x.1) (s:=fun a b=> !iQ b a) (f:=fun x:lH l=>x.1) (fun a _ b _=>rfl)).trans ?_
  show((l.attach).map Subtype.val).mergeSort _=_
  rw[List.attach_map_subtype_val]
  rfl
 rw[←e,List.pairwise_map]
 refine(List.pairwise_mergeSort (le:=fun x y:lH l=> !iQ y.1 x.1) ?_ ?_ _).imp fun hab=>by simpa using hab
 ·intro a b c h1 h2
  simp only[Bool.not_eq_true']at h1 h2 ⊢
  exact Ug (h.1 _ c.2) (h.1 _ b.2) (h.1 _ a.2) h2 h1
 ·intro a b
  simp only[Bool.or_eq_true,Bool.not_eq_true']
  by_cases hab:iQ b.1 a.1=true
  ·right
   rw[xX]at hab
   rw[Aq]
   omega
  ·left;simpa using hab
theorem abx{a b:aP}(h:iQ b a=false)(hne:a.1≠b.1):iQ a b=true:=by
 rw[Aq]at h
 rw[xX]
 omega
theorem Oo{l:List aP}(h:iK l){p q:Nat}(hp:p<l.length)(hq:q<l.length)(e:aN l p<aN l q):iQ (aS l p) (aS l q)=true:=by
 have h1:=List.pairwise_iff_getElem.1 (acU h) (aN l p) (aN l q) (by rw[iW];exact nP hp) (by rw[iW];exact nP hq) e
 rw[←jO, ←jO,vK hp,vK hq]at h1
 refine abx h1 fun hid=> ?_
 have:=WN h.2.1 (rW hp) (rW hq) hid
 rw[jO hp,jO hq]at this
 have:=(List.getElem_inj (Eg h)).1 this
 subst this
 omega
theorem aew{l:List aP}(h:iK l){p q:Nat}(hp:p<l.length)(hq:q<l.length):oO (aS l p) (aS l q)<0↔aN l p<aN l q:=by
 constructor
 ·intro ho
  refine Nat.lt_of_not_le fun hle=> ?_
  rcases Nat.lt_or_eq_of_le hle with hlt |heq
  ·have h2:=Oo h hq hp hlt
   have h1:iQ (aS l p) (aS l q)=true:=by unfold iQ;exact decide_eq_true ho
   rw[xX]at h1 h2
   omega
  ·have:=sH h hq hp heq
   subst this
   rw[Vt]at ho
   omega
 ·intro hlt
  have:=Oo h hp hq hlt
  unfold iQ at this
  exact of_decide_eq_true this
def tC(f:aP→Int)(l:List aP):Int:=(l.map f).sum
theorem acu{f:aP→Int}{l l':List aP}(h:l.Perm l'):tC f l=tC f l':=by
 induction h with
 |nil=>rfl
 |cons x _ ih=>simp only[tC,List.map_cons,List.sum_cons]at ih ⊢;rw[ih]
 |swap x y _=>simp only[tC,List.map_cons,List.sum_cons];omega
 |trans _ _ ih1 ih2=>rw[ih1,ih2]
theorem TQ(f:aP→Int)(l:List aP):sumTo l.length (fun i=>f (aS l i))=tC f l:=by
 have key:∀ k,k≤l.length→sumTo k (fun i=>f (aS l i))=tC f (l.take k):=by
  intro k
  induction k with
  |zero=>intro _;simp[sumTo,tC]
  |succ k ih=>
   intro hk
   have hk':k<l.length:=hk
   simp only[sumTo]
   rw[ih (by omega),List.take_add_one,List.getElem?_eq_getElem hk',jO hk']
   simp only[tC,List.map_append,List.sum_append,Option.toList,List.map_cons,List.map_nil,List.sum_cons,List.sum_nil,Int.add_zero]
 rw[key _ (Nat.le_refl _),List.take_length]
theorem xk(f:Nat→Int)(t:Nat):∀ m,sumTo (t+m) f=sumTo t f+sumTo m (fun i=>f (t+i))
 |0=>by simp[sumTo]
 |m+1=>by
  rw[←Nat.add_assoc]
  simp only[sumTo]
  rw[xk f t m];omega
theorem Uu(f:aP→Int)(l:List aP):sumTo l.length (fun i=>f (aS l i))=sumTo l.length (fun i=>f (aS (dh l) i)):=by
 rw[TQ, ←acu (xK l), ←TQ,iW]
theorem acT(l:List aP)(h:iK l)(g:Nat→Int):sumTo l.length (fun p=>g (aN l p))=sumTo l.length g:=by
 have h1:=Uu (fun a=>g ((dh l).idxOf a)) l
 refine Eq.trans h1 (sumTo_congr _ _ _ fun t ht=> ?_)
 have hts:t<(dh l).length:=by rw[iW];exact ht
 show g ((dh l).idxOf (aS (dh l) t))=g t
 rw[jO hts,(Uw h).idxOf_getElem t hts]
def rg{α:Type}(n:Nat)(f:Nat→α):List (α×Unit):=(List.range n).map fun p=>(f p,())
theorem ji{α:Type}(n:Nat)(f:Nat→α):(rg n f).length=n:=by simp[rg]
theorem mJ{α:Type}(n:Nat)(f:Nat→α)(z:α×Unit)(p:Nat)(hp:p<n):(rg n f).getD p z=(f p,()):=by
 simp[rg,List.getD_eq_getElem?_getD,hp]
theorem qQ{α:Type}(n:Nat)(f:Nat→α)(q:Nat)(y:α):(rg n f).set q (y,())=rg n fun p=>if p=q then y else f p:=by
 apply List.ext_getElem
 ·simp[rg]
 ·intro i h1 h2
  simp only[rg,List.getElem_set,List.getElem_map,List.getElem_range]
  by_cases hq:q=i
  ·rw[if_pos hq,if_pos hq.symm]
  ·rw[if_neg hq,if_neg (Ne.symm hq)]
theorem fF{α:Type}(n:Nat)(f g:Nat→α)(h:∀ p,p<n→f p=g p):rg n f=rg n g:=by
 apply List.ext_getElem
 ·simp[rg]
 ·intro i h1 h2
  simp only[rg,List.getElem_map,List.getElem_range]
  rw[h i (by simpa [rg]using h1)]
theorem qH{α:Type}(n:Nat)(c:α):List.replicate n (c,())=rg n fun _=>c:=by
 apply List.ext_getElem
 ·simp[rg]
 ·intro i h1 h2;simp[rg]
section
variable (l:List aP) (a:Int)
abbrev oA(t:Nat):aP:=aS (dh l) t
def aU(t:Nat):Int:=a - sumTo t fun s=>(oA l s).2.1
def bM(t:Nat):Int:=sumTo l.length (fun p=>(aS l p).2.2.1) - sumTo t fun s=>(oA l s).2.2.1
def jA(t:Nat):Prop:=(oA l t).2.1*bM l t≤aU l a t*(oA l t).2.2.1
def jk(T:Nat):Prop:=T≤l.length∧(∀ t,t<T→jA l a t)∧(T=l.length∨¬ jA l a T)
theorem VZ:∃ T,jk l a T:=by
 have key:∀ d t,t≤l.length→l.length - t=d→(∀ s,s<t→jA l a s)→∃ T,jk l a T:=by
  intro d
  induction d with
  |zero=>intro t ht hd hs;exact⟨t,ht,hs,Or.inl (by omega)⟩
  |succ d ih=>
   intro t ht hd hs
   by_cases hf:jA l a t
   ·refine ih (t+1) (by omega) (by omega) fun s hs'=> ?_
    by_cases e:s=t
    ·subst e;exact hf
    ·exact hs s (by omega)
   ·exact⟨t,ht,hs,Or.inr hf⟩
 exact key _ 0 (Nat.zero_le _) rfl (by intro s hs;omega)
def gK(T p:Nat):Int:=aU l a T*(aS l p).2.2.1 / bM l T
def fJ(T p:Nat):Int:=if aN l p<T then(aS l p).2.1 else gK l a T p
def leftA(T:Nat):Int:=aU l a T - sumTo l.length fun p=>if aN l p<T then 0 else gK l a T p
def fO(T:Nat):Nat→Int
 |0=>leftA l a T
 |i+1=>if T≤aN l i∧0<fO T i then fO T i - 1 else fO T i
def gy(T p:Nat):Int:=if T≤aN l p∧0<fO l a T p then fJ l a T p+1 else fJ l a T p
end
section
variable {l:List aP} {a:Int} (h:iK l) (hn:l.length≤100) (ha:0≤a∧a≤72057594037927936)
include h
theorem all_eq(t:Nat)(ht:t≤l.length):bM l t=sumTo (l.length - t) fun i=>(oA l (t+i)).2.2.1:=by
 unfold bM
 rw[show sumTo l.length (fun p=>(aS l p).2.2.1)=sumTo l.length (fun t=>(oA l t).2.2.1)from Uu (fun x=>x.2.2.1) l]
 have:=xk (fun i=>(oA l i).2.2.1) t (l.length - t)
 rw[show t+(l.length - t)=l.length by omega]at this
 omega
theorem oN(t:Nat)(ht:t<l.length):1≤(oA l t).2.2.1∧(oA l t).2.2.1≤1073741824:=(Nb h t ht).2.2
theorem aeU(t:Nat)(ht:t<l.length):(oA l t).2.2.1≤bM l t:=by
 rw[all_eq h t (by omega)]
 obtain⟨m,hm⟩:∃ m,l.length - t=1+m:=⟨l.length - t - 1,by omega⟩
 rw[hm,xk]
 have h1:sumTo 1 (fun i=>(oA l (t+i)).2.2.1)=(oA l t).2.2.1:=by simp[sumTo]
 have h2:=mF 1073741824 (fun i=>(oA l (t+(1+i))).2.2.1) m fun q hq=>by have:=oN h (t+(1+q)) (by omega);omega
 rw[h1];omega
include hn in
theorem qW(t:Nat)(ht:t≤l.length):0≤bM l t∧bM l t≤107374182400:=by
 rw[all_eq h t ht]
 have h2:=mF 1073741824 (fun i=>(oA l (t+i)).2.2.1) (l.length - t) fun q hq=>by have:=oN h (t+q) (by omega);omega
 omega
theorem xP(t:Nat)(ht:t<l.length):0≤(oA l t).2.1∧(oA l t).2.1≤1125899906842624:=⟨(Nb h t ht).1,(Nb h t ht).2.1⟩
include ha in
theorem mG:∀ t,t≤l.length→(∀ s,s<t→jA l a s)→0≤aU l a t∧aU l a t≤a:=by
 intro t
 induction t with
 |zero=>intro _ _;unfold aU;simp[sumTo];exact ha.1
 |succ t ih=>
  intro ht hs
  obtain⟨h1,h2⟩:=ih (by omega) fun s hs'=>hs s (by omega)
  have hf:=hs t (by omega)
  have hw:=oN h t (by omega)
  have hA:=aeU h t (by omega)
  have hW:=xP h t (by omega)
  have e:aU l a (t+1)=aU l a t - (oA l t).2.1:=by unfold aU;simp only[sumTo];omega
  unfold jA at hf
  have h3:(oA l t).2.1*(oA l t).2.2.1≤aU l a t*(oA l t).2.2.1:=Int.le_trans (Int.mul_le_mul_of_nonneg_left hA hW.1) hf
  have h4:=Int.le_of_mul_le_mul_right h3 (by omega)
  omega
theorem qX(p:Nat)(hp:p<l.length):1≤(aS l p).2.2.1∧(aS l p).2.2.1≤1073741824∧0≤(aS l p).2.1∧(aS l p).2.1≤1125899906842624:=by
 have:=h.1 _ (rW hp)
 unfold kM at this
 omega
theorem Es(T p:Nat)(hp:p<l.length)(hr:T≤aN l p):(aS l p).2.2.1≤bM l T:=by
 rw[all_eq h T (by have:=nP hp;omega)]
 obtain⟨i,hi⟩:∃ i,aN l p=T+i:=⟨aN l p - T,by omega⟩
 have hrl:=nP hp
 obtain⟨m,hm⟩:∃ m,l.length - T=i+(1+m):=⟨l.length - T - i - 1,by omega⟩
 rw[hm,xk,xk]
 have h1:sumTo 1 (fun j=>(oA l (T+(i+j))).2.2.1)=(aS l p).2.2.1:=by
  simp only[sumTo,Nat.add_zero]
  rw[←hi,show oA l (aN l p)=aS l p from vK hp];omega
 have h2:=mF 1073741824 (fun j=>(oA l (T+j)).2.2.1) i fun q hq=>by have:=oN h (T+q) (by omega);omega
 have h3:=mF 1073741824 (fun j=>(oA l (T+(i+(1+j)))).2.2.1) m fun q hq=>by have:=oN h (T+(i+(1+q))) (by omega);omega
 omega
include hn ha in
theorem sF(T p:Nat)(hT:jk l a T)(hp:p<l.length)(hr:T≤aN l p):0≤gK l a T p∧gK l a T p≤a:=by
 obtain⟨h1,h2⟩:=mG h ha T hT.1 hT.2.1
 have hw:=qX h p hp
 have hA:=Es h T p hp hr
 have hA2:=qW h hn T hT.1
 unfold gK
 refine⟨Int.ediv_nonneg (Int.mul_nonneg h1 (by omega)) (by omega), ?_⟩
 refine Int.le_trans (Int.ediv_le_of_le_mul (by omega) ?_) h2
 exact Int.mul_le_mul_of_nonneg_left hA h1
include hn ha in
theorem adW(T:Nat)(hT:jk l a T): -7205759403792793600≤leftA l a T∧leftA l a T≤72057594037927936:=by
 obtain⟨h1,h2⟩:=mG h ha T hT.1 hT.2.1
 have h3:=mF 72057594037927936 (fun p=>if aN l p<T then 0 else gK l a T p) l.length fun q hq=>by
  by_cases hr:aN l q<T
  ·rw[if_pos hr];omega
  ·rw[if_neg hr];have:=sF h hn ha T q hT hq (by omega);omega
 unfold leftA
 omega
include hn ha in
theorem OI(T:Nat)(hT:jk l a T):∀ i, -7205759403792793600≤fO l a T i∧fO l a T i≤72057594037927936
 |0=>adW h hn ha T hT
 |i+1=>by
  have:=OI T hT i
  simp only[fO]
  split <;>omega
omit h in
theorem aeD(T:Nat):∀ i,fO l a T i≤0→∀ j,i≤j→fO l a T j=fO l a T i:=by
 intro i hi j hij
 obtain⟨d,rfl⟩:∃ d,j=i+d:=⟨j - i,by omega⟩
 induction d with
 |zero=>rfl
 |succ d ih=>
  have:=ih (by omega)
  rw[←Nat.add_assoc]
  simp only[fO]
  rw[this,if_neg (by omega)]
end
end Go.Rv
