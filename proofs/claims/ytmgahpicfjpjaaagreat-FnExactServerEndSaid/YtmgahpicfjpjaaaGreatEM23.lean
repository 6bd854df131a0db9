/- Plain facts: fill0. -/
import Derived.Test.YtmgahpicfjpjaaaGreatEM22
set_option linter.unusedVariables false
set_option linter.unusedSimpArgs false
set_option linter.unusedSectionVars false
namespace Go.Rv
abbrev aU(l:List aT)(p:Nat):aT:=l.getD p (0,0,0,())
def aN(l:List aT)(p:Nat):Nat:=(dm l).idxOf (aU l p)
theorem rV{l:List aT}{p:Nat}(hp:p<l.length):aU l p∈l:=by
 simp only[aU,List.getD_eq_getElem?_getD,List.getElem?_eq_getElem hp,Option.getD_some];exact List.getElem_mem hp
theorem jB{l:List aT}{p:Nat}(hp:p<l.length):aU l p=l[p]:=by
 simp[aU,List.getD_eq_getElem?_getD,hp]
theorem EC{l:List aT}(h:iw l):l.Nodup:=by
 rw[List.nodup_iff_pairwise_ne]
 exact h.2.1.imp fun hab e=>hab (by rw[e])
theorem xI(l:List aT):(dm l).Perm l:=List.mergeSort_perm _ _
theorem iL(l:List aT):(dm l).length=l.length:=(xI l).length_eq
theorem VE{l:List aT}(h:iw l):(dm l).Nodup:=(xI l).nodup_iff.2 (EC h)
theorem OA{l:List aT}(h:iw l)(t:Nat)(ht:t<l.length):jY (aU (dm l) t):=
 h.1 _ ((xI l).mem_iff.1 (rV (by rw[iL];exact ht)))
theorem nP{l:List aT}{p:Nat}(hp:p<l.length):aN l p<l.length:=by
 rw[←iL];exact List.idxOf_lt_length_iff.2 ((xI l).mem_iff.2 (rV hp))
theorem vK{l:List aT}{p:Nat}(hp:p<l.length):aU (dm l) (aN l p)=aU l p:=by
 have h:=nP hp
 rw[←iL]at h
 rw[jB h]
 exact List.getElem_idxOf h
theorem sF{l:List aT}(h:iw l){p q:Nat}(hp:p<l.length)(hq:q<l.length)(e:aN l p=aN l q):p=q:=by
 have:=(vK hp).symm.trans ((congrArg (aU (dm l)) e).trans (vK hq))
 rw[jB hp,jB hq]at this
 exact(List.getElem_inj (EC h)).1 this
theorem FM{l:List aT}(h:iw l){t:Nat}(ht:t<l.length):∃ p,p<l.length∧aN l p=t∧aU l p=aU (dm l) t:=by
 have hts:t<(dm l).length:=by rw[iL];exact ht
 have hm:aU (dm l) t∈l:=(xI l).mem_iff.1 (rV hts)
 obtain⟨p,hp,hpe⟩:=List.getElem_of_mem hm
 refine⟨p,hp, ?_,by rw[jB hp,hpe]⟩
 unfold aN
 rw[jB hp,hpe,jB hts]
 exact(VE h).idxOf_getElem t hts
theorem aeY{l:List aT}(h:iw l):(dm l).Pairwise fun a b=>iG b a=false:=by
 have e:((l.attach).mergeSort fun x y=> !iG y.1 x.1).map (·.1)=dm l:=by
  refine(List.map_mergeSort (r:=fun x y:kU l=> !iG y.1 x.1) (s:=fun a b=> !iG b a) (f:=fun x:kU l=>x.1) (fun a _ b _=>rfl)).trans ?_
  show((l.attach).map Subtype.val).mergeSort _=_
  rw[List.attach_map_subtype_val]
  rfl
 rw[←e,List.pairwise_map]
 refine(List.pairwise_mergeSort (le:=fun x y:kU l=> !iG y.1 x.1) ?_ ?_ _).imp fun hab=>by simpa using hab
 ·intro a b c h1 h2
  simp only[Bool.not_eq_true']at h1 h2 ⊢
  exact Vp (h.1 _ c.2) (h.1 _ b.2) (h.1 _ a.2) h2 h1
 ·intro a b
  simp only[Bool.or_eq_true,Bool.not_eq_true']
  by_cases hab:iG b.1 a.1=true
  ·right
   rw[xX]at hab
   rw[Ap]
   omega
  ·left;simpa using hab
theorem adt{a b:aT}(h:iG b a=false)(hne:a.1≠b.1):iG a b=true:=by
 rw[Ap]at h
 rw[xX]
 omega
theorem PL{l:List aT}(h:iw l){p q:Nat}(hp:p<l.length)(hq:q<l.length)(e:aN l p<aN l q):iG (aU l p) (aU l q)=true:=by
 have h1:=List.pairwise_iff_getElem.1 (aeY h) (aN l p) (aN l q) (by rw[iL];exact nP hp) (by rw[iL];exact nP hq) e
 rw[←jB, ←jB,vK hp,vK hq]at h1
 refine adt h1 fun hid=> ?_
 have:=XT h.2.1 (rV hp) (rV hq) hid
 rw[jB hp,jB hq]at this
 have:=(List.getElem_inj (EC h)).1 this
 subst this
 omega
theorem agz{l:List aT}(h:iw l){p q:Nat}(hp:p<l.length)(hq:q<l.length):oM (aU l p) (aU l q)<0↔aN l p<aN l q:=by
 constructor
 ·intro ho
  refine Nat.lt_of_not_le fun hle=> ?_
  rcases Nat.lt_or_eq_of_le hle with hlt |heq
  ·have h2:=PL h hq hp hlt
   have h1:iG (aU l p) (aU l q)=true:=by unfold iG;exact decide_eq_true ho
   rw[xX]at h1 h2
   omega
  ·have:=sF h hq hp heq
   subst this
   rw[WC]at ho
   omega
 ·intro hlt
  have:=PL h hp hq hlt
  unfold iG at this
  exact of_decide_eq_true this
def tq(f:aT→Int)(l:List aT):Int:=(l.map f).sum
theorem aer{f:aT→Int}{l l':List aT}(h:l.Perm l'):tq f l=tq f l':=by
 induction h with
 |nil=>rfl
 |cons x _ ih=>simp only[tq,List.map_cons,List.sum_cons]at ih ⊢;rw[ih]
 |swap x y _=>simp only[tq,List.map_cons,List.sum_cons];omega
 |trans _ _ ih1 ih2=>rw[ih1,ih2]
theorem UY(f:aT→Int)(l:List aT):sumTo l.length (fun i=>f (aU l i))=tq f l:=by
 have key:∀ k,k≤l.length→sumTo k (fun i=>f (aU l i))=tq f (l.take k):=by
  intro k
  induction k with
  |zero=>intro _;simp[sumTo,tq]
  |succ k ih=>
   intro hk
   have hk':k<l.length:=hk
   simp only[sumTo]
   rw[ih (by omega),List.take_add_one,List.getElem?_eq_getElem hk',jB hk']
   simp only[tq,List.map_append,List.sum_append,Option.toList,List.map_cons,List.map_nil,List.sum_cons,List.sum_nil,Int.add_zero]
 rw[key _ (Nat.le_refl _),List.take_length]
theorem xk(f:Nat→Int)(t:Nat):∀ m,sumTo (t+m) f=sumTo t f+sumTo m (fun i=>f (t+i))
 |0=>by simp[sumTo]
 |m+1=>by
  rw[←Nat.add_assoc]
  simp only[sumTo]
  rw[xk f t m];omega
theorem VD(f:aT→Int)(l:List aT):sumTo l.length (fun i=>f (aU l i))=sumTo l.length (fun i=>f (aU (dm l) i)):=by
 rw[UY, ←aer (xI l), ←UY,iL]
theorem aeX(l:List aT)(h:iw l)(g:Nat→Int):sumTo l.length (fun p=>g (aN l p))=sumTo l.length g:=by
 have h1:=VD (fun a=>g ((dm l).idxOf a)) l
 refine Eq.trans h1 (sumTo_congr _ _ _ fun t ht=> ?_)
 have hts:t<(dm l).length:=by rw[iL];exact ht
 show g ((dm l).idxOf (aU (dm l) t))=g t
 rw[jB hts,(VE h).idxOf_getElem t hts]
def rg{α:Type}(n:Nat)(f:Nat→α):List (α×Unit):=(List.range n).map fun p=>(f p,())
theorem iY{α:Type}(n:Nat)(f:Nat→α):(rg n f).length=n:=by simp[rg]
theorem lY{α:Type}(n:Nat)(f:Nat→α)(z:α×Unit)(p:Nat)(hp:p<n):(rg n f).getD p z=(f p,()):=by
 simp[rg,List.getD_eq_getElem?_getD,hp]
theorem qP{α:Type}(n:Nat)(f:Nat→α)(q:Nat)(y:α):(rg n f).set q (y,())=rg n fun p=>if p=q then y else f p:=by
 apply List.ext_getElem
 ·simp[rg]
 ·intro i h1 h2
  simp only[rg,List.getElem_set,List.getElem_map,List.getElem_range]
  by_cases hq:q=i
  ·rw[if_pos hq,if_pos hq.symm]
  ·rw[if_neg hq,if_neg (Ne.symm hq)]
theorem eX{α:Type}(n:Nat)(f g:Nat→α)(h:∀ p,p<n→f p=g p):rg n f=rg n g:=by
 apply List.ext_getElem
 ·simp[rg]
 ·intro i h1 h2
  simp only[rg,List.getElem_map,List.getElem_range]
  rw[h i (by simpa [rg]using h1)]
theorem qE{α:Type}(n:Nat)(c:α):List.replicate n (c,())=rg n fun _=>c:=by
 apply List.ext_getElem
 ·simp[rg]
 ·intro i h1 h2;simp[rg]
section
variable (l:List aT) (a:Int)
abbrev oA(t:Nat):aT:=aU (dm l) t
def aV(t:Nat):Int:=a - sumTo t fun s=>(oA l s).2.1
def bK(t:Nat):Int:=sumTo l.length (fun p=>(aU l p).2.2.1) - sumTo t fun s=>(oA l s).2.2.1
def jh(t:Nat):Prop:=(oA l t).2.1*bK l t≤aV l a t*(oA l t).2.2.1
def iZ(T:Nat):Prop:=T≤l.length∧(∀ t,t<T→jh l a t)∧(T=l.length∨¬ jh l a T)
theorem Xl:∃ T,iZ l a T:=by
 have key:∀ d t,t≤l.length→l.length - t=d→(∀ s,s<t→jh l a s)→∃ T,iZ l a T:=by
  intro d
  induction d with
  |zero=>intro t ht hd hs;exact⟨t,ht,hs,Or.inl (by omega)⟩
  |succ d ih=>
   intro t ht hd hs
   by_cases hf:jh l a t
   ·refine ih (t+1) (by omega) (by omega) fun s hs'=> ?_
    by_cases e:s=t
    ·subst e;exact hf
    ·exact hs s (by omega)
   ·exact⟨t,ht,hs,Or.inr hf⟩
 exact key _ 0 (Nat.zero_le _) rfl (by intro s hs;omega)
def gB(T p:Nat):Int:=aV l a T*(aU l p).2.2.1 / bK l T
def fC(T p:Nat):Int:=if aN l p<T then(aU l p).2.1 else gB l a T p
def leftA(T:Nat):Int:=aV l a T - sumTo l.length fun p=>if aN l p<T then 0 else gB l a T p
def fG(T:Nat):Nat→Int
 |0=>leftA l a T
 |i+1=>if T≤aN l i∧0<fG T i then fG T i - 1 else fG T i
def fU(T p:Nat):Int:=if T≤aN l p∧0<fG l a T p then fC l a T p+1 else fC l a T p
end
section
variable {l:List aT} {a:Int} (h:iw l) (hn:l.length≤100) (ha:0≤a∧a≤72057594037927936)
include h
theorem all_eq(t:Nat)(ht:t≤l.length):bK l t=sumTo (l.length - t) fun i=>(oA l (t+i)).2.2.1:=by
 unfold bK
 rw[show sumTo l.length (fun p=>(aU l p).2.2.1)=sumTo l.length (fun t=>(oA l t).2.2.1)from VD (fun x=>x.2.2.1) l]
 have:=xk (fun i=>(oA l i).2.2.1) t (l.length - t)
 rw[show t+(l.length - t)=l.length by omega]at this
 omega
theorem oL(t:Nat)(ht:t<l.length):1≤(oA l t).2.2.1∧(oA l t).2.2.1≤1073741824:=(OA h t ht).2.2
theorem ag0(t:Nat)(ht:t<l.length):(oA l t).2.2.1≤bK l t:=by
 rw[all_eq h t (by omega)]
 obtain⟨m,hm⟩:∃ m,l.length - t=1+m:=⟨l.length - t - 1,by omega⟩
 rw[hm,xk]
 have h1:sumTo 1 (fun i=>(oA l (t+i)).2.2.1)=(oA l t).2.2.1:=by simp[sumTo]
 have h2:=lW 1073741824 (fun i=>(oA l (t+(1+i))).2.2.1) m fun q hq=>by have:=oL h (t+(1+q)) (by omega);omega
 rw[h1];omega
include hn in
theorem qV(t:Nat)(ht:t≤l.length):0≤bK l t∧bK l t≤107374182400:=by
 rw[all_eq h t ht]
 have h2:=lW 1073741824 (fun i=>(oA l (t+i)).2.2.1) (l.length - t) fun q hq=>by have:=oL h (t+q) (by omega);omega
 omega
theorem xP(t:Nat)(ht:t<l.length):0≤(oA l t).2.1∧(oA l t).2.1≤1125899906842624:=⟨(OA h t ht).1,(OA h t ht).2.1⟩
include ha in
theorem lX:∀ t,t≤l.length→(∀ s,s<t→jh l a s)→0≤aV l a t∧aV l a t≤a:=by
 intro t
 induction t with
 |zero=>intro _ _;unfold aV;simp[sumTo];exact ha.1
 |succ t ih=>
  intro ht hs
  obtain⟨h1,h2⟩:=ih (by omega) fun s hs'=>hs s (by omega)
  have hf:=hs t (by omega)
  have hw:=oL h t (by omega)
  have hA:=ag0 h t (by omega)
  have hW:=xP h t (by omega)
  have e:aV l a (t+1)=aV l a t - (oA l t).2.1:=by unfold aV;simp only[sumTo];omega
  unfold jh at hf
  have h3:(oA l t).2.1*(oA l t).2.2.1≤aV l a t*(oA l t).2.2.1:=Int.le_trans (Int.mul_le_mul_of_nonneg_left hA hW.1) hf
  have h4:=Int.le_of_mul_le_mul_right h3 (by omega)
  omega
theorem qX(p:Nat)(hp:p<l.length):1≤(aU l p).2.2.1∧(aU l p).2.2.1≤1073741824∧0≤(aU l p).2.1∧(aU l p).2.1≤1125899906842624:=by
 have:=h.1 _ (rV hp)
 unfold jY at this
 omega
theorem EM(T p:Nat)(hp:p<l.length)(hr:T≤aN l p):(aU l p).2.2.1≤bK l T:=by
 rw[all_eq h T (by have:=nP hp;omega)]
 obtain⟨i,hi⟩:∃ i,aN l p=T+i:=⟨aN l p - T,by omega⟩
 have hrl:=nP hp
 obtain⟨m,hm⟩:∃ m,l.length - T=i+(1+m):=⟨l.length - T - i - 1,by omega⟩
 rw[hm,xk,xk]
 have h1:sumTo 1 (fun j=>(oA l (T+(i+j))).2.2.1)=(aU l p).2.2.1:=by
  simp only[sumTo,Nat.add_zero]
  rw[←hi,show oA l (aN l p)=aU l p from vK hp];omega
 have h2:=lW 1073741824 (fun j=>(oA l (T+j)).2.2.1) i fun q hq=>by have:=oL h (T+q) (by omega);omega
 have h3:=lW 1073741824 (fun j=>(oA l (T+(i+(1+j)))).2.2.1) m fun q hq=>by have:=oL h (T+(i+(1+q))) (by omega);omega
 omega
include hn ha in
theorem sD(T p:Nat)(hT:iZ l a T)(hp:p<l.length)(hr:T≤aN l p):0≤gB l a T p∧gB l a T p≤a:=by
 obtain⟨h1,h2⟩:=lX h ha T hT.1 hT.2.1
 have hw:=qX h p hp
 have hA:=EM h T p hp hr
 have hA2:=qV h hn T hT.1
 unfold gB
 refine⟨Int.ediv_nonneg (Int.mul_nonneg h1 (by omega)) (by omega), ?_⟩
 refine Int.le_trans (Int.ediv_le_of_le_mul (by omega) ?_) h2
 exact Int.mul_le_mul_of_nonneg_left hA h1
include hn ha in
theorem afY(T:Nat)(hT:iZ l a T): -7205759403792793600≤leftA l a T∧leftA l a T≤72057594037927936:=by
 obtain⟨h1,h2⟩:=lX h ha T hT.1 hT.2.1
 have h3:=lW 72057594037927936 (fun p=>if aN l p<T then 0 else gB l a T p) l.length fun q hq=>by
  by_cases hr:aN l q<T
  ·rw[if_pos hr];omega
  ·rw[if_neg hr];have:=sD h hn ha T q hT hq (by omega);omega
 unfold leftA
 omega
include hn ha in
theorem Qa(T:Nat)(hT:iZ l a T):∀ i, -7205759403792793600≤fG l a T i∧fG l a T i≤72057594037927936
 |0=>afY h hn ha T hT
 |i+1=>by
  have:=Qa T hT i
  simp only[fG]
  split <;>omega
omit h in
theorem agH(T:Nat):∀ i,fG l a T i≤0→∀ j,i≤j→fG l a T j=fG l a T i:=by
 intro i hi j hij
 obtain⟨d,rfl⟩:∃ d,j=i+d:=⟨j - i,by omega⟩
 induction d with
 |zero=>rfl
 |succ d ih=>
  have:=ih (by omega)
  rw[←Nat.add_assoc]
  simp only[fG]
  rw[this,if_neg (by omega)]
end
end Go.Rv
