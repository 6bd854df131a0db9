/- Plain facts: fill0. -/
import Derived.Test.YtjknhphmhfbghaaGreatGM22
set_option linter.unusedVariables false
set_option linter.unusedSimpArgs false
set_option linter.unusedSectionVars false
namespace Go.Rv
abbrev aQ(l:List aP)(p:Nat):aP:=l.getD p (0,0,0,())
def aN(l:List aP)(p:Nat):Nat:=(dh l).idxOf (aQ l p)
theorem rJ{l:List aP}{p:Nat}(hp:p<l.length):aQ l p∈l:=by
 simp only[aQ,List.getD_eq_getElem?_getD,List.getElem?_eq_getElem hp,Option.getD_some];exact List.getElem_mem hp
theorem jL{l:List aP}{p:Nat}(hp:p<l.length):aQ l p=l[p]:=by
 simp[aQ,List.getD_eq_getElem?_getD,hp]
theorem Ec{l:List aP}(h:iI l):l.Nodup:=by
 rw[List.nodup_iff_pairwise_ne]
 exact h.2.1.imp fun hab e=>hab (by rw[e])
theorem xC(l:List aP):(dh l).Perm l:=List.mergeSort_perm _ _
theorem iT(l:List aP):(dh l).length=l.length:=(xC l).length_eq
theorem Un{l:List aP}(h:iI l):(dh l).Nodup:=(xC l).nodup_iff.2 (Ec h)
theorem MG{l:List aP}(h:iI l)(t:Nat)(ht:t<l.length):kG (aQ (dh l) t):=
 h.1 _ ((xC l).mem_iff.1 (rJ (by rw[iT];exact ht)))
theorem nM{l:List aP}{p:Nat}(hp:p<l.length):aN l p<l.length:=by
 rw[←iT];exact List.idxOf_lt_length_iff.2 ((xC l).mem_iff.2 (rJ hp))
theorem vH{l:List aP}{p:Nat}(hp:p<l.length):aQ (dh l) (aN l p)=aQ l p:=by
 have h:=nM hp
 rw[←iT]at h
 rw[jL h]
 exact List.getElem_idxOf h
theorem rW{l:List aP}(h:iI l){p q:Nat}(hp:p<l.length)(hq:q<l.length)(e:aN l p=aN l q):p=q:=by
 have:=(vH hp).symm.trans ((congrArg (aQ (dh l)) e).trans (vH hq))
 rw[jL hp,jL hq]at this
 exact(List.getElem_inj (Ec h)).1 this
theorem E8{l:List aP}(h:iI l){t:Nat}(ht:t<l.length):∃ p,p<l.length∧aN l p=t∧aQ l p=aQ (dh l) t:=by
 have hts:t<(dh l).length:=by rw[iT];exact ht
 have hm:aQ (dh l) t∈l:=(xC l).mem_iff.1 (rJ hts)
 obtain⟨p,hp,hpe⟩:=List.getElem_of_mem hm
 refine⟨p,hp, ?_,by rw[jL hp,hpe]⟩
 unfold aN
 rw[jL hp,hpe,jL hts]
 exact(Un h).idxOf_getElem t hts
theorem acF{l:List aP}(h:iI l):(dh l).Pairwise fun a b=>iL b a=false:=by
 have e:((l.attach).mergeSort fun x y=> !iL y.1 x.1).map (·.1)=dh l:=by
  refine(List.map_mergeSort (r:=fun x y:lC l=> !iL y.1 x.1) (s:=fun a b=> !iL b a) (f:=fun x:lC l=>x.1) (fun a _ b _=>rfl)).trans ?_
  show((l.attach).map Subtype.val).mergeSort _=_
  rw[List.attach_map_subtype_val]
  rfl
 rw[←e,List.pairwise_map]
 refine(List.pairwise_mergeSort (le:=fun x y:lC l=> !iL y.1 x.1) ?_ ?_ _).imp fun hab=>by simpa using hab
 ·intro a b c h1 h2
  simp only[Bool.not_eq_true']at h1 h2 ⊢
  exact TY (h.1 _ c.2) (h.1 _ b.2) (h.1 _ a.2) h2 h1
 ·intro a b
  simp only[Bool.or_eq_true,Bool.not_eq_true']
  by_cases hab:iL b.1 a.1=true
  ·right
   rw[xO]at hab
   rw[Ae]
   omega
  ·left;simpa using hab
theorem abj{a b:aP}(h:iL b a=false)(hne:a.1≠b.1):iL a b=true:=by
 rw[Ae]at h
 rw[xO]
 omega
theorem NS{l:List aP}(h:iI l){p q:Nat}(hp:p<l.length)(hq:q<l.length)(e:aN l p<aN l q):iL (aQ l p) (aQ l q)=true:=by
 have h1:=List.pairwise_iff_getElem.1 (acF h) (aN l p) (aN l q) (by rw[iT];exact nM hp) (by rw[iT];exact nM hq) e
 rw[←jL, ←jL,vH hp,vH hq]at h1
 refine abj h1 fun hid=> ?_
 have:=WG h.2.1 (rJ hp) (rJ hq) hid
 rw[jL hp,jL hq]at this
 have:=(List.getElem_inj (Ec h)).1 this
 subst this
 omega
theorem ad6{l:List aP}(h:iI l){p q:Nat}(hp:p<l.length)(hq:q<l.length):oL (aQ l p) (aQ l q)<0↔aN l p<aN l q:=by
 constructor
 ·intro ho
  refine Nat.lt_of_not_le fun hle=> ?_
  rcases Nat.lt_or_eq_of_le hle with hlt |heq
  ·have h2:=NS h hq hp hlt
   have h1:iL (aQ l p) (aQ l q)=true:=by unfold iL;exact decide_eq_true ho
   rw[xO]at h1 h2
   omega
  ·have:=rW h hq hp heq
   subst this
   rw[Vk]at ho
   omega
 ·intro hlt
  have:=NS h hp hq hlt
  unfold iL at this
  exact of_decide_eq_true this
def sQ(f:aP→Int)(l:List aP):Int:=(l.map f).sum
theorem ab8{f:aP→Int}{l l':List aP}(h:l.Perm l'):sQ f l=sQ f l':=by
 induction h with
 |nil=>rfl
 |cons x _ ih=>simp only[sQ,List.map_cons,List.sum_cons]at ih ⊢;rw[ih]
 |swap x y _=>simp only[sQ,List.map_cons,List.sum_cons];omega
 |trans _ _ ih1 ih2=>rw[ih1,ih2]
theorem TG(f:aP→Int)(l:List aP):sumTo l.length (fun i=>f (aQ l i))=sQ f l:=by
 have key:∀ k,k≤l.length→sumTo k (fun i=>f (aQ l i))=sQ f (l.take k):=by
  intro k
  induction k with
  |zero=>intro _;simp[sumTo,sQ]
  |succ k ih=>
   intro hk
   have hk':k<l.length:=hk
   simp only[sumTo]
   rw[ih (by omega),List.take_add_one,List.getElem?_eq_getElem hk',jL hk']
   simp only[sQ,List.map_append,List.sum_append,Option.toList,List.map_cons,List.map_nil,List.sum_cons,List.sum_nil,Int.add_zero]
 rw[key _ (Nat.le_refl _),List.take_length]
theorem wY(f:Nat→Int)(t:Nat):∀ m,sumTo (t+m) f=sumTo t f+sumTo m (fun i=>f (t+i))
 |0=>by simp[sumTo]
 |m+1=>by
  rw[←Nat.add_assoc]
  simp only[sumTo]
  rw[wY f t m];omega
theorem Um(f:aP→Int)(l:List aP):sumTo l.length (fun i=>f (aQ l i))=sumTo l.length (fun i=>f (aQ (dh l) i)):=by
 rw[TG, ←ab8 (xC l), ←TG,iT]
theorem acE(l:List aP)(h:iI l)(g:Nat→Int):sumTo l.length (fun p=>g (aN l p))=sumTo l.length g:=by
 have h1:=Um (fun a=>g ((dh l).idxOf a)) l
 refine Eq.trans h1 (sumTo_congr _ _ _ fun t ht=> ?_)
 have hts:t<(dh l).length:=by rw[iT];exact ht
 show g ((dh l).idxOf (aQ (dh l) t))=g t
 rw[jL hts,(Un h).idxOf_getElem t hts]
def rg{α:Type}(n:Nat)(f:Nat→α):List (α×Unit):=(List.range n).map fun p=>(f p,())
theorem jc{α:Type}(n:Nat)(f:Nat→α):(rg n f).length=n:=by simp[rg]
theorem mr{α:Type}(n:Nat)(f:Nat→α)(z:α×Unit)(p:Nat)(hp:p<n):(rg n f).getD p z=(f p,()):=by
 simp[rg,List.getD_eq_getElem?_getD,hp]
theorem qK{α:Type}(n:Nat)(f:Nat→α)(q:Nat)(y:α):(rg n f).set q (y,())=rg n fun p=>if p=q then y else f p:=by
 apply List.ext_getElem
 ·simp[rg]
 ·intro i h1 h2
  simp only[rg,List.getElem_set,List.getElem_map,List.getElem_range]
  by_cases hq:q=i
  ·rw[if_pos hq,if_pos hq.symm]
  ·rw[if_neg hq,if_neg (Ne.symm hq)]
theorem fB{α:Type}(n:Nat)(f g:Nat→α)(h:∀ p,p<n→f p=g p):rg n f=rg n g:=by
 apply List.ext_getElem
 ·simp[rg]
 ·intro i h1 h2
  simp only[rg,List.getElem_map,List.getElem_range]
  rw[h i (by simpa [rg]using h1)]
theorem qy{α:Type}(n:Nat)(c:α):List.replicate n (c,())=rg n fun _=>c:=by
 apply List.ext_getElem
 ·simp[rg]
 ·intro i h1 h2;simp[rg]
section
variable (l:List aP) (a:Int)
abbrev oA(t:Nat):aP:=aQ (dh l) t
def aU(t:Nat):Int:=a - sumTo t fun s=>(oA l s).2.1
def bM(t:Nat):Int:=sumTo l.length (fun p=>(aQ l p).2.2.1) - sumTo t fun s=>(oA l s).2.2.1
def jr(t:Nat):Prop:=(oA l t).2.1*bM l t≤aU l a t*(oA l t).2.2.1
def jd(T:Nat):Prop:=T≤l.length∧(∀ t,t<T→jr l a t)∧(T=l.length∨¬ jr l a T)
theorem VR:∃ T,jd l a T:=by
 have key:∀ d t,t≤l.length→l.length - t=d→(∀ s,s<t→jr l a s)→∃ T,jd l a T:=by
  intro d
  induction d with
  |zero=>intro t ht hd hs;exact⟨t,ht,hs,Or.inl (by omega)⟩
  |succ d ih=>
   intro t ht hd hs
   by_cases hf:jr l a t
   ·refine ih (t+1) (by omega) (by omega) fun s hs'=> ?_
    by_cases e:s=t
    ·subst e;exact hf
    ·exact hs s (by omega)
   ·exact⟨t,ht,hs,Or.inr hf⟩
 exact key _ 0 (Nat.zero_le _) rfl (by intro s hs;omega)
def gJ(T p:Nat):Int:=aU l a T*(aQ l p).2.2.1 / bM l T
def fE(T p:Nat):Int:=if aN l p<T then(aQ l p).2.1 else gJ l a T p
def leftA(T:Nat):Int:=aU l a T - sumTo l.length fun p=>if aN l p<T then 0 else gJ l a T p
def fJ(T:Nat):Nat→Int
 |0=>leftA l a T
 |i+1=>if T≤aN l i∧0<fJ T i then fJ T i - 1 else fJ T i
def fV(T p:Nat):Int:=if T≤aN l p∧0<fJ l a T p then fE l a T p+1 else fE l a T p
end
section
variable {l:List aP} {a:Int} (h:iI l) (hn:l.length≤100) (ha:0≤a∧a≤72057594037927936)
include h
theorem all_eq(t:Nat)(ht:t≤l.length):bM l t=sumTo (l.length - t) fun i=>(oA l (t+i)).2.2.1:=by
 unfold bM
 rw[show sumTo l.length (fun p=>(aQ l p).2.2.1)=sumTo l.length (fun t=>(oA l t).2.2.1)from Um (fun x=>x.2.2.1) l]
 have:=wY (fun i=>(oA l i).2.2.1) t (l.length - t)
 rw[show t+(l.length - t)=l.length by omega]at this
 omega
theorem oK(t:Nat)(ht:t<l.length):1≤(oA l t).2.2.1∧(oA l t).2.2.1≤1073741824:=(MG h t ht).2.2
theorem aew(t:Nat)(ht:t<l.length):(oA l t).2.2.1≤bM l t:=by
 rw[all_eq h t (by omega)]
 obtain⟨m,hm⟩:∃ m,l.length - t=1+m:=⟨l.length - t - 1,by omega⟩
 rw[hm,wY]
 have h1:sumTo 1 (fun i=>(oA l (t+i)).2.2.1)=(oA l t).2.2.1:=by simp[sumTo]
 have h2:=l9 1073741824 (fun i=>(oA l (t+(1+i))).2.2.1) m fun q hq=>by have:=oK h (t+(1+q)) (by omega);omega
 rw[h1];omega
include hn in
theorem qN(t:Nat)(ht:t≤l.length):0≤bM l t∧bM l t≤107374182400:=by
 rw[all_eq h t ht]
 have h2:=l9 1073741824 (fun i=>(oA l (t+i)).2.2.1) (l.length - t) fun q hq=>by have:=oK h (t+q) (by omega);omega
 omega
theorem xI(t:Nat)(ht:t<l.length):0≤(oA l t).2.1∧(oA l t).2.1≤1125899906842624:=⟨(MG h t ht).1,(MG h t ht).2.1⟩
include ha in
theorem mg:∀ t,t≤l.length→(∀ s,s<t→jr l a s)→0≤aU l a t∧aU l a t≤a:=by
 intro t
 induction t with
 |zero=>intro _ _;unfold aU;simp[sumTo];exact ha.1
 |succ t ih=>
  intro ht hs
  obtain⟨h1,h2⟩:=ih (by omega) fun s hs'=>hs s (by omega)
  have hf:=hs t (by omega)
  have hw:=oK h t (by omega)
  have hA:=aew h t (by omega)
  have hW:=xI h t (by omega)
  have e:aU l a (t+1)=aU l a t - (oA l t).2.1:=by unfold aU;simp only[sumTo];omega
  unfold jr at hf
  have h3:(oA l t).2.1*(oA l t).2.2.1≤aU l a t*(oA l t).2.2.1:=Int.le_trans (Int.mul_le_mul_of_nonneg_left hA hW.1) hf
  have h4:=Int.le_of_mul_le_mul_right h3 (by omega)
  omega
theorem qO(p:Nat)(hp:p<l.length):1≤(aQ l p).2.2.1∧(aQ l p).2.2.1≤1073741824∧0≤(aQ l p).2.1∧(aQ l p).2.1≤1125899906842624:=by
 have:=h.1 _ (rJ hp)
 unfold kG at this
 omega
theorem Em(T p:Nat)(hp:p<l.length)(hr:T≤aN l p):(aQ l p).2.2.1≤bM l T:=by
 rw[all_eq h T (by have:=nM hp;omega)]
 obtain⟨i,hi⟩:∃ i,aN l p=T+i:=⟨aN l p - T,by omega⟩
 have hrl:=nM hp
 obtain⟨m,hm⟩:∃ m,l.length - T=i+(1+m):=⟨l.length - T - i - 1,by omega⟩
 rw[hm,wY,wY]
 have h1:sumTo 1 (fun j=>(oA l (T+(i+j))).2.2.1)=(aQ l p).2.2.1:=by
  simp only[sumTo,Nat.add_zero]
  rw[←hi,show oA l (aN l p)=aQ l p from vH hp];omega
 have h2:=l9 1073741824 (fun j=>(oA l (T+j)).2.2.1) i fun q hq=>by have:=oK h (T+q) (by omega);omega
 have h3:=l9 1073741824 (fun j=>(oA l (T+(i+(1+j)))).2.2.1) m fun q hq=>by have:=oK h (T+(i+(1+q))) (by omega);omega
 omega
include hn ha in
theorem rV(T p:Nat)(hT:jd l a T)(hp:p<l.length)(hr:T≤aN l p):0≤gJ l a T p∧gJ l a T p≤a:=by
 obtain⟨h1,h2⟩:=mg h ha T hT.1 hT.2.1
 have hw:=qO h p hp
 have hA:=Em h T p hp hr
 have hA2:=qN h hn T hT.1
 unfold gJ
 refine⟨Int.ediv_nonneg (Int.mul_nonneg h1 (by omega)) (by omega), ?_⟩
 refine Int.le_trans (Int.ediv_le_of_le_mul (by omega) ?_) h2
 exact Int.mul_le_mul_of_nonneg_left hA h1
include hn ha in
theorem adA(T:Nat)(hT:jd l a T): -7205759403792793600≤leftA l a T∧leftA l a T≤72057594037927936:=by
 obtain⟨h1,h2⟩:=mg h ha T hT.1 hT.2.1
 have h3:=l9 72057594037927936 (fun p=>if aN l p<T then 0 else gJ l a T p) l.length fun q hq=>by
  by_cases hr:aN l q<T
  ·rw[if_pos hr];omega
  ·rw[if_neg hr];have:=rV h hn ha T q hT hq (by omega);omega
 unfold leftA
 omega
include hn ha in
theorem Oi(T:Nat)(hT:jd l a T):∀ i, -7205759403792793600≤fJ l a T i∧fJ l a T i≤72057594037927936
 |0=>adA h hn ha T hT
 |i+1=>by
  have:=Oi T hT i
  simp only[fJ]
  split <;>omega
omit h in
theorem aed(T:Nat):∀ i,fJ l a T i≤0→∀ j,i≤j→fJ l a T j=fJ l a T i:=by
 intro i hi j hij
 obtain⟨d,rfl⟩:∃ d,j=i+d:=⟨j - i,by omega⟩
 induction d with
 |zero=>rfl
 |succ d ih=>
  have:=ih (by omega)
  rw[←Nat.add_assoc]
  simp only[fJ]
  rw[this,if_neg (by omega)]
end
end Go.Rv
