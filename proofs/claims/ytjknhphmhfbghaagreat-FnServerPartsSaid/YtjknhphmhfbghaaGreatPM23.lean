/- Plain facts: fill0. -/
import Derived.Test.YtjknhphmhfbghaaGreatPM22
set_option linter.unusedVariables false
set_option linter.unusedSimpArgs false
set_option linter.unusedSectionVars false
namespace Go.Rv
abbrev aS(l:List aQ)(p:Nat):aQ:=l.getD p (0,0,0,())
def aK(l:List aQ)(p:Nat):Nat:=(dw l).idxOf (aS l p)
theorem rW{l:List aQ}{p:Nat}(hp:p<l.length):aS l p∈l:=by
 simp only[aS,List.getD_eq_getElem?_getD,List.getElem?_eq_getElem hp,Option.getD_some];exact List.getElem_mem hp
theorem jL{l:List aQ}{p:Nat}(hp:p<l.length):aS l p=l[p]:=by
 simp[aS,List.getD_eq_getElem?_getD,hp]
theorem Et{l:List aQ}(h:iJ l):l.Nodup:=by
 rw[List.nodup_iff_pairwise_ne]
 exact h.2.1.imp fun hab e=>hab (by rw[e])
theorem xO(l:List aQ):(dw l).Perm l:=List.mergeSort_perm _ _
theorem iW(l:List aQ):(dw l).length=l.length:=(xO l).length_eq
theorem Vk{l:List aQ}(h:iJ l):(dw l).Nodup:=(xO l).nodup_iff.2 (Et h)
theorem NG{l:List aQ}(h:iJ l)(t:Nat)(ht:t<l.length):kJ (aS (dw l) t):=
 h.1 _ ((xO l).mem_iff.1 (rW (by rw[iW];exact ht)))
theorem nS{l:List aQ}{p:Nat}(hp:p<l.length):aK l p<l.length:=by
 rw[←iW];exact List.idxOf_lt_length_iff.2 ((xO l).mem_iff.2 (rW hp))
theorem vO{l:List aQ}{p:Nat}(hp:p<l.length):aS (dw l) (aK l p)=aS l p:=by
 have h:=nS hp
 rw[←iW]at h
 rw[jL h]
 exact List.getElem_idxOf h
theorem sH{l:List aQ}(h:iJ l){p q:Nat}(hp:p<l.length)(hq:q<l.length)(e:aK l p=aK l q):p=q:=by
 have:=(vO hp).symm.trans ((congrArg (aS (dw l)) e).trans (vO hq))
 rw[jL hp,jL hq]at this
 exact(List.getElem_inj (Et h)).1 this
theorem FC{l:List aQ}(h:iJ l){t:Nat}(ht:t<l.length):∃ p,p<l.length∧aK l p=t∧aS l p=aS (dw l) t:=by
 have hts:t<(dw l).length:=by rw[iW];exact ht
 have hm:aS (dw l) t∈l:=(xO l).mem_iff.1 (rW hts)
 obtain⟨p,hp,hpe⟩:=List.getElem_of_mem hm
 refine⟨p,hp, ?_,by rw[jL hp,hpe]⟩
 unfold aK
 rw[jL hp,hpe,jL hts]
 exact(Vk h).idxOf_getElem t hts
theorem adu{l:List aQ}(h:iJ l):(dw l).Pairwise fun a b=>iP b a=false:=by
 have e:((l.attach).mergeSort fun x y=> !iP y.1 x.1).map (·.1)=dw l:=by
  refine(List.map_mergeSort (r:=fun x y:lD l=> !iP y.1 x.1) (s:=fun a b=> !iP b a) (f:=fun x:lD l=>x.1) (fun a _ b _=>rfl)).trans ?_
  show((l.attach).map Subtype.val).mergeSort _=_
  rw[List.attach_map_subtype_val]
  rfl
 rw[←e,List.pairwise_map]
 refine(List.pairwise_mergeSort (le:=fun x y:lD l=> !iP y.1 x.1) ?_ ?_ _).imp fun hab=>by simpa using hab
 ·intro a b c h1 h2
  simp only[Bool.not_eq_true']at h1 h2 ⊢
  exact UW (h.1 _ c.2) (h.1 _ b.2) (h.1 _ a.2) h2 h1
 ·intro a b
  simp only[Bool.or_eq_true,Bool.not_eq_true']
  by_cases hab:iP b.1 a.1=true
  ·right
   rw[yc]at hab
   rw[AB]
   omega
  ·left;simpa using hab
theorem acd{a b:aQ}(h:iP b a=false)(hne:a.1≠b.1):iP a b=true:=by
 rw[AB]at h
 rw[yc]
 omega
theorem OO{l:List aQ}(h:iJ l){p q:Nat}(hp:p<l.length)(hq:q<l.length)(e:aK l p<aK l q):iP (aS l p) (aS l q)=true:=by
 have h1:=List.pairwise_iff_getElem.1 (adu h) (aK l p) (aK l q) (by rw[iW];exact nS hp) (by rw[iW];exact nS hq) e
 rw[←jL, ←jL,vO hp,vO hq]at h1
 refine acd h1 fun hid=> ?_
 have:=Xv h.2.1 (rW hp) (rW hq) hid
 rw[jL hp,jL hq]at this
 have:=(List.getElem_inj (Et h)).1 this
 subst this
 omega
theorem ae0{l:List aQ}(h:iJ l){p q:Nat}(hp:p<l.length)(hq:q<l.length):oU (aS l p) (aS l q)<0↔aK l p<aK l q:=by
 constructor
 ·intro ho
  refine Nat.lt_of_not_le fun hle=> ?_
  rcases Nat.lt_or_eq_of_le hle with hlt |heq
  ·have h2:=OO h hq hp hlt
   have h1:iP (aS l p) (aS l q)=true:=by unfold iP;exact decide_eq_true ho
   rw[yc]at h1 h2
   omega
  ·have:=sH h hq hp heq
   subst this
   rw[V6]at ho
   omega
 ·intro hlt
  have:=OO h hp hq hlt
  unfold iP at this
  exact of_decide_eq_true this
def tq(f:aQ→Int)(l:List aQ):Int:=(l.map f).sum
theorem ac4{f:aQ→Int}{l l':List aQ}(h:l.Perm l'):tq f l=tq f l':=by
 induction h with
 |nil=>rfl
 |cons x _ ih=>simp only[tq,List.map_cons,List.sum_cons]at ih ⊢;rw[ih]
 |swap x y _=>simp only[tq,List.map_cons,List.sum_cons];omega
 |trans _ _ ih1 ih2=>rw[ih1,ih2]
theorem UD(f:aQ→Int)(l:List aQ):sumTo l.length (fun i=>f (aS l i))=tq f l:=by
 have key:∀ k,k≤l.length→sumTo k (fun i=>f (aS l i))=tq f (l.take k):=by
  intro k
  induction k with
  |zero=>intro _;simp[sumTo,tq]
  |succ k ih=>
   intro hk
   have hk':k<l.length:=hk
   simp only[sumTo]
   rw[ih (by omega),List.take_add_one,List.getElem?_eq_getElem hk',jL hk']
   simp only[tq,List.map_append,List.sum_append,Option.toList,List.map_cons,List.map_nil,List.sum_cons,List.sum_nil,Int.add_zero]
 rw[key _ (Nat.le_refl _),List.take_length]
theorem xB(f:Nat→Int)(t:Nat):∀ m,sumTo (t+m) f=sumTo t f+sumTo m (fun i=>f (t+i))
 |0=>by simp[sumTo]
 |m+1=>by
  rw[←Nat.add_assoc]
  simp only[sumTo]
  rw[xB f t m];omega
theorem Vj(f:aQ→Int)(l:List aQ):sumTo l.length (fun i=>f (aS l i))=sumTo l.length (fun i=>f (aS (dw l) i)):=by
 rw[UD, ←ac4 (xO l), ←UD,iW]
theorem adt(l:List aQ)(h:iJ l)(g:Nat→Int):sumTo l.length (fun p=>g (aK l p))=sumTo l.length g:=by
 have h1:=Vj (fun a=>g ((dw l).idxOf a)) l
 refine Eq.trans h1 (sumTo_congr _ _ _ fun t ht=> ?_)
 have hts:t<(dw l).length:=by rw[iW];exact ht
 show g ((dw l).idxOf (aS (dw l) t))=g t
 rw[jL hts,(Vk h).idxOf_getElem t hts]
def rg{α:Type}(n:Nat)(f:Nat→α):List (α×Unit):=(List.range n).map fun p=>(f p,())
theorem jg{α:Type}(n:Nat)(f:Nat→α):(rg n f).length=n:=by simp[rg]
theorem mJ{α:Type}(n:Nat)(f:Nat→α)(z:α×Unit)(p:Nat)(hp:p<n):(rg n f).getD p z=(f p,()):=by
 simp[rg,List.getD_eq_getElem?_getD,hp]
theorem qR{α:Type}(n:Nat)(f:Nat→α)(q:Nat)(y:α):(rg n f).set q (y,())=rg n fun p=>if p=q then y else f p:=by
 apply List.ext_getElem
 ·simp[rg]
 ·intro i h1 h2
  simp only[rg,List.getElem_set,List.getElem_map,List.getElem_range]
  by_cases hq:q=i
  ·rw[if_pos hq,if_pos hq.symm]
  ·rw[if_neg hq,if_neg (Ne.symm hq)]
theorem fD{α:Type}(n:Nat)(f g:Nat→α)(h:∀ p,p<n→f p=g p):rg n f=rg n g:=by
 apply List.ext_getElem
 ·simp[rg]
 ·intro i h1 h2
  simp only[rg,List.getElem_map,List.getElem_range]
  rw[h i (by simpa [rg]using h1)]
theorem qH{α:Type}(n:Nat)(c:α):List.replicate n (c,())=rg n fun _=>c:=by
 apply List.ext_getElem
 ·simp[rg]
 ·intro i h1 h2;simp[rg]
section
variable (l:List aQ) (a:Int)
abbrev oA(t:Nat):aQ:=aS (dw l) t
def aV(t:Nat):Int:=a - sumTo t fun s=>(oA l s).2.1
def bM(t:Nat):Int:=sumTo l.length (fun p=>(aS l p).2.2.1) - sumTo t fun s=>(oA l s).2.2.1
def jw(t:Nat):Prop:=(oA l t).2.1*bM l t≤aV l a t*(oA l t).2.2.1
def jh(T:Nat):Prop:=T≤l.length∧(∀ t,t<T→jw l a t)∧(T=l.length∨¬ jw l a T)
theorem WQ:∃ T,jh l a T:=by
 have key:∀ d t,t≤l.length→l.length - t=d→(∀ s,s<t→jw l a s)→∃ T,jh l a T:=by
  intro d
  induction d with
  |zero=>intro t ht hd hs;exact⟨t,ht,hs,Or.inl (by omega)⟩
  |succ d ih=>
   intro t ht hd hs
   by_cases hf:jw l a t
   ·refine ih (t+1) (by omega) (by omega) fun s hs'=> ?_
    by_cases e:s=t
    ·subst e;exact hf
    ·exact hs s (by omega)
   ·exact⟨t,ht,hs,Or.inr hf⟩
 exact key _ 0 (Nat.zero_le _) rfl (by intro s hs;omega)
def gQ(T p:Nat):Int:=aV l a T*(aS l p).2.2.1 / bM l T
def fG(T p:Nat):Int:=if aK l p<T then(aS l p).2.1 else gQ l a T p
def leftA(T:Nat):Int:=aV l a T - sumTo l.length fun p=>if aK l p<T then 0 else gQ l a T p
def fK(T:Nat):Nat→Int
 |0=>leftA l a T
 |i+1=>if T≤aK l i∧0<fK T i then fK T i - 1 else fK T i
def gB(T p:Nat):Int:=if T≤aK l p∧0<fK l a T p then fG l a T p+1 else fG l a T p
end
section
variable {l:List aQ} {a:Int} (h:iJ l) (hn:l.length≤100) (ha:0≤a∧a≤72057594037927936)
include h
theorem all_eq(t:Nat)(ht:t≤l.length):bM l t=sumTo (l.length - t) fun i=>(oA l (t+i)).2.2.1:=by
 unfold bM
 rw[show sumTo l.length (fun p=>(aS l p).2.2.1)=sumTo l.length (fun t=>(oA l t).2.2.1)from Vj (fun x=>x.2.2.1) l]
 have:=xB (fun i=>(oA l i).2.2.1) t (l.length - t)
 rw[show t+(l.length - t)=l.length by omega]at this
 omega
theorem oQ(t:Nat)(ht:t<l.length):1≤(oA l t).2.2.1∧(oA l t).2.2.1≤1073741824:=(NG h t ht).2.2
theorem afo(t:Nat)(ht:t<l.length):(oA l t).2.2.1≤bM l t:=by
 rw[all_eq h t (by omega)]
 obtain⟨m,hm⟩:∃ m,l.length - t=1+m:=⟨l.length - t - 1,by omega⟩
 rw[hm,xB]
 have h1:sumTo 1 (fun i=>(oA l (t+i)).2.2.1)=(oA l t).2.2.1:=by simp[sumTo]
 have h2:=mF 1073741824 (fun i=>(oA l (t+(1+i))).2.2.1) m fun q hq=>by have:=oQ h (t+(1+q)) (by omega);omega
 rw[h1];omega
include hn in
theorem qX(t:Nat)(ht:t≤l.length):0≤bM l t∧bM l t≤107374182400:=by
 rw[all_eq h t ht]
 have h2:=mF 1073741824 (fun i=>(oA l (t+i)).2.2.1) (l.length - t) fun q hq=>by have:=oQ h (t+q) (by omega);omega
 omega
theorem xU(t:Nat)(ht:t<l.length):0≤(oA l t).2.1∧(oA l t).2.1≤1125899906842624:=⟨(NG h t ht).1,(NG h t ht).2.1⟩
include ha in
theorem mG:∀ t,t≤l.length→(∀ s,s<t→jw l a s)→0≤aV l a t∧aV l a t≤a:=by
 intro t
 induction t with
 |zero=>intro _ _;unfold aV;simp[sumTo];exact ha.1
 |succ t ih=>
  intro ht hs
  obtain⟨h1,h2⟩:=ih (by omega) fun s hs'=>hs s (by omega)
  have hf:=hs t (by omega)
  have hw:=oQ h t (by omega)
  have hA:=afo h t (by omega)
  have hW:=xU h t (by omega)
  have e:aV l a (t+1)=aV l a t - (oA l t).2.1:=by unfold aV;simp only[sumTo];omega
  unfold jw at hf
  have h3:(oA l t).2.1*(oA l t).2.2.1≤aV l a t*(oA l t).2.2.1:=Int.le_trans (Int.mul_le_mul_of_nonneg_left hA hW.1) hf
  have h4:=Int.le_of_mul_le_mul_right h3 (by omega)
  omega
theorem qY(p:Nat)(hp:p<l.length):1≤(aS l p).2.2.1∧(aS l p).2.2.1≤1073741824∧0≤(aS l p).2.1∧(aS l p).2.1≤1125899906842624:=by
 have:=h.1 _ (rW hp)
 unfold kJ at this
 omega
theorem EG(T p:Nat)(hp:p<l.length)(hr:T≤aK l p):(aS l p).2.2.1≤bM l T:=by
 rw[all_eq h T (by have:=nS hp;omega)]
 obtain⟨i,hi⟩:∃ i,aK l p=T+i:=⟨aK l p - T,by omega⟩
 have hrl:=nS hp
 obtain⟨m,hm⟩:∃ m,l.length - T=i+(1+m):=⟨l.length - T - i - 1,by omega⟩
 rw[hm,xB,xB]
 have h1:sumTo 1 (fun j=>(oA l (T+(i+j))).2.2.1)=(aS l p).2.2.1:=by
  simp only[sumTo,Nat.add_zero]
  rw[←hi,show oA l (aK l p)=aS l p from vO hp];omega
 have h2:=mF 1073741824 (fun j=>(oA l (T+j)).2.2.1) i fun q hq=>by have:=oQ h (T+q) (by omega);omega
 have h3:=mF 1073741824 (fun j=>(oA l (T+(i+(1+j)))).2.2.1) m fun q hq=>by have:=oQ h (T+(i+(1+q))) (by omega);omega
 omega
include hn ha in
theorem sF(T p:Nat)(hT:jh l a T)(hp:p<l.length)(hr:T≤aK l p):0≤gQ l a T p∧gQ l a T p≤a:=by
 obtain⟨h1,h2⟩:=mG h ha T hT.1 hT.2.1
 have hw:=qY h p hp
 have hA:=EG h T p hp hr
 have hA2:=qX h hn T hT.1
 unfold gQ
 refine⟨Int.ediv_nonneg (Int.mul_nonneg h1 (by omega)) (by omega), ?_⟩
 refine Int.le_trans (Int.ediv_le_of_le_mul (by omega) ?_) h2
 exact Int.mul_le_mul_of_nonneg_left hA h1
include hn ha in
theorem aes(T:Nat)(hT:jh l a T): -7205759403792793600≤leftA l a T∧leftA l a T≤72057594037927936:=by
 obtain⟨h1,h2⟩:=mG h ha T hT.1 hT.2.1
 have h3:=mF 72057594037927936 (fun p=>if aK l p<T then 0 else gQ l a T p) l.length fun q hq=>by
  by_cases hr:aK l q<T
  ·rw[if_pos hr];omega
  ·rw[if_neg hr];have:=sF h hn ha T q hT hq (by omega);omega
 unfold leftA
 omega
include hn ha in
theorem O6(T:Nat)(hT:jh l a T):∀ i, -7205759403792793600≤fK l a T i∧fK l a T i≤72057594037927936
 |0=>aes h hn ha T hT
 |i+1=>by
  have:=O6 T hT i
  simp only[fK]
  split <;>omega
omit h in
theorem ae7(T:Nat):∀ i,fK l a T i≤0→∀ j,i≤j→fK l a T j=fK l a T i:=by
 intro i hi j hij
 obtain⟨d,rfl⟩:∃ d,j=i+d:=⟨j - i,by omega⟩
 induction d with
 |zero=>rfl
 |succ d ih=>
  have:=ih (by omega)
  rw[←Nat.add_assoc]
  simp only[fK]
  rw[this,if_neg (by omega)]
end
end Go.Rv
