/- Plain facts: fill0. -/
import Derived.Test.YtmgahpicfjpjaaaGreatSM22
set_option linter.unusedVariables false
set_option linter.unusedSimpArgs false
set_option linter.unusedSectionVars false
namespace Go.Rv
abbrev aQ(l:List aP)(p:Nat):aP:=l.getD p (0,0,0,())
def aK(l:List aP)(p:Nat):Nat:=(dh l).idxOf (aQ l p)
theorem rD{l:List aP}{p:Nat}(hp:p<l.length):aQ l p∈l:=by
 simp only[aQ,List.getD_eq_getElem?_getD,List.getElem?_eq_getElem hp,Option.getD_some];exact List.getElem_mem hp
theorem jA{l:List aP}{p:Nat}(hp:p<l.length):aQ l p=l[p]:=by
 simp[aQ,List.getD_eq_getElem?_getD,hp]
theorem Em{l:List aP}(h:gZ l):l.Nodup:=by
 rw[List.nodup_iff_pairwise_ne]
 exact h.2.1.imp fun hab e=>hab (by rw[e])
theorem xh(l:List aP):(dh l).Perm l:=List.mergeSort_perm _ _
theorem iI(l:List aP):(dh l).length=l.length:=(xh l).length_eq
theorem UF{l:List aP}(h:gZ l):(dh l).Nodup:=(xh l).nodup_iff.2 (Em h)
theorem NG{l:List aP}(h:gZ l)(t:Nat)(ht:t<l.length):jX (aQ (dh l) t):=
 h.1 _ ((xh l).mem_iff.1 (rD (by rw[iI];exact ht)))
theorem nJ{l:List aP}{p:Nat}(hp:p<l.length):aK l p<l.length:=by
 rw[←iI];exact List.idxOf_lt_length_iff.2 ((xh l).mem_iff.2 (rD hp))
theorem ve{l:List aP}{p:Nat}(hp:p<l.length):aQ (dh l) (aK l p)=aQ l p:=by
 have h:=nJ hp
 rw[←iI]at h
 rw[jA h]
 exact List.getElem_idxOf h
theorem rO{l:List aP}(h:gZ l){p q:Nat}(hp:p<l.length)(hq:q<l.length)(e:aK l p=aK l q):p=q:=by
 have:=(ve hp).symm.trans ((congrArg (aQ (dh l)) e).trans (ve hq))
 rw[jA hp,jA hq]at this
 exact(List.getElem_inj (Em h)).1 this
theorem Fh{l:List aP}(h:gZ l){t:Nat}(ht:t<l.length):∃ p,p<l.length∧aK l p=t∧aQ l p=aQ (dh l) t:=by
 have hts:t<(dh l).length:=by rw[iI];exact ht
 have hm:aQ (dh l) t∈l:=(xh l).mem_iff.1 (rD hts)
 obtain⟨p,hp,hpe⟩:=List.getElem_of_mem hm
 refine⟨p,hp, ?_,by rw[jA hp,hpe]⟩
 unfold aK
 rw[jA hp,hpe,jA hts]
 exact(UF h).idxOf_getElem t hts
theorem ad8{l:List aP}(h:gZ l):(dh l).Pairwise fun a b=>iw b a=false:=by
 have e:((l.attach).mergeSort fun x y=> !iw y.1 x.1).map (·.1)=dh l:=by
  refine(List.map_mergeSort (r:=fun x y:kS l=> !iw y.1 x.1) (s:=fun a b=> !iw b a) (f:=fun x:kS l=>x.1) (fun a _ b _=>rfl)).trans ?_
  show((l.attach).map Subtype.val).mergeSort _=_
  rw[List.attach_map_subtype_val]
  rfl
 rw[←e,List.pairwise_map]
 refine(List.pairwise_mergeSort (le:=fun x y:kS l=> !iw y.1 x.1) ?_ ?_ _).imp fun hab=>by simpa using hab
 ·intro a b c h1 h2
  simp only[Bool.not_eq_true']at h1 h2 ⊢
  exact Us (h.1 _ c.2) (h.1 _ b.2) (h.1 _ a.2) h2 h1
 ·intro a b
  simp only[Bool.or_eq_true,Bool.not_eq_true']
  by_cases hab:iw b.1 a.1=true
  ·right
   rw[xI]at hab
   rw[Af]
   omega
  ·left;simpa using hab
theorem acD{a b:aP}(h:iw b a=false)(hne:a.1≠b.1):iw a b=true:=by
 rw[Af]at h
 rw[xI]
 omega
theorem OM{l:List aP}(h:gZ l){p q:Nat}(hp:p<l.length)(hq:q<l.length)(e:aK l p<aK l q):iw (aQ l p) (aQ l q)=true:=by
 have h1:=List.pairwise_iff_getElem.1 (ad8 h) (aK l p) (aK l q) (by rw[iI];exact nJ hp) (by rw[iI];exact nJ hq) e
 rw[←jA, ←jA,ve hp,ve hq]at h1
 refine acD h1 fun hid=> ?_
 have:=WZ h.2.1 (rD hp) (rD hq) hid
 rw[jA hp,jA hq]at this
 have:=(List.getElem_inj (Em h)).1 this
 subst this
 omega
theorem afF{l:List aP}(h:gZ l){p q:Nat}(hp:p<l.length)(hq:q<l.length):oD (aQ l p) (aQ l q)<0↔aK l p<aK l q:=by
 constructor
 ·intro ho
  refine Nat.lt_of_not_le fun hle=> ?_
  rcases Nat.lt_or_eq_of_le hle with hlt |heq
  ·have h2:=OM h hq hp hlt
   have h1:iw (aQ l p) (aQ l q)=true:=by unfold iw;exact decide_eq_true ho
   rw[xI]at h1 h2
   omega
  ·have:=rO h hq hp heq
   subst this
   rw[VB]at ho
   omega
 ·intro hlt
  have:=OM h hp hq hlt
  unfold iw at this
  exact of_decide_eq_true this
def sF(f:aP→Int)(l:List aP):Int:=(l.map f).sum
theorem adB{f:aP→Int}{l l':List aP}(h:l.Perm l'):sF f l=sF f l':=by
 induction h with
 |nil=>rfl
 |cons x _ ih=>simp only[sF,List.map_cons,List.sum_cons]at ih ⊢;rw[ih]
 |swap x y _=>simp only[sF,List.map_cons,List.sum_cons];omega
 |trans _ _ ih1 ih2=>rw[ih1,ih2]
theorem Uc(f:aP→Int)(l:List aP):sumTo l.length (fun i=>f (aQ l i))=sF f l:=by
 have key:∀ k,k≤l.length→sumTo k (fun i=>f (aQ l i))=sF f (l.take k):=by
  intro k
  induction k with
  |zero=>intro _;simp[sumTo,sF]
  |succ k ih=>
   intro hk
   have hk':k<l.length:=hk
   simp only[sumTo]
   rw[ih (by omega),List.take_add_one,List.getElem?_eq_getElem hk',jA hk']
   simp only[sF,List.map_append,List.sum_append,Option.toList,List.map_cons,List.map_nil,List.sum_cons,List.sum_nil,Int.add_zero]
 rw[key _ (Nat.le_refl _),List.take_length]
theorem wQ(f:Nat→Int)(t:Nat):∀ m,sumTo (t+m) f=sumTo t f+sumTo m (fun i=>f (t+i))
 |0=>by simp[sumTo]
 |m+1=>by
  rw[←Nat.add_assoc]
  simp only[sumTo]
  rw[wQ f t m];omega
theorem UE(f:aP→Int)(l:List aP):sumTo l.length (fun i=>f (aQ l i))=sumTo l.length (fun i=>f (aQ (dh l) i)):=by
 rw[Uc, ←adB (xh l), ←Uc,iI]
theorem ad7(l:List aP)(h:gZ l)(g:Nat→Int):sumTo l.length (fun p=>g (aK l p))=sumTo l.length g:=by
 have h1:=UE (fun a=>g ((dh l).idxOf a)) l
 refine Eq.trans h1 (sumTo_congr _ _ _ fun t ht=> ?_)
 have hts:t<(dh l).length:=by rw[iI];exact ht
 show g ((dh l).idxOf (aQ (dh l) t))=g t
 rw[jA hts,(UF h).idxOf_getElem t hts]
def rg{α:Type}(n:Nat)(f:Nat→α):List (α×Unit):=(List.range n).map fun p=>(f p,())
theorem iU{α:Type}(n:Nat)(f:Nat→α):(rg n f).length=n:=by simp[rg]
theorem lV{α:Type}(n:Nat)(f:Nat→α)(z:α×Unit)(p:Nat)(hp:p<n):(rg n f).getD p z=(f p,()):=by
 simp[rg,List.getD_eq_getElem?_getD,hp]
theorem qF{α:Type}(n:Nat)(f:Nat→α)(q:Nat)(y:α):(rg n f).set q (y,())=rg n fun p=>if p=q then y else f p:=by
 apply List.ext_getElem
 ·simp[rg]
 ·intro i h1 h2
  simp only[rg,List.getElem_set,List.getElem_map,List.getElem_range]
  by_cases hq:q=i
  ·rw[if_pos hq,if_pos hq.symm]
  ·rw[if_neg hq,if_neg (Ne.symm hq)]
theorem eX{α:Type}(n:Nat)(f g:Nat→α)(h:∀ p,p<n→f p=g p):rg n f=rg n g:=by
 apply List.ext_getElem
 ·simp[rg]
 ·intro i h1 h2
  simp only[rg,List.getElem_map,List.getElem_range]
  rw[h i (by simpa [rg]using h1)]
theorem qj{α:Type}(n:Nat)(c:α):List.replicate n (c,())=rg n fun _=>c:=by
 apply List.ext_getElem
 ·simp[rg]
 ·intro i h1 h2;simp[rg]
section
variable (l:List aP) (a:Int)
abbrev oA(t:Nat):aP:=aQ (dh l) t
def aV(t:Nat):Int:=a - sumTo t fun s=>(oA l s).2.1
def bJ(t:Nat):Int:=sumTo l.length (fun p=>(aQ l p).2.2.1) - sumTo t fun s=>(oA l s).2.2.1
def je(t:Nat):Prop:=(oA l t).2.1*bJ l t≤aV l a t*(oA l t).2.2.1
def iV(T:Nat):Prop:=T≤l.length∧(∀ t,t<T→je l a t)∧(T=l.length∨¬ je l a T)
theorem Wi:∃ T,iV l a T:=by
 have key:∀ d t,t≤l.length→l.length - t=d→(∀ s,s<t→je l a s)→∃ T,iV l a T:=by
  intro d
  induction d with
  |zero=>intro t ht hd hs;exact⟨t,ht,hs,Or.inl (by omega)⟩
  |succ d ih=>
   intro t ht hd hs
   by_cases hf:je l a t
   ·refine ih (t+1) (by omega) (by omega) fun s hs'=> ?_
    by_cases e:s=t
    ·subst e;exact hf
    ·exact hs s (by omega)
   ·exact⟨t,ht,hs,Or.inr hf⟩
 exact key _ 0 (Nat.zero_le _) rfl (by intro s hs;omega)
def fZ(T p:Nat):Int:=aV l a T*(aQ l p).2.2.1 / bJ l T
def fB(T p:Nat):Int:=if aK l p<T then(aQ l p).2.1 else fZ l a T p
def leftA(T:Nat):Int:=aV l a T - sumTo l.length fun p=>if aK l p<T then 0 else fZ l a T p
def fE(T:Nat):Nat→Int
 |0=>leftA l a T
 |i+1=>if T≤aK l i∧0<fE T i then fE T i - 1 else fE T i
def fO(T p:Nat):Int:=if T≤aK l p∧0<fE l a T p then fB l a T p+1 else fB l a T p
end
section
variable {l:List aP} {a:Int} (h:gZ l) (hn:l.length≤100) (ha:0≤a∧a≤72057594037927936)
include h
theorem all_eq(t:Nat)(ht:t≤l.length):bJ l t=sumTo (l.length - t) fun i=>(oA l (t+i)).2.2.1:=by
 unfold bJ
 rw[show sumTo l.length (fun p=>(aQ l p).2.2.1)=sumTo l.length (fun t=>(oA l t).2.2.1)from UE (fun x=>x.2.2.1) l]
 have:=wQ (fun i=>(oA l i).2.2.1) t (l.length - t)
 rw[show t+(l.length - t)=l.length by omega]at this
 omega
theorem oC(t:Nat)(ht:t<l.length):1≤(oA l t).2.2.1∧(oA l t).2.2.1≤1073741824:=(NG h t ht).2.2
theorem af7(t:Nat)(ht:t<l.length):(oA l t).2.2.1≤bJ l t:=by
 rw[all_eq h t (by omega)]
 obtain⟨m,hm⟩:∃ m,l.length - t=1+m:=⟨l.length - t - 1,by omega⟩
 rw[hm,wQ]
 have h1:sumTo 1 (fun i=>(oA l (t+i)).2.2.1)=(oA l t).2.2.1:=by simp[sumTo]
 have h2:=lT 1073741824 (fun i=>(oA l (t+(1+i))).2.2.1) m fun q hq=>by have:=oC h (t+(1+q)) (by omega);omega
 rw[h1];omega
include hn in
theorem qJ(t:Nat)(ht:t≤l.length):0≤bJ l t∧bJ l t≤107374182400:=by
 rw[all_eq h t ht]
 have h2:=lT 1073741824 (fun i=>(oA l (t+i)).2.2.1) (l.length - t) fun q hq=>by have:=oC h (t+q) (by omega);omega
 omega
theorem xB(t:Nat)(ht:t<l.length):0≤(oA l t).2.1∧(oA l t).2.1≤1125899906842624:=⟨(NG h t ht).1,(NG h t ht).2.1⟩
include ha in
theorem lU:∀ t,t≤l.length→(∀ s,s<t→je l a s)→0≤aV l a t∧aV l a t≤a:=by
 intro t
 induction t with
 |zero=>intro _ _;unfold aV;simp[sumTo];exact ha.1
 |succ t ih=>
  intro ht hs
  obtain⟨h1,h2⟩:=ih (by omega) fun s hs'=>hs s (by omega)
  have hf:=hs t (by omega)
  have hw:=oC h t (by omega)
  have hA:=af7 h t (by omega)
  have hW:=xB h t (by omega)
  have e:aV l a (t+1)=aV l a t - (oA l t).2.1:=by unfold aV;simp only[sumTo];omega
  unfold je at hf
  have h3:(oA l t).2.1*(oA l t).2.2.1≤aV l a t*(oA l t).2.2.1:=Int.le_trans (Int.mul_le_mul_of_nonneg_left hA hW.1) hf
  have h4:=Int.le_of_mul_le_mul_right h3 (by omega)
  omega
theorem qK(p:Nat)(hp:p<l.length):1≤(aQ l p).2.2.1∧(aQ l p).2.2.1≤1073741824∧0≤(aQ l p).2.1∧(aQ l p).2.1≤1125899906842624:=by
 have:=h.1 _ (rD hp)
 unfold jX at this
 omega
theorem Ey(T p:Nat)(hp:p<l.length)(hr:T≤aK l p):(aQ l p).2.2.1≤bJ l T:=by
 rw[all_eq h T (by have:=nJ hp;omega)]
 obtain⟨i,hi⟩:∃ i,aK l p=T+i:=⟨aK l p - T,by omega⟩
 have hrl:=nJ hp
 obtain⟨m,hm⟩:∃ m,l.length - T=i+(1+m):=⟨l.length - T - i - 1,by omega⟩
 rw[hm,wQ,wQ]
 have h1:sumTo 1 (fun j=>(oA l (T+(i+j))).2.2.1)=(aQ l p).2.2.1:=by
  simp only[sumTo,Nat.add_zero]
  rw[←hi,show oA l (aK l p)=aQ l p from ve hp];omega
 have h2:=lT 1073741824 (fun j=>(oA l (T+j)).2.2.1) i fun q hq=>by have:=oC h (T+q) (by omega);omega
 have h3:=lT 1073741824 (fun j=>(oA l (T+(i+(1+j)))).2.2.1) m fun q hq=>by have:=oC h (T+(i+(1+q))) (by omega);omega
 omega
include hn ha in
theorem rM(T p:Nat)(hT:iV l a T)(hp:p<l.length)(hr:T≤aK l p):0≤fZ l a T p∧fZ l a T p≤a:=by
 obtain⟨h1,h2⟩:=lU h ha T hT.1 hT.2.1
 have hw:=qK h p hp
 have hA:=Ey h T p hp hr
 have hA2:=qJ h hn T hT.1
 unfold fZ
 refine⟨Int.ediv_nonneg (Int.mul_nonneg h1 (by omega)) (by omega), ?_⟩
 refine Int.le_trans (Int.ediv_le_of_le_mul (by omega) ?_) h2
 exact Int.mul_le_mul_of_nonneg_left hA h1
include hn ha in
theorem afa(T:Nat)(hT:iV l a T): -7205759403792793600≤leftA l a T∧leftA l a T≤72057594037927936:=by
 obtain⟨h1,h2⟩:=lU h ha T hT.1 hT.2.1
 have h3:=lT 72057594037927936 (fun p=>if aK l p<T then 0 else fZ l a T p) l.length fun q hq=>by
  by_cases hr:aK l q<T
  ·rw[if_pos hr];omega
  ·rw[if_neg hr];have:=rM h hn ha T q hT hq (by omega);omega
 unfold leftA
 omega
include hn ha in
theorem O5(T:Nat)(hT:iV l a T):∀ i, -7205759403792793600≤fE l a T i∧fE l a T i≤72057594037927936
 |0=>afa h hn ha T hT
 |i+1=>by
  have:=O5 T hT i
  simp only[fE]
  split <;>omega
omit h in
theorem afN(T:Nat):∀ i,fE l a T i≤0→∀ j,i≤j→fE l a T j=fE l a T i:=by
 intro i hi j hij
 obtain⟨d,rfl⟩:∃ d,j=i+d:=⟨j - i,by omega⟩
 induction d with
 |zero=>rfl
 |succ d ih=>
  have:=ih (by omega)
  rw[←Nat.add_assoc]
  simp only[fE]
  rw[this,if_neg (by omega)]
end
end Go.Rv
