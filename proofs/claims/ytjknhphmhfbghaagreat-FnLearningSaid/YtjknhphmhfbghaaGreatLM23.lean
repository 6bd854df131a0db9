/- Plain facts: fill0. -/
import Derived.Test.YtjknhphmhfbghaaGreatLM22
set_option linter.unusedVariables false
set_option linter.unusedSimpArgs false
set_option linter.unusedSectionVars false
namespace Go.Rv
abbrev aQ(l:List aP)(p:Nat):aP:=l.getD p (0,0,0,())
def aK(l:List aP)(p:Nat):Nat:=(dh l).idxOf (aQ l p)
theorem rH{l:List aP}{p:Nat}(hp:p<l.length):aQ l p∈l:=by
 simp only[aQ,List.getD_eq_getElem?_getD,List.getElem?_eq_getElem hp,Option.getD_some];exact List.getElem_mem hp
theorem jH{l:List aP}{p:Nat}(hp:p<l.length):aQ l p=l[p]:=by
 simp[aQ,List.getD_eq_getElem?_getD,hp]
theorem DY{l:List aP}(h:iH l):l.Nodup:=by
 rw[List.nodup_iff_pairwise_ne]
 exact h.2.1.imp fun hab e=>hab (by rw[e])
theorem xA(l:List aP):(dh l).Perm l:=List.mergeSort_perm _ _
theorem iT(l:List aP):(dh l).length=l.length:=(xA l).length_eq
theorem TL{l:List aP}(h:iH l):(dh l).Nodup:=(xA l).nodup_iff.2 (DY h)
theorem L6{l:List aP}(h:iH l)(t:Nat)(ht:t<l.length):kF (aQ (dh l) t):=
 h.1 _ ((xA l).mem_iff.1 (rH (by rw[iT];exact ht)))
theorem nK{l:List aP}{p:Nat}(hp:p<l.length):aK l p<l.length:=by
 rw[←iT];exact List.idxOf_lt_length_iff.2 ((xA l).mem_iff.2 (rH hp))
theorem vg{l:List aP}{p:Nat}(hp:p<l.length):aQ (dh l) (aK l p)=aQ l p:=by
 have h:=nK hp
 rw[←iT]at h
 rw[jH h]
 exact List.getElem_idxOf h
theorem rV{l:List aP}(h:iH l){p q:Nat}(hp:p<l.length)(hq:q<l.length)(e:aK l p=aK l q):p=q:=by
 have:=(vg hp).symm.trans ((congrArg (aQ (dh l)) e).trans (vg hq))
 rw[jH hp,jH hq]at this
 exact(List.getElem_inj (DY h)).1 this
theorem EQ{l:List aP}(h:iH l){t:Nat}(ht:t<l.length):∃ p,p<l.length∧aK l p=t∧aQ l p=aQ (dh l) t:=by
 have hts:t<(dh l).length:=by rw[iT];exact ht
 have hm:aQ (dh l) t∈l:=(xA l).mem_iff.1 (rH hts)
 obtain⟨p,hp,hpe⟩:=List.getElem_of_mem hm
 refine⟨p,hp, ?_,by rw[jH hp,hpe]⟩
 unfold aK
 rw[jH hp,hpe,jH hts]
 exact(TL h).idxOf_getElem t hts
theorem acf{l:List aP}(h:iH l):(dh l).Pairwise fun a b=>iL b a=false:=by
 have e:((l.attach).mergeSort fun x y=> !iL y.1 x.1).map (·.1)=dh l:=by
  refine(List.map_mergeSort (r:=fun x y:lu l=> !iL y.1 x.1) (s:=fun a b=> !iL b a) (f:=fun x:lu l=>x.1) (fun a _ b _=>rfl)).trans ?_
  show((l.attach).map Subtype.val).mergeSort _=_
  rw[List.attach_map_subtype_val]
  rfl
 rw[←e,List.pairwise_map]
 refine(List.pairwise_mergeSort (le:=fun x y:lu l=> !iL y.1 x.1) ?_ ?_ _).imp fun hab=>by simpa using hab
 ·intro a b c h1 h2
  simp only[Bool.not_eq_true']at h1 h2 ⊢
  exact Tq (h.1 _ c.2) (h.1 _ b.2) (h.1 _ a.2) h2 h1
 ·intro a b
  simp only[Bool.or_eq_true,Bool.not_eq_true']
  by_cases hab:iL b.1 a.1=true
  ·right
   rw[xM]at hab
   rw[zZ]
   omega
  ·left;simpa using hab
theorem aaW{a b:aP}(h:iL b a=false)(hne:a.1≠b.1):iL a b=true:=by
 rw[zZ]at h
 rw[xM]
 omega
theorem NH{l:List aP}(h:iH l){p q:Nat}(hp:p<l.length)(hq:q<l.length)(e:aK l p<aK l q):iL (aQ l p) (aQ l q)=true:=by
 have h1:=List.pairwise_iff_getElem.1 (acf h) (aK l p) (aK l q) (by rw[iT];exact nK hp) (by rw[iT];exact nK hq) e
 rw[←jH, ←jH,vg hp,vg hq]at h1
 refine aaW h1 fun hid=> ?_
 have:=VY h.2.1 (rH hp) (rH hq) hid
 rw[jH hp,jH hq]at this
 have:=(List.getElem_inj (DY h)).1 this
 subst this
 omega
theorem adM{l:List aP}(h:iH l){p q:Nat}(hp:p<l.length)(hq:q<l.length):oJ (aQ l p) (aQ l q)<0↔aK l p<aK l q:=by
 constructor
 ·intro ho
  refine Nat.lt_of_not_le fun hle=> ?_
  rcases Nat.lt_or_eq_of_le hle with hlt |heq
  ·have h2:=NH h hq hp hlt
   have h1:iL (aQ l p) (aQ l q)=true:=by unfold iL;exact decide_eq_true ho
   rw[xM]at h1 h2
   omega
  ·have:=rV h hq hp heq
   subst this
   rw[UH]at ho
   omega
 ·intro hlt
  have:=NH h hp hq hlt
  unfold iL at this
  exact of_decide_eq_true this
def sJ(f:aP→Int)(l:List aP):Int:=(l.map f).sum
theorem abO{f:aP→Int}{l l':List aP}(h:l.Perm l'):sJ f l=sJ f l':=by
 induction h with
 |nil=>rfl
 |cons x _ ih=>simp only[sJ,List.map_cons,List.sum_cons]at ih ⊢;rw[ih]
 |swap x y _=>simp only[sJ,List.map_cons,List.sum_cons];omega
 |trans _ _ ih1 ih2=>rw[ih1,ih2]
theorem SL(f:aP→Int)(l:List aP):sumTo l.length (fun i=>f (aQ l i))=sJ f l:=by
 have key:∀ k,k≤l.length→sumTo k (fun i=>f (aQ l i))=sJ f (l.take k):=by
  intro k
  induction k with
  |zero=>intro _;simp[sumTo,sJ]
  |succ k ih=>
   intro hk
   have hk':k<l.length:=hk
   simp only[sumTo]
   rw[ih (by omega),List.take_add_one,List.getElem?_eq_getElem hk',jH hk']
   simp only[sJ,List.map_append,List.sum_append,Option.toList,List.map_cons,List.map_nil,List.sum_cons,List.sum_nil,Int.add_zero]
 rw[key _ (Nat.le_refl _),List.take_length]
theorem wV(f:Nat→Int)(t:Nat):∀ m,sumTo (t+m) f=sumTo t f+sumTo m (fun i=>f (t+i))
 |0=>by simp[sumTo]
 |m+1=>by
  rw[←Nat.add_assoc]
  simp only[sumTo]
  rw[wV f t m];omega
theorem TK(f:aP→Int)(l:List aP):sumTo l.length (fun i=>f (aQ l i))=sumTo l.length (fun i=>f (aQ (dh l) i)):=by
 rw[SL, ←abO (xA l), ←SL,iT]
theorem ace(l:List aP)(h:iH l)(g:Nat→Int):sumTo l.length (fun p=>g (aK l p))=sumTo l.length g:=by
 have h1:=TK (fun a=>g ((dh l).idxOf a)) l
 refine Eq.trans h1 (sumTo_congr _ _ _ fun t ht=> ?_)
 have hts:t<(dh l).length:=by rw[iT];exact ht
 show g ((dh l).idxOf (aQ (dh l) t))=g t
 rw[jH hts,(TL h).idxOf_getElem t hts]
def rg{α:Type}(n:Nat)(f:Nat→α):List (α×Unit):=(List.range n).map fun p=>(f p,())
theorem jb{α:Type}(n:Nat)(f:Nat→α):(rg n f).length=n:=by simp[rg]
theorem l9{α:Type}(n:Nat)(f:Nat→α)(z:α×Unit)(p:Nat)(hp:p<n):(rg n f).getD p z=(f p,()):=by
 simp[rg,List.getD_eq_getElem?_getD,hp]
theorem qI{α:Type}(n:Nat)(f:Nat→α)(q:Nat)(y:α):(rg n f).set q (y,())=rg n fun p=>if p=q then y else f p:=by
 apply List.ext_getElem
 ·simp[rg]
 ·intro i h1 h2
  simp only[rg,List.getElem_set,List.getElem_map,List.getElem_range]
  by_cases hq:q=i
  ·rw[if_pos hq,if_pos hq.symm]
  ·rw[if_neg hq,if_neg (Ne.symm hq)]
theorem fC{α:Type}(n:Nat)(f g:Nat→α)(h:∀ p,p<n→f p=g p):rg n f=rg n g:=by
 apply List.ext_getElem
 ·simp[rg]
 ·intro i h1 h2
  simp only[rg,List.getElem_map,List.getElem_range]
  rw[h i (by simpa [rg]using h1)]
theorem qw{α:Type}(n:Nat)(c:α):List.replicate n (c,())=rg n fun _=>c:=by
 apply List.ext_getElem
 ·simp[rg]
 ·intro i h1 h2;simp[rg]
section
variable (l:List aP) (a:Int)
abbrev oA(t:Nat):aP:=aQ (dh l) t
def aU(t:Nat):Int:=a - sumTo t fun s=>(oA l s).2.1
def bK(t:Nat):Int:=sumTo l.length (fun p=>(aQ l p).2.2.1) - sumTo t fun s=>(oA l s).2.2.1
def jo(t:Nat):Prop:=(oA l t).2.1*bK l t≤aU l a t*(oA l t).2.2.1
def jc(T:Nat):Prop:=T≤l.length∧(∀ t,t<T→jo l a t)∧(T=l.length∨¬ jo l a T)
theorem Vq:∃ T,jc l a T:=by
 have key:∀ d t,t≤l.length→l.length - t=d→(∀ s,s<t→jo l a s)→∃ T,jc l a T:=by
  intro d
  induction d with
  |zero=>intro t ht hd hs;exact⟨t,ht,hs,Or.inl (by omega)⟩
  |succ d ih=>
   intro t ht hd hs
   by_cases hf:jo l a t
   ·refine ih (t+1) (by omega) (by omega) fun s hs'=> ?_
    by_cases e:s=t
    ·subst e;exact hf
    ·exact hs s (by omega)
   ·exact⟨t,ht,hs,Or.inr hf⟩
 exact key _ 0 (Nat.zero_le _) rfl (by intro s hs;omega)
def gG(T p:Nat):Int:=aU l a T*(aQ l p).2.2.1 / bK l T
def fF(T p:Nat):Int:=if aK l p<T then(aQ l p).2.1 else gG l a T p
def leftA(T:Nat):Int:=aU l a T - sumTo l.length fun p=>if aK l p<T then 0 else gG l a T p
def fJ(T:Nat):Nat→Int
 |0=>leftA l a T
 |i+1=>if T≤aK l i∧0<fJ T i then fJ T i - 1 else fJ T i
def fU(T p:Nat):Int:=if T≤aK l p∧0<fJ l a T p then fF l a T p+1 else fF l a T p
end
section
variable {l:List aP} {a:Int} (h:iH l) (hn:l.length≤100) (ha:0≤a∧a≤72057594037927936)
include h
theorem all_eq(t:Nat)(ht:t≤l.length):bK l t=sumTo (l.length - t) fun i=>(oA l (t+i)).2.2.1:=by
 unfold bK
 rw[show sumTo l.length (fun p=>(aQ l p).2.2.1)=sumTo l.length (fun t=>(oA l t).2.2.1)from TK (fun x=>x.2.2.1) l]
 have:=wV (fun i=>(oA l i).2.2.1) t (l.length - t)
 rw[show t+(l.length - t)=l.length by omega]at this
 omega
theorem oI(t:Nat)(ht:t<l.length):1≤(oA l t).2.2.1∧(oA l t).2.2.1≤1073741824:=(L6 h t ht).2.2
theorem aec(t:Nat)(ht:t<l.length):(oA l t).2.2.1≤bK l t:=by
 rw[all_eq h t (by omega)]
 obtain⟨m,hm⟩:∃ m,l.length - t=1+m:=⟨l.length - t - 1,by omega⟩
 rw[hm,wV]
 have h1:sumTo 1 (fun i=>(oA l (t+i)).2.2.1)=(oA l t).2.2.1:=by simp[sumTo]
 have h2:=lZ 1073741824 (fun i=>(oA l (t+(1+i))).2.2.1) m fun q hq=>by have:=oI h (t+(1+q)) (by omega);omega
 rw[h1];omega
include hn in
theorem qM(t:Nat)(ht:t≤l.length):0≤bK l t∧bK l t≤107374182400:=by
 rw[all_eq h t ht]
 have h2:=lZ 1073741824 (fun i=>(oA l (t+i)).2.2.1) (l.length - t) fun q hq=>by have:=oI h (t+q) (by omega);omega
 omega
theorem xG(t:Nat)(ht:t<l.length):0≤(oA l t).2.1∧(oA l t).2.1≤1125899906842624:=⟨(L6 h t ht).1,(L6 h t ht).2.1⟩
include ha in
theorem l7:∀ t,t≤l.length→(∀ s,s<t→jo l a s)→0≤aU l a t∧aU l a t≤a:=by
 intro t
 induction t with
 |zero=>intro _ _;unfold aU;simp[sumTo];exact ha.1
 |succ t ih=>
  intro ht hs
  obtain⟨h1,h2⟩:=ih (by omega) fun s hs'=>hs s (by omega)
  have hf:=hs t (by omega)
  have hw:=oI h t (by omega)
  have hA:=aec h t (by omega)
  have hW:=xG h t (by omega)
  have e:aU l a (t+1)=aU l a t - (oA l t).2.1:=by unfold aU;simp only[sumTo];omega
  unfold jo at hf
  have h3:(oA l t).2.1*(oA l t).2.2.1≤aU l a t*(oA l t).2.2.1:=Int.le_trans (Int.mul_le_mul_of_nonneg_left hA hW.1) hf
  have h4:=Int.le_of_mul_le_mul_right h3 (by omega)
  omega
theorem qN(p:Nat)(hp:p<l.length):1≤(aQ l p).2.2.1∧(aQ l p).2.2.1≤1073741824∧0≤(aQ l p).2.1∧(aQ l p).2.1≤1125899906842624:=by
 have:=h.1 _ (rH hp)
 unfold kF at this
 omega
theorem Eb(T p:Nat)(hp:p<l.length)(hr:T≤aK l p):(aQ l p).2.2.1≤bK l T:=by
 rw[all_eq h T (by have:=nK hp;omega)]
 obtain⟨i,hi⟩:∃ i,aK l p=T+i:=⟨aK l p - T,by omega⟩
 have hrl:=nK hp
 obtain⟨m,hm⟩:∃ m,l.length - T=i+(1+m):=⟨l.length - T - i - 1,by omega⟩
 rw[hm,wV,wV]
 have h1:sumTo 1 (fun j=>(oA l (T+(i+j))).2.2.1)=(aQ l p).2.2.1:=by
  simp only[sumTo,Nat.add_zero]
  rw[←hi,show oA l (aK l p)=aQ l p from vg hp];omega
 have h2:=lZ 1073741824 (fun j=>(oA l (T+j)).2.2.1) i fun q hq=>by have:=oI h (T+q) (by omega);omega
 have h3:=lZ 1073741824 (fun j=>(oA l (T+(i+(1+j)))).2.2.1) m fun q hq=>by have:=oI h (T+(i+(1+q))) (by omega);omega
 omega
include hn ha in
theorem rU(T p:Nat)(hT:jc l a T)(hp:p<l.length)(hr:T≤aK l p):0≤gG l a T p∧gG l a T p≤a:=by
 obtain⟨h1,h2⟩:=l7 h ha T hT.1 hT.2.1
 have hw:=qN h p hp
 have hA:=Eb h T p hp hr
 have hA2:=qM h hn T hT.1
 unfold gG
 refine⟨Int.ediv_nonneg (Int.mul_nonneg h1 (by omega)) (by omega), ?_⟩
 refine Int.le_trans (Int.ediv_le_of_le_mul (by omega) ?_) h2
 exact Int.mul_le_mul_of_nonneg_left hA h1
include hn ha in
theorem adg(T:Nat)(hT:jc l a T): -7205759403792793600≤leftA l a T∧leftA l a T≤72057594037927936:=by
 obtain⟨h1,h2⟩:=l7 h ha T hT.1 hT.2.1
 have h3:=lZ 72057594037927936 (fun p=>if aK l p<T then 0 else gG l a T p) l.length fun q hq=>by
  by_cases hr:aK l q<T
  ·rw[if_pos hr];omega
  ·rw[if_neg hr];have:=rU h hn ha T q hT hq (by omega);omega
 unfold leftA
 omega
include hn ha in
theorem N8(T:Nat)(hT:jc l a T):∀ i, -7205759403792793600≤fJ l a T i∧fJ l a T i≤72057594037927936
 |0=>adg h hn ha T hT
 |i+1=>by
  have:=N8 T hT i
  simp only[fJ]
  split <;>omega
omit h in
theorem adT(T:Nat):∀ i,fJ l a T i≤0→∀ j,i≤j→fJ l a T j=fJ l a T i:=by
 intro i hi j hij
 obtain⟨d,rfl⟩:∃ d,j=i+d:=⟨j - i,by omega⟩
 induction d with
 |zero=>rfl
 |succ d ih=>
  have:=ih (by omega)
  rw[←Nat.add_assoc]
  simp only[fJ]
  rw[this,if_neg (by omega)]
end
end Go.Rv
