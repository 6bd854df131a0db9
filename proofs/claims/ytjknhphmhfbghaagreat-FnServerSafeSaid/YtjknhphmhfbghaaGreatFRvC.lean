/- A runner of programs on pure values, proved sound against the model: part RvC. It is about every program; the law's own text is the last. -/
import Derived.Test.YtjknhphmhfbghaaGreatFRvB
import Derived.Deep.LoopGhost
set_option linter.unusedVariables false
set_option linter.unusedSimpArgs false
namespace Go.Rv
open Go.RowKit
variable {Dr:Kn}
variable {R:Type} {P:Program} {tbl:dX} {env:Env} {ob:List Ob} {o:Oper} {K:PV→List Ob→Option R} {r:R}
theorem filter_lt{α:Type}{p q:α→Bool}(hpq:∀ x,p x=true→q x=true){x:α}(hq:q x=true)(hp:p x=false):∀ (l:List α),x∈l→(l.filter p).length<(l.filter q).length:=by
 have le:∀ (l:List α),(l.filter p).length≤(l.filter q).length:=by
  intro l
  induction l with
  |nil=>simp
  |cons a l ih=>
   simp only[List.filter_cons]
   by_cases h1:p a=true
   ·rw[if_pos h1,if_pos (hpq a h1)];simp;exact ih
   ·rw[if_neg h1]
    split
    ·simp;omega
    ·exact ih
 intro l hx
 induction l with
 |nil=>simp at hx
 |cons a l ih=>
  simp only[List.filter_cons]
  rcases List.mem_cons.1 hx with rfl |hx
  ·rw[if_neg (by rw[hp];simp),if_pos hq]
   have:=le l
   simp;omega
  ·have:=ih hx
   by_cases h1:p a=true
   ·rw[if_pos h1,if_pos (hpq a h1)];simp;exact this
   ·rw[if_neg h1]
    split
    ·simp;omega
    ·exact this
def cnt(L:Array Bool)(n:Nat):Nat:=((List.range n).filter fun i=> !(L.getD i false)).length
theorem Ez{L:Array Bool}{i j:Nat}(hi:i<L.size):(L.setIfInBounds i true).getD j false=(L.getD j false||j==i):=by
 by_cases h:i=j
 ·subst h;simp[hi]
 ·have:(j==i)=false:=by simp;exact fun e=>h e.symm
  simp[Array.getD_eq_getD_getElem?, Array.getElem?_setIfInBounds,h,this]
theorem aef{L:Array Bool}{n i:Nat}(hs:L.size=n)(hi:i<n)(h:L.getD i false=false):cnt (L.setIfInBounds i true) n<cnt L n:=by
 unfold cnt
 refine filter_lt (x:=i) (fun x hx=> ?_) (by rw[h];rfl) (by rw[Ez (by omega)];simp) _ (List.mem_range.2 hi)
 rw[Ez (by omega)]at hx
 simp at hx ⊢
 exact hx.1
theorem aeg{L:Array Bool}{n i:Nat}(hi:i<n)(h:L.getD i false=false):0<cnt L n:=by
 unfold cnt
 refine List.length_pos_of_mem (a:=i) (List.mem_filter.2 ⟨List.mem_range.2 hi,by rw[h];rfl⟩)
theorem Aj:∀ (l:List Oper) (i:Nat) (p:Nat×Oper),p∈nN l i↔∃ j,l[j]? =some p.2∧p.1=i+j
 | [],i,p=>by simp[nN]
 |o::l,i,p=>by
  simp only[nN,List.mem_cons,Aj l (i+1) p]
  constructor
  ·rintro(rfl | ⟨j,h1,h2⟩)
   ·exact⟨0,rfl,rfl⟩
   ·exact⟨j+1,by simpa using h1,by omega⟩
  ·rintro⟨j,h1,h2⟩
   cases j with
   |zero=>
    simp only[List.getElem?_cons_zero,Option.some.injEq]at h1
    left
    exact Prod.ext h2 h1.symm
   |succ j=>exact Or.inr ⟨j,by simpa using h1,by omega⟩
theorem Rx:∀ (l:List Oper) (i:Nat),(nN l i).Pairwise (fun p q=>p.1<q.1)
 | [],i=>List.Pairwise.nil
 |o::l,i=>by
  simp only[nN]
  refine List.pairwise_cons.2 ⟨fun q hq=> ?_,Rx l (i+1)⟩
  obtain⟨j,_,h⟩:=(Aj l (i+1) q).1 hq
  simp only
  omega
theorem ab8{ops:Array Oper}{L:Array Bool}{i:Nat}{oi:Oper}(hs:L.size=ops.size)(hi:i<ops.size)(ho:ops[i]? =some oi)(hc:Closed ops.toList fun j=>L.getD j false)(he:∀ e∈oi.after,Region.binds .any e=true→L.getD e.on false=true):
  Closed ops.toList fun j=>(L.setIfInBounds i true).getD j false:=by
 intro j o hj hL e hem hb
 simp only[Ez (show i<L.size by omega),Bool.or_eq_true,beq_iff_eq]at hL ⊢
 rcases hL with hL |rfl
 ·exact Or.inl (hc j o hj hL e hem hb)
 ·have hj':ops[j]? =some o:=by simpa using hj
  rw[ho]at hj'
  obtain rfl:=Option.some.inj hj'
  exact Or.inl (he e hem hb)
theorem VL{X:Cx Dr}{g:Gh}{w:World}:∀ (D:List Ob) (ob:List Ob),aK X g ob w→(∀ Y∈D,Y= .dead)→aK X g (ob++D) w∧Keep g ob.length X.I w g (ob++D).length w
 | [],ob,s,_=>by simpa using ⟨s,s.refl⟩
 |Y::D,ob,s,h=>by
  have hY:=h Y (by simp)
  subst hY
  obtain⟨s1,k1⟩:=s.slot (g':=g) rfl (fun _ _=>Agree.refl _ _)
  obtain⟨s2,k2⟩:=VL D (ob++[Ob.dead]) s1 (fun Y hY=>h Y (List.mem_cons_of_mem _ hY))
  have e:ob++[Ob.dead]++D=ob++Ob.dead::D:=by simp
  rw[e]at s2 k2
  exact⟨s2,k1.trans k2⟩
theorem UJ:∀ (objs:List (Nat×List Ob)),∀ Y∈bV (fun _=>false) objs,Y=Ob.dead
 | [],Y,h=>by simp[bV]at h
 | (k,os)::r,Y,h=>by
  simp only[bV,Bool.false_eq_true,if_false,List.mem_append]at h
  rcases h with h |h
  ·obtain⟨i,hi⟩:=List.getElem?_of_mem h
   exact EC os i Y hi
  ·exact UJ r Y h
theorem VR:∀ (es:List (Nat×Oper)) (m:Nat) (x:Nat),(es.foldl (fun m p=>m ||| (1 <<< p.1)) m).testBit x=true↔(m.testBit x=true∨x∈es.map (·.1))
 | [],m,x=>by simp
 |p::es,m,x=>by
  rw[List.foldl_cons,VR es (m ||| (1 <<< p.1)) x]
  have h1:(m ||| (1 <<< p.1)).testBit x=true↔(m.testBit x=true∨p.1=x):=by
   rw[Nat.testBit_or,Bool.or_eq_true,Nat.one_shiftLeft,Nat.testBit_two_pow,decide_eq_true_eq]
  rw[h1,List.map_cons,List.mem_cons]
  constructor
  ·rintro((h |h) |h)
   ·exact Or.inl h
   ·exact Or.inr (Or.inl h.symm)
   ·exact Or.inr (Or.inr h)
  ·rintro(h |h |h)
   ·exact Or.inl (Or.inl h)
   ·exact Or.inl (Or.inr h.symm)
   ·exact Or.inr h
end Go.Rv
set_option linter.unusedVariables false
set_option linter.unusedSimpArgs false
namespace Go.Rv
open Go.RowKit
variable {Dr:Kn}
theorem adr{X:Cx Dr}{g g':Gh}{full part p' full':List Ob}{w w':World}{c m:Nat}(sE:aK X g full w)(hpl:part.length=c)(hsub:∀ (i:Nat) (Y:Ob),part[i]? =some Y→Y= .dead∨full[i]? =some Y)(hn0:X.n0≤c)
  (hcm:c+m≤full.length) (hfl:full'.length=full.length) (hp':p'.length=c+m) (sN:aK X g' p' w') (hk:Keep g c X.I w g' p'.length w') (honly:Only g part w w') (hblk:kC g part w g' p'∨∀ o,aJ g full o→aJ g part o)
  (h1:∀ (o:Nat) (Y:Ob),full'[o]? =some Y→(o<c+m∧p'[o]? =some Y)∨(¬ (c≤o∧o<c+m)∧¬ aJ g part o∧full[o]? =some Y))
  (hid:∀ (o:Nat) (cells:List PV),full[o]? =some (.box cells)→∀ i∈aW cells,¬ (c≤i∧i<c+m)):
  aK X (g.mix g' c (c+m)) full' w'∧
   (∀ v u,(∀ i∈bI v,¬ (c≤i∧i<c+m))→aj g full.length X.I w v u→aj (g.mix g' c (c+m)) full'.length X.I w' v u)∧
   (∀ v u,aj g' p'.length X.I w' v u→aj (g.mix g' c (c+m)) full'.length X.I w' v u):=by
 have hheap:∀ b,X.I b→w'.heap[b]? =w.heap[b]? :=hk.heap
 have old:∀ v u,(∀ i∈bI v,¬ (c≤i∧i<c+m))→aj g full.length X.I w v u→aj (g.mix g' c (c+m)) full'.length X.I w' v u:=fun v u hi hr=>
  aj.agree (show(g.mix g' c (c+m)).J=g.J from rfl) sE.jI hheap v u (fun i hm hn=>⟨by rw[hfl];exact hn,qL (hi i hm)⟩) hr
 have olds:∀ vs us,(∀ i∈aW vs,¬ (c≤i∧i<c+m))→ay g full.length X.I w vs us→ay (g.mix g' c (c+m)) full'.length X.I w' vs us:=fun v u hi hr=>
  ay.agree (show(g.mix g' c (c+m)).J=g.J from rfl) sE.jI hheap v u (fun i hm hn=>⟨by rw[hfl];exact hn,qL (hi i hm)⟩) hr
 have agN:∀ i,i<p'.length→i<full'.length∧Agree g' (g.mix g' c (c+m)) i:=fun i hi=>by
  refine⟨by omega, ?_⟩
  by_cases hr:c≤i∧i<c+m
  ·exact adT hr
  ·have:=hk.agr i (by omega)
   have h2:=qL (g:=g) (g':=g') hr
   exact⟨h2.A.trans this.A.symm,h2.H.trans this.H.symm,h2.L.trans this.L.symm,h2.S.trans this.S.symm,h2.pre.trans this.pre.symm,h2.post.trans this.post.symm⟩
 have new:∀ v u,aj g' p'.length X.I w' v u→aj (g.mix g' c (c+m)) full'.length X.I w' v u:=fun v u hr=>
  aj.agree (show(g.mix g' c (c+m)).J=g'.J from hk.J.symm) sN.jI (fun _ _=>rfl) v u (fun i hm hn=>agN i hn) hr
 have news:∀ vs us,ay g' p'.length X.I w' vs us→ay (g.mix g' c (c+m)) full'.length X.I w' vs us:=fun v u hr=>
  ay.agree (show(g.mix g' c (c+m)).J=g'.J from hk.J.symm) sN.jI (fun _ _=>rfl) v u (fun i hm hn=>agN i hn) hr
 have stays:∀ o,aJ g full o→¬ aJ g part o→w'.heap[g.A o]? =w.heap[g.A o]? :=fun o ho hn=>honly _ (sE.blk ho).1 fun p hp e=>by
  have hpf:aJ g full p:=by
   rcases hp with ⟨cells,hp⟩ | ⟨e2,xs,hp,hn2⟩
   ·rcases hsub p _ hp with h |h
    ·cases h
    ·exact Or.inl ⟨_,h⟩
   ·rcases hsub p _ hp with h |h
    ·cases h
    ·exact Or.inr ⟨_,_,h,hn2⟩
  have:=sE.inj p o hpf ho e
  subst this
  exact hn hp
 have blk:∀ o,aJ (g.mix g' c (c+m)) full' o→(aJ g' p' o∧(g.mix g' c (c+m)).A o=g'.A o)∨(¬ (c≤o∧o<c+m)∧¬ aJ g part o∧aJ g full o∧(g.mix g' c (c+m)).A o=g.A o):=fun o h=>by
  rcases h with ⟨cells,h⟩ | ⟨e,xs,h,hn⟩
  ·rcases h1 o _ h with ⟨hl,h2⟩ | ⟨hr,hp,h2⟩
   ·exact Or.inl ⟨Or.inl ⟨_,h2⟩,(agN o (by omega)).2.A⟩
   ·exact Or.inr ⟨hr,hp,Or.inl ⟨_,h2⟩,(qL hr).A⟩
  ·rcases h1 o _ h with ⟨hl,h2⟩ | ⟨hr,hp,h2⟩
   ·rw[(agN o (by omega)).2.H]at hn
    exact Or.inl ⟨Or.inr ⟨_,_,h2,hn⟩,(agN o (by omega)).2.A⟩
   ·rw[(qL hr).H]at hn
    exact Or.inr ⟨hr,hp,Or.inr ⟨_,_,h2,hn⟩,(qL hr).A⟩
 have apart:∀ o o',aJ g' p' o→aJ g full o'→¬ aJ g part o'→g'.A o≠g.A o':=fun o o' h h' hn e=>by
  rcases hblk with hb |hb
  ·rcases hb o h with h2 | ⟨q,hq,e2⟩
   ·have:=(sE.blk h').1;omega
   ·have hqf:aJ g full q:=by
     rcases hq with ⟨cells,hp⟩ | ⟨e3,xs,hp,hn2⟩
     ·rcases hsub q _ hp with h |h
      ·cases h
      ·exact Or.inl ⟨_,h⟩
     ·rcases hsub q _ hp with h |h
      ·cases h
      ·exact Or.inr ⟨_,_,h,hn2⟩
    have:=sE.inj q o' hqf h' (e2.symm.trans e)
    subst this
    exact hn hq
  ·exact hn (hb o' h')
 refine⟨⟨fun o cells h=> ?_,fun o e xs h=> ?_,fun o o' h h' e=> ?_,fun o h=> ?_,sN.bnd,fun b hb=>sE.jI b hb,sN.upd,sN.bsz,by omega,fun o ho=>(sE.kept o ho).trans (qL (by omega)),sE.keptJ⟩,old,new⟩
 ·rcases h1 o _ h with ⟨hl,h2⟩ | ⟨hr,hp,h2⟩
  ·obtain⟨us,t,k1,k2,k3,k4,k5⟩:=sN.box o cells h2
   have ag:=(agN o (by omega)).2
   exact⟨us,t,by rw[ag.A,ag.pre,ag.post];exact k1,news _ _ k2,by rw[ag.A];exact k3,by rw[ag.S];exact k4,by rw[ag.L];exact k5⟩
  ·obtain⟨us,t,k1,k2,k3,k4,k5⟩:=sE.box o cells h2
   have ag:=qL (g:=g) (g':=g') hr
   have hst:=stays o (Or.inl ⟨_,h2⟩) hp
   exact⟨us,t,by rw[ag.A,ag.pre,ag.post,hst];exact k1,olds _ _ (hid o cells h2) k2,by rw[ag.A];exact k3,by rw[ag.S];exact k4,by rw[ag.L];exact k5⟩
 ·rcases h1 o _ h with ⟨hl,h2⟩ | ⟨hr,hp,h2⟩
  ·obtain⟨k1,k2,kp,k3⟩:=sN.arr o e xs h2
   have ag:=(agN o (by omega)).2
   refine⟨by rw[ag.S];exact k1,by rw[ag.L];exact k2,by rw[ag.pre];exact kp, ?_⟩
   unfold sW at*
   rw[ag.A,ag.H]
   exact k3
  ·obtain⟨k1,k2,kp,k3⟩:=sE.arr o e xs h2
   have ag:=qL (g:=g) (g':=g') hr
   refine⟨by rw[ag.S];exact k1,by rw[ag.L];exact k2,by rw[ag.pre];exact kp, ?_⟩
   unfold sW at*
   rw[ag.A,ag.H]
   rcases k3 with k3 | ⟨hne,cap,us,t,n1,n2,n2',n3,n4,n5,n6⟩
   ·exact Or.inl k3
   ·have hst:=stays o (Or.inr ⟨_,_,h2,hne⟩) hp
    exact Or.inr ⟨hne,cap,us,t,n1,n2,n2',by rw[hst];exact n3,n4,fun i x hx=>bH.keep (fun _ h=>h) hheap e x _ (by exact hst) (n5 i x hx),n6⟩
 ·rcases blk o h with ⟨b1,a1⟩ | ⟨r1,p1,b1,a1⟩ <;>rcases blk o' h' with ⟨b2,a2⟩ | ⟨r2,p2,b2,a2⟩
  ·rw[a1,a2]at e;exact sN.inj o o' b1 b2 e
  ·rw[a1,a2]at e;exact absurd e (apart o o' b1 b2 p2)
  ·rw[a1,a2]at e;exact absurd e.symm (apart o' o b2 b1 p1)
  ·rw[a1,a2]at e;exact sE.inj o o' b1 b2 e
 ·rcases blk o h with ⟨b1,a1⟩ | ⟨r1,p1,b1,a1⟩
  ·rw[a1];exact sN.base o b1
  ·rw[a1];exact sE.base o b1
end Go.Rv
set_option linter.unusedVariables false
set_option linter.unusedSimpArgs false
namespace Go.Rv
open Go.RowKit
variable {Dr:Kn}
variable {R:Type} {P:Program} {tbl:dX} {env:Env} {ob:List Ob} {o:Oper} {K:PV→List Ob→Option R} {r:R}
def fC:List (Nat×Ob)→Nat→Option Ob
 | [],_=>none
 | (i,Y)::r,j=>match fC r j with |some Z=>some Z |none=>if i=j then some Y else none
theorem LG:∀ (mods:List (Nat×Ob)) (l:List Ob),(vz l mods).length=l.length
 | [],l=>rfl
 | (i,Y)::r,l=>by simp only[vz];rw[LG r];simp
theorem Tz:∀ (mods:List (Nat×Ob)) (l:List Ob) (j:Nat),(vz l mods)[j]? =match fC mods j with |some Y=>if j<l.length then some Y else none |none=>l[j]?
 | [],l,j=>rfl
 | (i,Y)::r,l,j=>by
  simp only[vz,fC]
  rw[Tz r]
  cases fC r j with
  |some Z=>simp
  |none=>
   simp only
   by_cases h:i=j
   ·subst h
    rw[if_pos rfl]
    simp only
    rw[List.getElem?_set]
    simp
   ·rw[if_neg h,List.getElem?_set_ne h]
def fD(f:Nat→Bool):List iq→Nat→Option Ob
 | [],_=>none
 |h::r,j=>match fD f r j with |some Z=>some Z |none=>if f h.1=true then fC h.2.2 j else none
theorem Et(f:Nat→Bool):∀ (hist:List iq) (l:List Ob),(jR f hist l).length=l.length
 | [],l=>rfl
 |h::r,l=>by
  simp only[jR]
  rw[Et f r]
  split
  ·exact LG _ _
  ·rfl
theorem oC(f:Nat→Bool):∀ (hist:List iq) (l:List Ob) (j:Nat),(jR f hist l)[j]? =match fD f hist j with |some Y=>if j<l.length then some Y else none |none=>l[j]?
 | [],l,j=>rfl
 |h::r,l,j=>by
  simp only[jR,fD]
  rw[oC f r]
  cases fD f r j with
  |some Z=>
   simp only
   have:(if f h.1=true then vz l h.2.2 else l).length=l.length:=by split;exact LG _ _;rfl
   rw[this]
  |none=>
   simp only
   by_cases hf:f h.1=true
   ·rw[if_pos hf,if_pos hf,Tz]
   ·rw[if_neg hf,if_neg hf]
theorem MP(f:Nat→Bool):∀ (a b:List iq) (j:Nat),fD f (a++b) j=match fD f b j with |some Z=>some Z |none=>fD f a j
 | [],b,j=>by simp only[List.nil_append,fD];cases fD f b j <;>rfl
 |h::a,b,j=>by
  simp only[List.cons_append,fD]
  rw[MP f a b j]
  cases fD f b j <;>simp
theorem LM{f f':Nat→Bool}:∀ (hist:List iq) (j:Nat),(∀ h∈hist,fC h.2.2 j≠none→f h.1=f' h.1)→fD f hist j=fD f' hist j
 | [],_,_=>rfl
 |h::r,j,hh=>by
  simp only[fD]
  rw[LM r j fun x hx=>hh x (List.mem_cons_of_mem _ hx)]
  cases fD f' r j with
  |some Z=>rfl
  |none=>
   simp only
   cases hm:fC h.2.2 j with
   |none=>simp
   |some Y=>rw[hh h (by simp) (by rw[hm];simp)]
theorem Ef{f:Nat→Bool}:∀ (hist:List iq) (j:Nat),(∀ h∈hist,fC h.2.2 j≠none→f h.1=false)→fD f hist j=none
 | [],_,_=>rfl
 |h::r,j,hh=>by
  simp only[fD]
  rw[Ef r j fun x hx=>hh x (List.mem_cons_of_mem _ hx)]
  simp only
  cases hm:fC h.2.2 j with
  |none=>simp
  |some Y=>rw[if_neg];rw[hh h (by simp) (by rw[hm];simp)];simp
theorem MO{f:Nat→Bool}:∀ (hist:List iq) (j:Nat) (Y:Ob),fD f hist j=some Y→∃ h∈hist,f h.1=true∧fC h.2.2 j=some Y
 | [],_,_,h=>by simp[fD]at h
 |h::r,j,Y,hh=>by
  simp only[fD]at hh
  cases hl:fD f r j with
  |some Z=>
   rw[hl]at hh
   simp only at hh
   obtain⟨x,hx,h1,h2⟩:=MO r j Y (by rw[hl];exact hh)
   exact⟨x,List.mem_cons_of_mem _ hx,h1,h2⟩
  |none=>
   rw[hl]at hh
   simp only at hh
   split at hh
   ·rename_i hf;exact⟨h,by simp,hf,hh⟩
   ·cases hh
theorem MQ(need:List Nat):∀ (l:List Ob) (a:Nat),(keepD need l a).length=l.length
 | [],_=>rfl
 |Y::r,a=>by simp only[keepD,List.length_cons,MQ need r]
theorem UK(need:List Nat):∀ (l:List Ob) (a i:Nat),(keepD need l a)[i]? =(l[i]?).map fun Y=>if need.contains (a+i)=true then Y else .dead
 | [],a,i=>by simp[keepD]
 |Y::r,a,0=>by simp[keepD]
 |Y::r,a,i+1=>by
  simp only[keepD,List.getElem?_cons_succ]
  rw[UK need r (a+1) i,show a+1+i=a+(i+1) by omega]
theorem WA:∀ (ids:List Nat) (ob:List Ob) (i:Nat),i∉ids→(lg ids ob)[i]? =ob[i]?
 | [],ob,i,_=>rfl
 |j::r,ob,i,h=>by
  simp only[List.mem_cons,not_or]at h
  rw[lg,WA r _ i h.2,List.getElem?_set_ne (fun e=>h.1 e.symm)]
theorem Tv:∀ (cs:List CT) (x:ah.V cs) (vs:List PV) (ob:List Ob),(setRows cs x vs ob).length=ob.length∧∀ i,i∉aW vs→(setRows cs x vs ob)[i]? =ob[i]?
 | [],x,vs,ob=>by cases vs <;>exact⟨rfl,fun _ _=>rfl⟩
 |c::cs,x,[],ob=>by cases c <;>exact⟨rfl,fun _ _=>rfl⟩
 |c::cs,x,v::vs,ob=>by
  have ih:=fun ob=>Tv cs x.2 vs ob
  have ht:∀ i,i∉aW (v::vs)→i∉bI v∧i∉aW vs:=fun i h=>by simpa [aW]using h
  cases c with
  |sl e=>cases v with
   |own q=>
    simp only[setRows]
    refine⟨by rw[(ih _).1];simp,fun i hi=> ?_⟩
    have:=ht i hi
    rw[(ih _).2 i this.2,List.getElem?_set_ne (fun e=>this.1 (by simp[bI,e]))]
   |_=>exact⟨(ih _).1,fun i hi=>(ih _).2 i (ht i hi).2⟩
  |_=>exact⟨(ih _).1,fun i hi=>(ih _).2 i (ht i hi).2⟩
theorem Xr{ob0:List Ob}:∀ (ins:List bF) (vs:List PV) (y:ah.V (dZ ins)) (ob ob':List Ob),lC ob0 ins vs y ob=some ob'→ob.length≤ob'.length∧∀ i,i<ob.length→i∉fK ob0 ins vs→ob'[i]? =ob[i]?
 | [],[],y,ob,ob',h=>by
  simp only[lC,Option.some.injEq]at h
  subst h
  exact⟨Nat.le_refl _,fun _ _ _=>rfl⟩
 | [],_::_,_,_,_,h=>by simp[lC]at h
 |_::_,[],_,_,_,h=>by simp[lC]at h
 |p::r,v::vs,y,ob,ob',h=>by
  simp only[lC]at h
  split at h <;>try (cases h;done)
  rename_i ob1 h1
  obtain⟨a1,a2⟩:=Xr r vs _ ob1 ob' h
  have key:ob.length≤ob1.length∧∀ i,i<ob.length→i∉jY ob0 p v→ob1[i]? =ob[i]? :=by
   cases p with
   |w b cs=>
    simp only[yX,Option.map_eq_some_iff]at h1
    obtain⟨us,hf,rfl⟩:=h1
    have:=Tv cs (splitV (bF.w b cs).io (dZ r) y).1 us ob
    exact⟨by rw[this.1];exact Nat.le_refl _,fun i _ hi=>this.2 i fun hm=>hi (by rw[AP hf]at hm;exact hm)⟩
   |m cs=>
    cases v with
    |ptr q a sz j=>
     simp only[yX]at h1
     split at h1 <;>try (cases h1;done)
     obtain rfl:=Option.some.inj h1
     refine⟨by simp,fun i hi hn=> ?_⟩
     have hq:¬ q=i:=fun e=>hn (by simp[jY,e])
     rw[List.getElem?_set_ne hq,List.getElem?_append_left hi]
    |_=>simp[yX]at h1
   |_=>
    simp only[yX,Option.some.injEq]at h1
    subst h1
    exact⟨Nat.le_refl _,fun _ _ _=>rfl⟩
  refine⟨Nat.le_trans key.1 a1,fun i hi hn=> ?_⟩
  have hn':i∉jY ob0 p v∧i∉fK ob0 r vs:=by simpa [fK]using hn
  rw[a2 i (Nat.lt_of_lt_of_le hi key.1) hn'.2,key.2 i hi hn'.1]
theorem abQ{S:aG}{args as:List PV}{T:List Nat}{Q:List Ob→Prop}(hpk:mM S.pack args=some as)(hio:∀ i∈fK ob S.ins as,i∈T)(h:yK ob S args K=some r)
  (hQ:∀ ob',(ob.length≤ob'.length∧∀ i Y,i∉T→ob[i]? =some Y→ob'[i]? =some Y)→Q ob'):
  yK ob S args (fun pv ob'=> @ite _ (Q ob') (Classical.propDecidable _) (K pv ob') none)=some r:=by
 unfold yK at h ⊢
 simp only[hpk]at h ⊢
 obtain⟨h,_,hbnd⟩:=Ei _ _ h
 rw[hbnd]
 split at h <;>try (cases h;done)
 rename_i x hx
 (try rw[hx])
 (try simp only)
 split at h <;>try (cases h;done)
 rename_i hcond
 rw[if_pos hcond]
 obtain⟨y,hy,h⟩:=Option.bind_eq_some_iff.1 h
 rw[hy]
 simp only[Option.bind_some]
 split at h <;>try (cases h;done)
 rename_i res ob' hres hio'
 obtain⟨a1,a2⟩:=Xr S.ins as _ _ _ hio'
 have hl:ob.length≤ob'.length:=Nat.le_trans (by rw[List.length_append,xM];omega) a1
 have hg:∀ i Y,i∉T→ob[i]? =some Y→ob'[i]? =some Y:=fun i Y hi hY=>by
  have hlt:i<ob.length:=(List.getElem?_eq_some_iff.1 hY).1
  have hi':i∉fK ob S.ins as:=fun hm=>hi (hio i hm)
  rw[a2 i (by rw[List.length_append,xM];omega) hi',List.getElem?_append_left (by rw[xM];exact hlt),WA _ _ i hi']
  exact hY
 unfold OY at h ⊢
 split at h
 ·simp only
  rw[if_pos (hQ ob' ⟨hl,hg⟩)];exact h
 ·simp only
  split at h <;>try (cases h;done)
  rename_i cs hp
  rw[if_pos (hQ _ ⟨by simp;omega,fun i Y hi hY=>by rw[List.getElem?_append_left (List.getElem?_eq_some_iff.1 (hg i Y hi hY)).1];exact hg i Y hi hY⟩)]
  exact h
def TP(tbl:dX)(env:Env)(ob:List Ob)(o:Op)(ob':List Ob):Prop:=ob.length≤ob'.length∧∀ (i:Nat) (Y:Ob),i∉mD tbl env o→ob[i]? =some Y→ob'[i]? =some Y
theorem acQ{q:Op}(him:impure tbl env q=true)(hc:rX q=true→yw tbl env ob q=true)(h:bP P tbl env ob q K=some r):
  bP P tbl env ob q (fun pv ob'=> @ite _ (TP tbl env ob q ob') (Classical.propDecidable _) (K pv ob') none)=some r:=by
 cases q with
 |store t x y=>
  simp only[bP]at h ⊢
  split at h <;>try (cases h;done)
  rename_i agg n qq i sz j vs hl hx hfl
  (try rw[hl,hx,hfl])
  (try simp only)
  split at h <;>try (cases h;done)
  rename_i hn
  (try rw[if_pos hn])
  have tp:∀ Y,TP tbl env ob (.store t x y) (ob.set qq Y):=fun Y=>⟨by simp,fun i Z hi hz=>by
   rw[List.getElem?_set_ne]
   ·exact hz
   ·intro e
    apply hi
    simp only[mD,hx,bI]
    simp[e]⟩
  split at h
  ·rename_i cells hq
   (try simp only[hq])
   split at h <;>try (cases h;done)
   rename_i hb
   (try rw[if_pos hb])
   rw[if_pos (tp _)]
   exact h
  ·rename_i e xs hq
   (try simp only[hq])
   split at h <;>try (cases h;done)
   rename_i y' hset
   (try simp only[hset])
   rw[if_pos (tp _)]
   exact h
  ·cases h
 |call c=>
  cases hcc:c.callee with
  |builtin bi=>
   simp only[impure,hcc]at him
   cases bi with
   |append=>
    simp only[bP,hcc]at h ⊢
    split at h <;>try (cases h;done)
    rename_i b x t t' hargs htys
    (try rw[hargs,htys])
    (try simp only)
    split at h <;>try (cases h;done)
    rename_i e cs e' he0 hu'
    (try rw[he0,hu'])
    (try simp only)
    split at h <;>try (cases h;done)
    rename_i i hi
    (try rw[hi])
    (try simp only)
    split at h <;>try (cases h;done)
    rename_i z ys hz hys
    (try rw[hz,hys])
    (try simp only)
    split at h <;>try (cases h;done)
    rename_i hcond
    (try rw[if_pos hcond])
    obtain⟨h,_,hbnd⟩:=WU h
    rw[hbnd]
    rw[hargs]at him
    simp only[List.map_cons,List.map_nil]at him
    split at him
    ·rename_i q0 rest hev
     have hev1:=(List.cons.inj hev).1
     (try rw[hev1]at h)
     (try rw[hev1])
     (try simp only at h ⊢)
     split at h <;>try (cases h;done)
     rename_i e1 xs hq
     (try simp only[hq])
     split at h <;>try (cases h;done)
     rename_i hbq
     (try rw[dif_pos hbq])
     split at h <;>try (cases h;done)
     rename_i hroom
     (try rw[if_pos hroom])
     split at h <;>try (cases h;done)
     rename_i hroom2
     (try rw[if_pos hroom2])
     rw[if_pos]
     ·exact h
     ·refine⟨by simp,fun i Z hi hz=> ?_⟩
      have hlt:i<ob.length:=(List.getElem?_eq_some_iff.1 hz).1
      rw[List.getElem?_append_left (by simpa using hlt),List.getElem?_set_ne]
      ·exact hz
      ·intro e2
       apply hi
       simp only[mD,hcc,hargs,List.map_cons,hev1]
       simp[e2]
    ·cases him
   |_=>cases him
  |value f=>
   have hc2:=hc (by simp only[rX,hcc])
   simp only[bP,hcc]at h ⊢
   split at h <;>try (cases h;done)
   rename_i gf caps hf
   (try rw[hf])
   (try simp only)
   split at h <;>try (cases h;done)
   rename_i S hS
   (try rw[hS])
   (try simp only)
   simp only[yw,Fp,hcc,hf,hS]at hc2
   split at hc2 <;>try (cases hc2;done)
   rename_i S' as hcs
   split at hcs <;>try (cases hcs;done)
   rename_i as' hpk
   obtain⟨rfl,rfl⟩:=Prod.mk.inj (Option.some.inj hcs)
   have ht:mD tbl env (.call c)=sZ S.ins as':=by simp only[mD,Fp,hcc,hf,hS,hpk]
   refine abQ (T:=sZ S.ins as') hpk (fun i hi=> ?_) h fun ob' hh=> ?_
   ·simpa using List.all_eq_true.1 hc2 i hi
   ·exact⟨hh.1,fun i Y hi hY=>hh.2 i Y (by rw[ht]at hi;exact hi) hY⟩
  |_=>simp[bP,hcc]at h
 |_=>simp[impure]at him
end Go.Rv
set_option linter.unusedVariables false
set_option linter.unusedSimpArgs false
namespace Go.Rv
open Go.RowKit
variable {Dr:Kn}
variable {R:Type} {P:Program} {tbl:dX} {env:Env} {ob:List Ob} {o:Oper} {K:PV→List Ob→Option R} {r:R}
def WX(Dr:Kn)(P:Program)(part:List Ob)(env:Env)(o:Oper)(pv:PV)(ob':List Ob):Prop:=
 ∀ (X:Cx Dr) (N:Nat) (g:Gh) (w:World) (a:Act),aK X g part w→dG N g part.length X.I w env a→
  nV P o a w fun v w'=>∃ g',Only g part w w'∧kC g part w g' ob'∧aK X g' ob' w'∧Keep g part.length X.I w g' ob'.length w'∧aj g' ob'.length X.I w' pv v
theorem aeS{part ob':List Ob}{pv:PV}
  (h:∀ (X:Cx Dr) (N:Nat) (g:Gh) (w:World) (a:Act),aK X g part w→dG N g part.length X.I w env a→
   nV P o a w fun v w'=>∃ g',Only g part w w'∧aK X g' ob' w'∧Keep g part.length X.I w g' ob'.length w'∧aj g' ob'.length X.I w' pv v):WX Dr P part env o pv ob':=by
 intro X N g w a hs he
 have hT2:∀ b,b∈((List.range part.length).filter fun q=> @decide (aJ g part q) (Classical.propDecidable _)).map g.A↔∃ q,aJ g part q∧b=g.A q:=fun b=>by
  constructor
  ·intro hm
   obtain⟨q,hq,rfl⟩:=List.mem_map.1 hm
   have:=(List.mem_filter.1 hq).2
   exact⟨q,by simpa using this,rfl⟩
  ·rintro⟨q,hq,rfl⟩
   exact List.mem_map.2 ⟨q,List.mem_filter.2 ⟨by simpa using hq.lt,by simpa using hq⟩,rfl⟩
 let X2:Cx Dr:=⟨w.heap.size,w,((List.range part.length).filter fun q=> @decide (aJ g part q) (Classical.propDecidable _)).map g.A,X.I,X.n0,X.g0,by have:=hs.tab;rw[hs.keptJ]at this;exact this,fun b hb=>⟨hs.bnd b (hs.jI b (by rw[hs.keptJ];exact hb)),fun hm=>by
  obtain⟨q,hq,rfl⟩:=(hT2 b).1 hm
  exact(hs.blk hq).2 (hs.jI _ (by rw[hs.keptJ];exact hb))⟩⟩
 have hs2:aK X2 g part w:=⟨hs.box,hs.arr,hs.inj,fun q hq=>Or.inr ((hT2 _).2 ⟨q,hq,rfl⟩),hs.bnd,hs.jI,aO.refl _ _ _,Nat.le_refl _,hs.nle,hs.kept,hs.keptJ⟩
 refine AA ?_ (h X2 N g w a hs2 he)
 rintro v w' ⟨g',ho,s',k',r'⟩
 have hblk:kC g part w g' ob':=fun q hq=>by
  rcases s'.base q hq with h |h
  ·exact Or.inl h
  ·obtain⟨p,hp,e⟩:=(hT2 _).1 h
   exact Or.inr ⟨p,hp,e⟩
 have hu:aO Dr w.heap.size _ w w':=s'.upd
 refine⟨g',ho,hblk,⟨s'.box,s'.arr,s'.inj,fun q hq=> ?_,s'.bnd,s'.jI, ?_,Nat.le_trans hs.bsz hu.size,s'.nle,s'.kept,s'.keptJ⟩,k',r'⟩
 ·rcases hblk q hq with h | ⟨p,hp,e⟩
  ·exact Or.inl (Nat.le_trans hs.bsz h)
  ·rw[e];exact hs.base p hp
 ·refine hs.upd.trans ⟨hu.os,hu.tape,hu.output,hu.size,fun k hk hn=>hu.block k (Nat.lt_of_lt_of_le hk hs.bsz) fun hm=> ?_,hu.drawn⟩
  obtain⟨p,hp,e⟩:=(hT2 _).1 hm
  rcases hs.base p hp with h |h
  ·omega
  ·exact hn (e▸h)
theorem ad9(hT:∀ g fs S,tbl g fs=some S→aF Dr P g S)(hc:(rX o.op&&(impure tbl env o.op&& !yw tbl env ob o.op))=false)(h:bP P tbl env ob o.op K=some r):
  ∃ pv ob',K pv ob'=some r∧WX Dr P ob env o pv ob'∧ob.length≤ob'.length∧∀ (i:Nat) (Y:Ob),i∉mD tbl env o.op→ob[i]? =some Y→ob'[i]? =some Y:=by
 cases him:impure tbl env o.op with
 |false=>
  obtain⟨pv,ob',h1,happ,hwv⟩:=Oh hT h
  obtain⟨new,rfl⟩:=happ him
  refine⟨pv,_,h1,fun X N g w a hs he=>AA ?_ (hwv X N g w a hs he),by simp,fun i Y _ hY=> ?_⟩
  ·rintro v w' ⟨g',⟨hf,ho,_⟩,s',k',r'⟩
   exact⟨g',ho,(hf him).blk k',s',k',r'⟩
  ·rw[List.getElem?_append_left (List.getElem?_eq_some_iff.1 hY).1];exact hY
 |true=>
  rw[him,Bool.true_and]at hc
  have hc':rX o.op=true→yw tbl env ob o.op=true:=fun hv=>by rw[hv,Bool.true_and]at hc;simpa using hc
  obtain⟨pv,ob',h1,happ,hwv⟩:=Oh hT (acQ him hc' h)
  by_cases hp:TP tbl env ob o.op ob'
  ·rw[if_pos hp]at h1
   refine⟨pv,ob',h1,aeS fun X N g w a hs he=>AA ?_ (hwv X N g w a hs he),hp.1,hp.2⟩
   rintro v w' ⟨g',⟨_,ho,hb⟩,s',k',r'⟩
   exact⟨g',ho,s',k',r'⟩
  ·rw[if_neg hp]at h1;cases h1
structure FM (Dr:Kn) (P:Program) (N:Nat) (ops:List Oper) (tab:List Nat) (env0:Env) (ob0:List Ob) (vals:List (Nat×PV)) (objs:List (Nat×List Ob)) (hist:List iq) (k:Nat) (o:Oper):Prop where
 dst:vO N o.dst=true
 idv:∀ i∈bI (valOf vals k),nT tab ob0.length objs k i
 ex:∃ A os B H1 need mods H2,objs=A++(k,os)::B∧hist=H1++(k,need,mods)::H2∧
  (∀ cells,Ob.box cells∈os→∀ i∈aW cells,nT tab ob0.length objs k i)∧
  (∀ j cells,fC mods j=some (.box cells)→∀ i∈aW cells,nT tab ob0.length objs k i)∧
  (∀ j,fC mods j≠none→j∈need)∧
  (∀ i∈need,i<ob0.length+total A∧(i<ob0.length∨∃ d,iD objs (i - ob0.length)=some d∧(tab.getD k 0).testBit d=true)∧∀ h∈H1,fC h.2.2 i≠none→(tab.getD k 0).testBit h.1=true)∧
  (∀ i,fC mods i≠none→∀ h∈H1,i∈h.2.1→(tab.getD k 0).testBit h.1=true)∧
  ((∃ g want s,o.guard=some (g,want)∧(tab.getD k 0).testBit g=true∧(ops[g]?).bind (·.dst)=some s∧(valOf vals g= .skip∨∃ b,valOf vals g= .bool b∧b≠want)∧valOf vals k= .skip∧os=[]∧mods=[])∨
  ((o.guard=none∨∃ g want s,o.guard=some (g,want)∧(tab.getD k 0).testBit g=true∧(ops[g]?).bind (·.dst)=some s∧valOf vals g= .bool want)∧
   ∃ ob',WX Dr P (keepD need (jR (fun j=>(tab.getD k 0).testBit j) H1 (ob0++bV (fun j=>(tab.getD k 0).testBit j) A)) 0) (iU vals (iw tab env0 k) (fun j=>(tab.getD k 0).testBit j) ops 0++env0) o (valOf vals k) ob'∧
    ob'.length=ob0.length+total A+os.length∧(∀ j,j<os.length→ob'[ob0.length+total A+j]? =os[j]?)∧(∀ i Y,fC mods i=some Y→ob'[i]? =some Y)∧
    ∀ i Y,fC mods i=none→(keepD need (jR (fun j=>(tab.getD k 0).testBit j) H1 (ob0++bV (fun j=>(tab.getD k 0).testBit j) A)) 0)[i]? =some Y→ob'[i]? =some Y))
theorem En(T:List Nat)(f:Nat→Ob):∀ (j:Nat),fC (T.map fun i=>(i,f i)) j=if j∈T then some (f j)else none:=by
 induction T with
 |nil=>intro j;simp[fC]
 |cons a T ih=>
  intro j
  simp only[List.map_cons,fC,ih j]
  by_cases h:j∈T
  ·simp[h]
  ·by_cases h2:a=j
   ·subst h2;simp[h]
   ·have:¬ j=a:=fun e=>h2 e.symm
    simp[h,h2,this]
theorem acK{hist:List iq}{m i:Nat}(h:EY hist m i=true)(x:iq)(hx:x∈hist)(hm:fC x.2.2 i≠none):m.testBit x.1=true:=by
 unfold EY at h
 have h1:=List.all_eq_true.1 h x hx
 simp only[Bool.or_eq_true,Bool.not_eq_true']at h1
 rcases h1 with h1 |h1
 ·exfalso
  have key:∀ (l:List (Nat×Ob)),fC l i≠none→(l.any fun p=>p.1==i)=true:=by
   intro l
   induction l with
   |nil=>intro h;simp[fC]at h
   |cons p l ih=>
    obtain⟨a,Y⟩:=p
    intro h
    simp only[fC]at h
    simp only[List.any_cons,Bool.or_eq_true]
    cases hl:fC l i with
    |some Z=>right;exact ih (by rw[hl];simp)
    |none=>
     rw[hl]at h
     simp only at h
     left
     by_cases ha:a=i
     ·simp[ha]
     ·rw[if_neg ha]at h;exact absurd rfl h
  rw[key _ hm]at h1
  cases h1
 ·exact h1
set_option maxHeartbeats 1000000 in
theorem NW(hT:∀ g fs S,tbl g fs=some S→aF Dr P g S){N:Nat}{ops:List Oper}{tab:List Nat}{env0:Env}{ob0:List Ob}{K:List (Nat×PV)→List (Nat×List Ob)→List iq→Option R}:∀ (l:List (Nat×Oper)) (vals:List (Nat×PV)) (objs:List (Nat×List Ob)) (hist:List iq),
  rf P tbl N ops tab env0 ob0 l vals objs hist K=some r→l.Pairwise (fun p q=>p.1<q.1)→(∀ p∈l,∀ j,(tab.getD p.1 0).testBit j=true→j<p.1)→
  ∃ vals' objs2 hist2,K vals' (objs++objs2) (hist++hist2)=some r∧objs2.map (·.1)=l.map (·.1)∧hist2.map (·.1)=l.map (·.1)∧(∀ j,j∉l.map (·.1)→valOf vals' j=valOf vals j)∧∀ p∈l,FM Dr P N ops tab env0 ob0 vals' (objs++objs2) (hist++hist2) p.1 p.2
 | [],vals,objs,hist,h,_,_=>⟨vals,[],[],by rw[List.append_nil,List.append_nil];simpa only[rf]using h,rfl,rfl,fun _ _=>rfl,by simp⟩
 | (k,o)::l,vals,objs,hist,h,hp,hb=>by
  simp only[rf]at h
  split at h <;>try (cases h;done)
  rename_i hd
  have hp2:=List.pairwise_cons.1 hp
  have hk:k∉l.map (·.1):=fun hm=>by
   obtain⟨q,hq,he⟩:=List.mem_map.1 hm
   have:=hp2.1 q hq
   simp at this he
   omega
  have hlt:∀ j,j<k→j∉((k,o)::l).map (·.1):=fun j hj hm=>by
   simp only[List.map_cons,List.mem_cons]at hm
   rcases hm with rfl |hm
   ·omega
   ·obtain⟨q,hq,he⟩:=List.mem_map.1 hm
    have:=hp2.1 q hq
    simp at this he
    omega
  have hbk:=hb (k,o) (by simp)
  simp only at hbk
  have go:∀ vals1:List (Nat×PV),(∀ j,valOf vals1 j=valOf vals j)→(o.guard=none∨∃ g want s,o.guard=some (g,want)∧(tab.getD k 0).testBit g=true∧(ops[g]?).bind (·.dst)=some s∧valOf vals g= .bool want)→
    (if(rX o.op&&(impure tbl (gJ vals1 (iw tab env0 k) (tab.getD k 0) ops 0++env0) o.op&& !yw tbl (gJ vals1 (iw tab env0 k) (tab.getD k 0) ops 0++env0) (sU ob0 objs hist (tab.getD k 0) (qi (gJ vals1 (iw tab env0 k) (tab.getD k 0) ops 0++env0) ob0.length objs hist (tab.getD k 0) o.op)) o.op))=true then none else
     if OL hist (tab.getD k 0) (mD tbl (gJ vals1 (iw tab env0 k) (tab.getD k 0) ops 0++env0) o.op) (qi (gJ vals1 (iw tab env0 k) (tab.getD k 0) ops 0++env0) ob0.length objs hist (tab.getD k 0) o.op)=true then
      bP P tbl (gJ vals1 (iw tab env0 k) (tab.getD k 0) ops 0++env0) (sU ob0 objs hist (tab.getD k 0) (qi (gJ vals1 (iw tab env0 k) (tab.getD k 0) ops 0++env0) ob0.length objs hist (tab.getD k 0) o.op)) o.op fun v ob'=>
       if(decide (ob0.length+total objs≤ob'.length)&&EQ ob0.length (ob0.length+total objs) ob'.length objs (tab.getD k 0) (bI v)&&(ob'.drop (ob0.length+total objs)).all (BD ob0.length (ob0.length+total objs) ob'.length objs (tab.getD k 0))&&
         (mD tbl (gJ vals1 (iw tab env0 k) (tab.getD k 0) ops 0++env0) o.op).all fun i=>BD ob0.length (ob0.length+total objs) ob'.length objs (tab.getD k 0) (ob'.getD i .dead))=true then
        rf P tbl N ops tab env0 ob0 l ((k,v)::vals1) (objs++[(k,ob'.drop (ob0.length+total objs))])
         (hist++[(k,qi (gJ vals1 (iw tab env0 k) (tab.getD k 0) ops 0++env0) ob0.length objs hist (tab.getD k 0) o.op,(mD tbl (gJ vals1 (iw tab env0 k) (tab.getD k 0) ops 0++env0) o.op).map fun i=>(i,ob'.getD i .dead))]) K
       else none
     else none)=some r→
    ∃ vals' objs2 hist2,K vals' (objs++objs2) (hist++hist2)=some r∧objs2.map (·.1)=((k,o)::l).map (·.1)∧hist2.map (·.1)=((k,o)::l).map (·.1)∧(∀ j,j∉((k,o)::l).map (·.1)→valOf vals' j=valOf vals j)∧∀ p∈(k,o)::l,FM Dr P N ops tab env0 ob0 vals' (objs++objs2) (hist++hist2) p.1 p.2:=by
   intro vals1 hv hguard h
   split at h <;>try (cases h;done)
   rename_i hcv
   split at h <;>try (cases h;done)
   rename_i hfree
   generalize hneed:qi (gJ vals1 (iw tab env0 k) (tab.getD k 0) ops 0++env0) ob0.length objs hist (tab.getD k 0) o.op=need at h hfree hcv
   generalize hTT:mD tbl (gJ vals1 (iw tab env0 k) (tab.getD k 0) ops 0++env0) o.op=T at h hfree
   obtain⟨pv,ob',h1,hwx,hle,hrest⟩:=ad9 hT (by simpa using hcv) h
   rw[hTT]at hrest
   split at h1 <;>try (cases h1;done)
   rename_i hlive
   simp only[Bool.and_eq_true,decide_eq_true_eq]at hlive
   obtain⟨⟨⟨hl0,hl1⟩,hl2⟩,hl3⟩:=hlive
   obtain⟨vals',objs2,hist2,k1,k2,k2',k3,k4⟩:=NW hT l _ _ _ h1 hp2.2 (fun p hpm=>hb p (List.mem_cons_of_mem _ hpm))
   generalize hnew:ob'.drop (ob0.length+total objs)=new at*
   have hnl:new.length=ob'.length - (ob0.length+total objs):=by rw[←hnew,List.length_drop]
   have hobj:objs++[(k,new)]++objs2=objs++((k,new)::objs2):=by simp
   have hhis:hist++[(k,need,T.map fun i=>(i,ob'.getD i .dead))]++hist2=hist++((k,need,T.map fun i=>(i,ob'.getD i .dead))::hist2):=by simp
   rw[hobj,hhis]at k1 k4
   have hvk:valOf vals' k=pv:=by rw[k3 k hk];simp[valOf]
   have hvj:∀ j,j∉((k,o)::l).map (·.1)→valOf vals' j=valOf vals j:=fun j hj=>by
    simp only[List.map_cons,List.mem_cons,not_or]at hj
    rw[k3 j hj.2]
    simp only[valOf]
    rw[if_neg (fun e=>hj.1 e.symm),hv j]
   have hmv:∀ j,(tab.getD k 0).testBit j=true→valOf vals1 j=valOf vals' j:=fun j hj=>by
    rw[hvj j (hlt j (hbk j hj)),hv j]
   have okI:∀ ids,EQ ob0.length (ob0.length+total objs) ob'.length objs (tab.getD k 0) ids=true→∀ i∈ids,nT tab ob0.length (objs++(k,new)::objs2) k i:=fun ids hids i hi=>by
    have h0:=List.all_eq_true.1 hids i hi
    simp only[Bool.and_eq_true,Bool.or_eq_true,decide_eq_true_eq]at h0
    obtain⟨ha,hb2⟩:=h0
    by_cases hn0:i<ob0.length
    ·exact Or.inl hn0
    ·right
     by_cases hc:i - ob0.length<total objs
     ·rcases hb2 with hb2 |hb2
      ·omega
      ·unfold BF at hb2
       simp only[Bool.or_eq_true,decide_eq_true_eq]at hb2
       rcases hb2 with hb2 |hb2
       ·omega
       ·cases ht:iD objs (i - ob0.length)with
        |none=>rw[ht]at hb2;cases hb2
        |some d=>
         rw[ht]at hb2
         exact⟨d,by rw[NS _ _ _ hc];exact ht,Or.inl hb2⟩
     ·refine⟨k, ?_,Or.inr rfl⟩
      have:=NQ objs objs2 k new (i - ob0.length - total objs) (by omega)
      rw[show total objs+(i - ob0.length - total objs)=i - ob0.length by omega]at this
      exact this
   have okB:∀ Y,BD ob0.length (ob0.length+total objs) ob'.length objs (tab.getD k 0) Y=true→∀ cells,Y= .box cells→∀ i∈aW cells,nT tab ob0.length (objs++(k,new)::objs2) k i:=fun Y hY cells e=>by
    subst e
    exact okI _ hY
   unfold OL at hfree
   simp only[Bool.and_eq_true]at hfree
   obtain⟨hfr1,hfr2⟩:=hfree
   have hmodT:∀ j,fC (T.map fun i=>(i,ob'.getD i .dead)) j≠none→j∈T:=fun j hj=>by
    rw[En T (fun i=>ob'.getD i .dead)]at hj
    by_cases h:j∈T
    ·exact h
    ·rw[if_neg h]at hj;exact absurd rfl hj
   have hneedF:∀ i∈need,i<ob0.length+total objs∧BF ob0.length objs (tab.getD k 0) i=true∧EY hist (tab.getD k 0) i=true:=fun i hi=>by
    rw[←hneed]at hi
    unfold qi at hi
    have:=(List.mem_filter.1 hi).2
    simpa using this
   have hpl:(sU ob0 objs hist (tab.getD k 0) need).length=ob0.length+total objs:=by
    unfold sU
    rw[MQ,Et,AB];simp[rM]
   refine⟨vals',(k,new)::objs2,(k,need,T.map fun i=>(i,ob'.getD i .dead))::hist2,k1,by simp[k2],by simp[k2'],hvj,fun p hpm=> ?_⟩
   rcases List.mem_cons.1 hpm with rfl |hpm
   ·refine⟨hd,fun i hi=>okI _ hl1 i (by rw[hvk]at hi;exact hi),objs,new,objs2,hist,need,_,hist2,rfl,rfl,fun cells hc=>okB _ (List.all_eq_true.1 hl2 _ hc) cells rfl,fun j cells hm=> ?_,fun j hj=> ?_,fun i hi=> ?_,fun i hi x hx hxn=> ?_,Or.inr ⟨?_,ob', ?_,by omega,fun j hj=> ?_,fun i Y hm=> ?_,fun i Y hm hY=> ?_⟩⟩
    ·have hj:=hmodT j (by rw[hm];simp)
     rw[En T (fun i=>ob'.getD i .dead),if_pos hj]at hm
     exact okB _ (List.all_eq_true.1 hl3 j hj) cells (Option.some.inj hm)
    ·have:=List.all_eq_true.1 hfr1 j (hmodT j hj)
     simpa using this
    ·obtain⟨n1,n2,n3⟩:=hneedF i hi
     refine⟨n1, ?_,fun x hx hm=>acK n3 x hx hm⟩
     unfold BF at n2
     simp only[Bool.or_eq_true,decide_eq_true_eq]at n2
     rcases n2 with n2 |n2
     ·exact Or.inl n2
     ·by_cases hn0:i<ob0.length
      ·exact Or.inl hn0
      ·right
       cases ht:iD objs (i - ob0.length)with
       |none=>rw[ht]at n2;cases n2
       |some d=>
        rw[ht]at n2
        exact⟨d,by rw[NS _ _ _ (by omega)];exact ht,n2⟩
    ·have:=List.all_eq_true.1 hfr2 x hx
     simp only[Bool.or_eq_true,List.all_eq_true,Bool.not_eq_true']at this
     rcases this with h5 |h5
     ·exact h5
     ·have:=h5 i hxn
      simp[hmodT i hi]at this
    ·rcases hguard with hg | ⟨g,want,s,hg,hbit,hs,hval⟩
     ·exact Or.inl hg
     ·exact Or.inr ⟨g,want,s,hg,hbit,hs,by rw[hvj g (hlt g (hbk g hbit)),hval]⟩
    ·have h7:=hwx
     unfold sU at h7
     rw[AB,Nz,LK hmv]at h7
     rw[hvk]
     exact h7
    ·rw[←hnew,List.getElem?_drop]
    ·have hj:=hmodT i (by rw[hm];simp)
     rw[En T (fun i=>ob'.getD i .dead),if_pos hj]at hm
     have h8:=List.all_eq_true.1 hfr1 i hj
     have h9:=(hneedF i (by simpa using h8)).1
     rw[←Option.some.inj hm,List.getD_eq_getElem?_getD,List.getElem?_eq_getElem (by omega)]
     rfl
    ·have hnT:i∉T:=fun hin=>by
      rw[En T (fun i=>ob'.getD i .dead),if_pos hin]at hm;cases hm
     refine hrest i Y hnT ?_
     unfold sU
     rw[AB]
     exact hY
   ·exact k4 p hpm
  have over:∀ vals1:List (Nat×PV),(∀ j,valOf vals1 j=valOf vals j)→∀ g want s,o.guard=some (g,want)→(tab.getD k 0).testBit g=true→(ops[g]?).bind (·.dst)=some s→(valOf vals g= .skip∨∃ b,valOf vals g= .bool b∧b≠want)→
    rf P tbl N ops tab env0 ob0 l ((k,.skip)::vals1) (objs++[(k,[])]) (hist++[(k,[],[])]) K=some r→
    ∃ vals' objs2 hist2,K vals' (objs++objs2) (hist++hist2)=some r∧objs2.map (·.1)=((k,o)::l).map (·.1)∧hist2.map (·.1)=((k,o)::l).map (·.1)∧(∀ j,j∉((k,o)::l).map (·.1)→valOf vals' j=valOf vals j)∧∀ p∈(k,o)::l,FM Dr P N ops tab env0 ob0 vals' (objs++objs2) (hist++hist2) p.1 p.2:=by
   intro vals1 hv g want s hg hbit hs hval h1
   obtain⟨vals',objs2,hist2,k1,k2,k2',k3,k4⟩:=NW hT l _ _ _ h1 hp2.2 (fun p hpm=>hb p (List.mem_cons_of_mem _ hpm))
   have hobj:objs++[(k,([]:List Ob))]++objs2=objs++((k,[])::objs2):=by simp
   have hhis:hist++[(k,([]:List Nat),([]:List (Nat×Ob)))]++hist2=hist++((k,[],[])::hist2):=by simp
   rw[hobj,hhis]at k1 k4
   have hvk:valOf vals' k= .skip:=by rw[k3 k hk];simp[valOf]
   have hvj:∀ j,j∉((k,o)::l).map (·.1)→valOf vals' j=valOf vals j:=fun j hj=>by
    simp only[List.map_cons,List.mem_cons,not_or]at hj
    rw[k3 j hj.2]
    simp only[valOf]
    rw[if_neg (fun e=>hj.1 e.symm),hv j]
   refine⟨vals',(k,[])::objs2,(k,[],[])::hist2,k1,by simp[k2],by simp[k2'],hvj,fun p hpm=> ?_⟩
   rcases List.mem_cons.1 hpm with rfl |hpm
   ·refine⟨hd,fun i hi=>by rw[hvk]at hi;simp[bI]at hi,objs,[],objs2,hist,[],[],hist2,rfl,rfl,fun cells hc=>by simp at hc,fun j cells hm=>by simp[fC]at hm,fun j hj=>by simp[fC]at hj,fun i hi=>by simp at hi,fun i hi=>by simp[fC]at hi,Or.inl ⟨g,want,s,hg,hbit,hs, ?_,hvk,rfl,rfl⟩⟩
    rw[hvj g (hlt g (hbk g hbit))]
    exact hval
   ·exact k4 p hpm
  split at h
  ·rename_i hg
   exact go vals (fun _=>rfl) (Or.inl hg) h
  ·rename_i g want hg
   split at h <;>try (cases h;done)
   rename_i hbit
   split at h <;>try (cases h;done)
   ·rename_i s b hs hval
    have hsame:∀ j,valOf ((g,PV.bool b)::vals) j=valOf vals j:=fun j=>by
     simp only[valOf]
     split
     ·rename_i e;rw[←e,hval]
     ·rfl
    cases b with
    |true=>
     simp only[cond_true]at h
     by_cases hbw:true=want
     ·rw[if_pos hbw]at h
      exact go _ hsame (Or.inr ⟨g,want,s,hg,hbit,hs,by rw[hval,hbw]⟩) h
     ·rw[if_neg hbw]at h
      exact over _ hsame g want s hg hbit hs (Or.inr ⟨true,hval,hbw⟩) h
    |false=>
     simp only[cond_false]at h
     by_cases hbw:false=want
     ·rw[if_pos hbw]at h
      exact go _ hsame (Or.inr ⟨g,want,s,hg,hbit,hs,by rw[hval,hbw]⟩) h
     ·rw[if_neg hbw]at h
      exact over _ hsame g want s hg hbit hs (Or.inr ⟨false,hval,hbw⟩) h
   ·rename_i s hs hval
    exact over vals (fun _=>rfl) g want s hg hbit hs (Or.inl hval) h
end Go.Rv
set_option linter.unusedVariables false
set_option linter.unusedSimpArgs false
namespace Go.Rv
open Go.RowKit
variable {Dr:Kn}
variable {R:Type} {P:Program} {tbl:dX} {env:Env} {ob:List Ob} {o:Oper} {K:PV→List Ob→Option R} {r:R}
def gB(ob0:List Ob)(objs:List (Nat×List Ob))(hist:List iq)(E:Nat→Bool):List Ob:=jR E hist (ob0++bV E objs)
theorem adC(ob0:List Ob)(objs:List (Nat×List Ob))(hist:List iq)(E:Nat→Bool):(gB ob0 objs hist E).length=ob0.length+total objs:=by
 unfold gB;rw[Et];simp[rM]
structure yS (X:Cx Dr) (N:Nat) (ops:List Oper) (vals:List (Nat×PV)) (objs:List (Nat×List Ob)) (hist:List iq) (env0:Env) (ob0:List Ob) (E:Nat→Bool) (g:Gh) (a:Act) (w:World):Prop where
 sim:aK X g (gB ob0 objs hist E) w
 env:dG N g (gB ob0 objs hist E).length X.I w (iU vals (yP env0) E ops 0++env0) a
structure XR (Dr:Kn) (P:Program) (N:Nat) (ops:Array Oper) (tab:List Nat) (es:List (Nat×Oper)) (vals:List (Nat×PV)) (objs:List (Nat×List Ob)) (hist:List iq) (env0:Env) (ob0:List Ob):Prop where
 keys:objs.map (·.1)=es.map (·.1)
 keysH:hist.map (·.1)=es.map (·.1)
 sorted:es.Pairwise (fun p q=>p.1<q.1)
 bits:∀ k j,(tab.getD k 0).testBit j=true→j<k
 at_:∀ p∈es,ops[p.1]? =some p.2
 nodup:jP (jM ops.toList)=true
 all:∀ p∈es,FM Dr P N ops.toList tab env0 ob0 vals objs hist p.1 p.2
theorem Na{β:Type}:∀ (L:List (Nat×β)),(L.map (·.1)).Pairwise (· < ·)→∀ d x y,(d,x)∈L→(d,y)∈L→x=y:=by
 intro L
 induction L with
 |nil=>intro _ d x y hx;simp at hx
 |cons p L ih=>
  intro hpw d x y hx hy
  have hpw2:=List.pairwise_cons.1 hpw
  rcases List.mem_cons.1 hx with hx |hx <;>rcases List.mem_cons.1 hy with hy |hy
  ·rw[←hx]at hy;cases hy;rfl
  ·have:=hpw2.1 d (List.mem_map.2 ⟨_,hy,rfl⟩)
   rw[←hx]at this;simp at this
  ·have:=hpw2.1 d (List.mem_map.2 ⟨_,hx,rfl⟩)
   rw[←hy]at this;simp at this
  ·exact ih hpw2.2 d x y hx hy
theorem owner{f:Nat→Bool}{d:Nat}(hd:f d=true):∀ (L:List (Nat×List Ob)) (i:Nat) (Y:Ob),(bV f L)[i]? =some Y→iD L i=some d→∃ os',(d,os')∈L∧Y∈os':=by
 intro L
 induction L with
 |nil=>intro i Y h;simp[bV]at h
 |cons p L ih=>
  obtain⟨kp,op⟩:=p
  intro i Y h ht
  simp only[bV]at h
  simp only[iD]at ht
  have hl:(if f kp=true then op else jQ op).length=op.length:=by split <;>simp[pX]
  split at ht
  ·rename_i hi
   have:=Option.some.inj ht
   subst this
   rw[List.getElem?_append_left (by omega),if_pos hd]at h
   exact⟨op,by simp,List.mem_of_getElem? h⟩
  ·rename_i hi
   rw[List.getElem?_append_right (by omega),hl]at h
   obtain⟨os',h1,h2⟩:=ih _ _ h ht
   exact⟨os',List.mem_cons_of_mem _ h1,h2⟩
theorem ac6(a os b:List Ob)(j:Nat)(h:¬ (a.length≤j∧j<a.length+os.length)):(a++os++b)[j]? =(a++jQ os++b)[j]? :=by
 rw[List.append_assoc,List.append_assoc]
 by_cases h1:j<a.length
 ·rw[List.getElem?_append_left h1,List.getElem?_append_left h1]
 ·rw[List.getElem?_append_right (by omega),List.getElem?_append_right (l₁:=a) (by omega),List.getElem?_append_right (l₁:=os) (by omega),List.getElem?_append_right (l₁:=jQ os) (by rw[pX];omega),pX]
set_option maxHeartbeats 1000000 in
theorem ab7{X:Cx Dr}{N:Nat}{ops:Array Oper}{tab:List Nat}{es:List (Nat×Oper)}{vals:List (Nat×PV)}{objs:List (Nat×List Ob)}{hist:List iq}{env0:Env}{ob0:List Ob}(hb:Base ob0 env0 X)(hp:XR Dr P N ops tab es vals objs hist env0 ob0)
  {k:Nat} (hk:(k,o)∈es) {E:Nat→Bool} (hE:E k=false) (hcl:∀ d,(tab.getD k 0).testBit d=true→E d=true) (hclE:∀ j,E j=true→∀ d,(tab.getD j 0).testBit d=true→E d=true) (hEs:∀ j,E j=true→∃ q∈es,q.1=j) {g:Gh} {a:Act} {w:World} (hi:yS X N ops.toList vals objs hist env0 ob0 E g a w) {Q:Exit→Act→World→Prop}:
  wpOp P ops Q k (fun a' w'=>∃ g',yS X N ops.toList vals objs hist env0 ob0 (fun j=>E j||j==k) g' a' w') a w:=by
 obtain⟨hdst,hidv,A,os,B,H1,need,mods,H2,hobj,hhist,hids,hidm,hmn,hneed,hc2,hcase⟩:=hp.all _ hk
 simp only at hdst hidv hobj hhist hids hidm hmn hneed hc2 hcase
 have hopk:=hp.at_ _ hk
 simp only at hopk
 have hkeys:(objs.map (·.1)).Pairwise (· < ·):=by
  rw[hp.keys]
  exact List.pairwise_map.2 hp.sorted
 have hkeysH:(hist.map (·.1)).Pairwise (· < ·):=by
  rw[hp.keysH]
  exact List.pairwise_map.2 hp.sorted
 have hsrt:(A.map (·.1)++k::B.map (·.1)).Pairwise (· < ·):=by rw[hobj]at hkeys;simpa using hkeys
 have hs1:=List.pairwise_append.1 hsrt
 have hAk:∀ q∈A.map (·.1),q<k:=fun q hq=>hs1.2.2 q hq k (by simp)
 have hBk:∀ q∈B,k<q.1:=fun q hq=>(List.pairwise_cons.1 hs1.2.1).1 q.1 (List.mem_map.2 ⟨q,hq,rfl⟩)
 have hA:k∉A.map (·.1):=fun hm=>by have:=hAk k hm;omega
 have hB:k∉B.map (·.1):=fun hm=>by
  obtain⟨q,hq,e⟩:=List.mem_map.1 hm
  have:=hBk q hq
  omega
 obtain⟨hm1,hm2⟩:=acr (os:=os) hA hB hE
 have htA:(bV E A).length=total A:=rM E A
 have hsrtH:(H1.map (·.1)++k::H2.map (·.1)).Pairwise (· < ·):=by rw[hhist]at hkeysH;simpa using hkeysH
 have hsH:=List.pairwise_append.1 hsrtH
 have hH1:∀ h∈H1,h.1<k:=fun h hh=>hsH.2.2 h.1 (List.mem_map.2 ⟨h,hh,rfl⟩) k (by simp)
 have hH2:∀ h∈H2,k<h.1:=fun h hh=>(List.pairwise_cons.1 hsH.2.1).1 h.1 (List.mem_map.2 ⟨h,hh,rfl⟩)
 have hrec:(k,need,mods)∈hist:=by rw[hhist];simp
 have recOf:∀ h∈hist,∃ q∈es,q.1=h.1:=fun h hh=>by
  have:h.1∈es.map (·.1):=by rw[←hp.keysH];exact List.mem_map.2 ⟨h,hh,rfl⟩
  obtain⟨q,hq,e⟩:=List.mem_map.1 this
  exact⟨q,hq,e⟩
 have rec1:∀ h∈hist,∀ i,fC h.2.2 i≠none→(i<ob0.length∨∃ d,iD objs (i - ob0.length)=some d∧(tab.getD h.1 0).testBit d=true)∧(∀ x∈hist,x.1<h.1→i∈x.2.1→(tab.getD h.1 0).testBit x.1=true)∧(∀ cells,fC h.2.2 i=some (.box cells)→∀ z∈aW cells,nT tab ob0.length objs h.1 z):=fun h hh i hm=>by
  obtain⟨q,hq,e⟩:=recOf h hh
  obtain⟨_,_,A2,os2,B2,G1,need2,mods2,G2,_,hhist2,_,hidm2,hmn2,hneed2,hc22,_⟩:=hp.all q hq
  rw[e]at hhist2 hidm2 hneed2 hc22
  have hmem:(h.1,need2,mods2)∈hist:=by rw[hhist2];simp
  have hu:h.2=(need2,mods2):=Na hist hkeysH h.1 h.2 (need2,mods2) hh hmem
  have hu2:h.2.2=mods2:=by rw[hu]
  rw[hu2]at hm
  refine⟨(hneed2 i (hmn2 i hm)).2.1,fun x hx hlt hxi=> ?_,fun cells hcells=> ?_⟩
  ·refine hc22 i hm x ?_ hxi
   rw[hhist2]at hx hkeysH
   have hsG:(G1.map (·.1)++h.1::G2.map (·.1)).Pairwise (· < ·):=by simpa using hkeysH
   have hsG2:=List.pairwise_append.1 hsG
   rcases List.mem_append.1 hx with hx |hx
   ·exact hx
   ·rcases List.mem_cons.1 hx with hx |hx
    ·rw[hx]at hlt;simp at hlt
    ·have:=(List.pairwise_cons.1 hsG2.2.1).1 x.1 (List.mem_map.2 ⟨x,hx,rfl⟩)
     omega
  ·rw[hu2]at hcells
   exact hidm2 i cells hcells
 have lookE:∀ (u:Nat→Nat→PV) (f:Nat→Bool) (j:Nat) (oj:Oper) (s:Nat),ops[j]? =some oj→oj.dst=some s→look (iU vals u f ops.toList 0++env0) s=if f j=true then valOf vals j else u j s:=fun u f j oj s hj hd=>by
  have:=AZ (vals:=vals) (u:=u) (f:=f) (env0:=env0) ops.toList 0 j oj hp.nodup (by simpa using hj) hd
  simpa using this
 have lookN:∀ (u:Nat→Nat→PV) (f:Nat→Bool) (s:Nat),(∀ (j:Nat) (oj:Oper),ops[j]? =some oj→oj.dst≠some s)→look (iU vals u f ops.toList 0++env0) s=look env0 s:=fun u f s h=>
  MN ops.toList 0 fun j oj hj=>h j oj (by simpa using hj)
 have range:∀ i,ob0.length+total A≤i→i<ob0.length+total A+os.length→iD objs (i - ob0.length)=some k:=fun i h1 h2=>by
  have:=NQ A B k os (i - ob0.length - total A) (by omega)
  rw[show total A+(i - ob0.length - total A)=i - ob0.length by omega]at this
  rw[hobj];exact this
 have notIn:∀ j,E j=true→∀ i,nT tab ob0.length objs j i→¬ (ob0.length+total A≤i∧i<ob0.length+total A+os.length):=fun j hj i hok hr=>by
  rcases hok with h | ⟨d,h1,h2⟩
  ·omega
  ·rw[range i hr.1 hr.2]at h1
   have:=Option.some.inj h1
   subst this
   rcases h2 with h2 |h2
   ·rw[hclE j hj k h2]at hE;cases hE
   ·rw[h2,hj]at hE;cases hE
 have early:∀ j,j<k→∀ i,nT tab ob0.length objs j i→i<ob0.length+total A:=fun j hj i hok=>by
  rcases hok with h | ⟨d,h1,h2⟩
  ·omega
  ·have hd:d<k:=by
    rcases h2 with h2 |h2
    ·have:=hp.bits j d h2;omega
    ·omega
   rw[hobj]at h1
   have:=Xb A os B _ d hBk h1 hd
   omega
 have popOf:∀ j,E j=true→∀ i∈bI (valOf vals j),nT tab ob0.length objs j i:=fun j hEj i hii=>by
  obtain⟨q,hq,e⟩:=hEs j hEj
  have:=(hp.all q hq).idv i (by rw[e];exact hii)
  rw[e]at this
  exact this
 have main:∀ (v:Value) (w':World) (g':Gh),aK X g' (gB ob0 objs hist fun j=>E j||j==k) w'→(∀ z u,(∀ i∈bI z,¬ (ob0.length+total A≤i∧i<ob0.length+total A+os.length))→aj g (gB ob0 objs hist E).length X.I w z u→aj g' (gB ob0 objs hist fun j=>E j||j==k).length X.I w' z u)→
   aj g' (gB ob0 objs hist fun j=>E j||j==k).length X.I w' (valOf vals k) v→∃ g',yS X N ops.toList vals objs hist env0 ob0 (fun j=>E j||j==k) g' (a.put o.dst v) w':=by
  intro v w' g' s' hold hv
  refine⟨g',s', ?_, ?_,fun s=> ?_⟩
  ·have:=hi.env.1
   cases hd:o.dst <;>simp[Act.put,this]
  ·have:=hi.env.2.1
   cases hd:o.dst <;>simp[Act.put,this]
  ·have ht:∀ (h:o.dst≠some s),(a.put o.dst v).tmps.getD s undef=a.tmps.getD s undef:=fun h=>by
    cases hd:o.dst with
    |none=>rfl
    |some d=>
     have hne:d≠s:=fun e=>h (by rw[hd,e])
     simp[Act.put,Array.getD_eq_getD_getElem?, Array.getElem?_setIfInBounds,hne]
   have hslot:=hi.env.2.2 s
   by_cases hex:∃ (j:Nat) (oj:Oper),ops[j]? =some oj∧oj.dst=some s
   ·obtain⟨j,oj,hj,hjd⟩:=hex
    rw[lookE _ _ j oj s hj hjd]
    by_cases hjk:j=k
    ·subst hjk
     rw[hopk]at hj
     obtain rfl:=Option.some.inj hj
     have hsN:s<N:=by rw[hjd]at hdst;simpa [vO]using hdst
     have:(a.put o.dst v).tmps.getD s undef=v:=by
      rw[hjd]
      simp[Act.put,Array.getD_eq_getD_getElem?, hi.env.1,hsN]
     rw[this]
     simpa using hv
    ·have hne:o.dst≠some s:=fun e=>hjk (Oi ops.toList j k oj o hp.nodup (by simpa using hj) (by simpa using hopk) hjd e)
     rw[ht hne]
     rw[lookE _ E j oj s hj hjd]at hslot
     by_cases hEj:E j=true
     ·have e1:(E j||j==k)=true:=by simp[hEj]
      rw[if_pos e1]
      rw[if_pos hEj]at hslot
      exact hold _ _ (fun i hii=>notIn j hEj i (popOf j hEj i hii)) hslot
     ·have e1:¬ (E j||j==k)=true:=by simp[hEj,hjk]
      rw[if_neg e1]
      rw[if_neg hEj]at hslot
      exact hold _ _ (fun i hii hr=>by have:=hb.env s i hii;omega) hslot
   ·have hnone:∀ (j:Nat) (oj:Oper),ops[j]? =some oj→oj.dst≠some s:=fun j oj hj e=>hex ⟨j,oj,hj,e⟩
    rw[lookN _ _ s hnone]
    rw[lookN _ E s hnone]at hslot
    rw[ht (hnone k o hopk)]
    exact hold _ _ (fun i hii hr=>by have:=hb.env s i hii;omega) hslot
 have hwp:∀ (K':Act→World→Prop),(Region.wanted o (yielded ops a.tmps)=true→nV P o a w fun v w'=>K' (a.put o.dst v) w')→(Region.wanted o (yielded ops a.tmps)=false→K' (a.put o.dst undef) w)→wpOp P ops Q k K' a w:=fun K' h1 h2=>by
  unfold wpOp
  rw[hopk]
  simp only
  by_cases hw:Region.wanted o (yielded ops a.tmps)=true
  ·rw[if_pos hw]
   exact Or.inl (Xn (h1 hw))
  ·rw[if_neg hw]
   exact h2 (by simpa using hw)
 have guardE:∀ gd s,(tab.getD k 0).testBit gd=true→(ops.toList[gd]?).bind (·.dst)=some s→look (iU vals (yP env0) E ops.toList 0++env0) s=valOf vals gd∧yH ops gd=some s:=fun gd s hbit hs=>by
  have hs':(ops[gd]?).bind (·.dst)=some s:=by simpa using hs
  obtain⟨og,ho1,ho2⟩:=Option.bind_eq_some_iff.1 hs'
  refine⟨?_,hs'⟩
  rw[lookE _ E gd og s ho1 ho2,if_pos (hcl gd hbit)]
 have notLate:∀ i∈need,∀ h∈H2,fC h.2.2 i≠none→E h.1=false:=fun i hin h hh hm=>by
  cases hEh:E h.1 with
  |false=>rfl
  |true=>
   have hhm:h∈hist:=by rw[hhist];simp[hh]
   have:=(rec1 h hhm i hm).2.1 (k,need,mods) hrec (hH2 h hh) hin
   have:=hclE h.1 hEh k this
   rw[hE]at this
   cases this
 have lastE:∀ i∈need,fD E hist i=fD (fun j=>(tab.getD k 0).testBit j) H1 i:=fun i hin=>by
  rw[hhist,MP,Ef ((k,need,mods)::H2) i fun h hh hm=> ?_]
  ·exact LM H1 i fun h hh hm=>by
    have:=(hneed i hin).2.2 h hh hm
    rw[this]
    exact hcl h.1 this
  ·rcases List.mem_cons.1 hh with rfl |hh
   ·exact hE
   ·exact notLate i hin h hh hm
 have hlen':∀ f,(gB ob0 objs hist f).length=ob0.length+total A+os.length+total B:=fun f=>by
  rw[adC,hobj,MF];simp only[total];omega
 have baseE:ob0++bV E objs=ob0++(bV E A++jQ os++bV E B):=by rw[hobj,hm1]
 have baseE':ob0++bV (fun j=>E j||j==k) objs=ob0++(bV E A++os++bV E B):=by rw[hobj,hm2]
 have baseSame:∀ i,¬ (ob0.length+total A≤i∧i<ob0.length+total A+os.length)→(ob0++(bV E A++os++bV E B))[i]? =(ob0++(bV E A++jQ os++bV E B))[i]? :=fun i hr=>by
  by_cases h0:i<ob0.length
  ·rw[List.getElem?_append_left h0,List.getElem?_append_left h0]
  ·rw[List.getElem?_append_right (by omega),List.getElem?_append_right (l₁:=ob0) (by omega)]
   exact ac6 (bV E A) os (bV E B) _ (by omega)
 have lastNo:∀ i,fC mods i=none→fD (fun j=>E j||j==k) hist i=fD E hist i:=fun i hm=>LM hist i fun h hh hhm=>by
  by_cases e:h.1=k
  ·exfalso
   have:h.2=(need,mods):=Na hist hkeysH k h.2 (need,mods) (by rw[←e];exact hh) hrec
   rw[this]at hhm
   exact hhm hm
  ·simp[e]
 rcases hcase with ⟨gd,want,s,hg,hbit,hs,hval,hvk,rfl,rfl⟩ | ⟨hguard,ob',hwx,hol,hos,hmd,hrest⟩
 ·-- stepped over
  obtain⟨hl,hgs⟩:=guardE gd s hbit hs
  have hwant:Region.wanted o (yielded ops a.tmps)=false:=by
   rcases hval with hval | ⟨b,hval,hne⟩
   ·exact Um hi.env hg hgs (by rw[hl,hval])
   ·rw[NI hi.env hg hgs (by rw[hl,hval])]
    simpa using hne
  refine hwp _ (fun h=>by rw[hwant]at h;cases h) fun _=> ?_
  have hst:(gB ob0 objs hist fun j=>E j||j==k)=gB ob0 objs hist E:=by
   apply List.ext_getElem?
   intro i
   unfold gB
   rw[oC,oC,lastNo i rfl,baseE,baseE']
   rw[baseSame i (by simp)]
   cases fD E hist i <;>simp[pX]
  refine main undef w g (by rw[hst];exact hi.sim) (fun z u _ hz=>by rw[hst];exact hz) (by rw[hvk];simp[aj])
 ·have hwant:Region.wanted o (yielded ops a.tmps)=true:=by
   rcases hguard with hg | ⟨gd,want,s,hg,hbit,hs,hval⟩
   ·simp[Region.wanted,hg]
   ·obtain⟨hl,hgs⟩:=guardE gd s hbit hs
    rw[NI hi.env hg hgs (by rw[hl,hval])]
    simp
  refine hwp _ (fun _=> ?_) fun h=>by rw[hwant]at h;cases h
  generalize hpart:keepD need (jR (fun j=>(tab.getD k 0).testBit j) H1 (ob0++bV (fun j=>(tab.getD k 0).testBit j) A)) 0=part at hwx hrest
  have hml:part.length=ob0.length+total A:=by rw[←hpart,MQ,Et];simp[rM]
  have pget:∀ (i:Nat) (Y:Ob),part[i]? =some Y→Y= .dead∨(i∈need∧(jR (fun j=>(tab.getD k 0).testBit j) H1 (ob0++bV (fun j=>(tab.getD k 0).testBit j) A))[i]? =some Y):=fun i Y h=>by
   rw[←hpart,UK,Nat.zero_add]at h
   obtain⟨Z,hZ,hY⟩:=Option.map_eq_some_iff.1 h
   by_cases hc:need.contains i=true
   ·rw[if_pos hc]at hY
    subst hY
    exact Or.inr ⟨by simpa using hc,hZ⟩
   ·rw[if_neg hc]at hY
    exact Or.inl hY.symm
  have hsub:∀ (i:Nat) (Y:Ob),part[i]? =some Y→Y= .dead∨(gB ob0 objs hist E)[i]? =some Y:=fun i Y h=>by
   rcases pget i Y h with h | ⟨hin,h⟩
   ·exact Or.inl h
   ·rw[oC]at h
    unfold gB
    rw[oC,lastE i hin]
    cases hl:fD (fun j=>(tab.getD k 0).testBit j) H1 i with
    |some Z=>
     rw[hl]at h
     simp only at h ⊢
     split at h <;>try (cases h;done)
     have hlt:=(hneed i hin).1
     rw[if_pos (by rw[List.length_append,rM,hobj,MF];omega)]
     exact Or.inr h
    |none=>
     rw[hl]at h
     simp only at h ⊢
     by_cases ho:i<ob0.length
     ·rw[List.getElem?_append_left ho]at h ⊢
      exact Or.inr h
     ·rw[List.getElem?_append_right (by omega)]at h ⊢
      have hlt:i - ob0.length<total A:=by
       have:=(List.getElem?_eq_some_iff.1 h).1
       rwa [rM]at this
      rcases Vu (f':=E) (fun j hj=>hcl j hj) A _ Y h with h1 |h1
      ·exact Or.inl h1
      ·right
       rw[hobj,Eo,List.getElem?_append_left (by rw[rM];exact hlt)]
       exact h1
  have ownOk:∀ (f:Nat→Bool) (L:List (Nat×List Ob)) (C2:List (Nat×List Ob)),objs=L++C2→∀ (i d:Nat) (cells:List PV),(bV f L)[i]? =some (.box cells)→iD L i=some d→f d=true→∀ z∈aW cells,nT tab ob0.length objs d z:=fun f L C2 hL i d cells h ht hd z hz=>by
   have hmem:=NR _ _ _ ht
   have hde:d∈es.map (·.1):=by rw[←hp.keys,hL];simp at hmem ⊢;exact Or.inl hmem
   obtain⟨q,hq,e⟩:=List.mem_map.1 hde
   obtain⟨_,_,A2,os2,B2,_,_,_,_,hobj2,_,hids2,_⟩:=hp.all q hq
   rw[e]at hobj2 hids2
   obtain⟨os',h1,h2⟩:=owner hd L i _ h ht
   have m1:(d,os')∈objs:=by rw[hL];simp[h1]
   have m2:(d,os2)∈objs:=by rw[hobj2];simp
   rw[Na objs hkeys d os' os2 m1 m2]at h2
   exact hids2 cells h2 z hz
  have hbox:∀ (o:Nat) (cells:List PV),part[o]? =some (.box cells)→∀ i∈aW cells,i<part.length:=fun o cells h i hii=>by
   rw[hml]
   rcases pget o _ h with h | ⟨hin,h⟩
   ·cases h
   ·rw[oC]at h
    cases hl:fD (fun j=>(tab.getD k 0).testBit j) H1 o with
    |some Z=>
     rw[hl]at h
     simp only at h
     split at h <;>try (cases h;done)
     have hZ:=Option.some.inj h
     obtain⟨x,hx,hx1,hx2⟩:=MO H1 o Z hl
     rw[hZ]at hx2
     have hxm:x∈hist:=by rw[hhist];simp[hx]
     exact early x.1 (hH1 x hx) i ((rec1 x hxm o (by rw[hx2];simp)).2.2 cells hx2 i hii)
    |none=>
     rw[hl]at h
     simp only at h
     by_cases ho:o<ob0.length
     ·rw[List.getElem?_append_left ho]at h
      have:=hb.ob o cells h i hii
      omega
     ·rw[List.getElem?_append_right (by omega)]at h
      obtain⟨d,hd1,hd2⟩:=ML _ A _ _ h (by simp)
      exact early d (hp.bits k d hd2) i (ownOk _ A _ hobj _ d cells h hd1 hd2 i hii)
  have hsm:aK X g part w:=hi.sim.part (by rw[hml,hlen'];omega) (by rw[hml];have:=hb.n0;omega) hsub hbox
  have hem:dG N g part.length X.I w (iU vals (iw tab env0 k) (fun j=>(tab.getD k 0).testBit j) ops.toList 0++env0) a:=by
   refine⟨hi.env.1,hi.env.2.1,fun s=> ?_⟩
   have hslot:=hi.env.2.2 s
   have move:∀ z u,(∀ i∈bI z,i<ob0.length+total A)→aj g (gB ob0 objs hist E).length X.I w z u→aj g part.length X.I w z u:=fun z u hz hr=>
    aj.agree rfl hi.sim.jI (fun _ _=>rfl) z u (fun i hii _=>⟨by rw[hml];exact hz i hii,Agree.refl _ _⟩) hr
   by_cases hex:∃ (j:Nat) (oj:Oper),ops[j]? =some oj∧oj.dst=some s
   ·obtain⟨j,oj,hj,hjd⟩:=hex
    rw[lookE _ _ j oj s hj hjd]
    rw[lookE _ E j oj s hj hjd]at hslot
    by_cases hbj:(tab.getD k 0).testBit j=true
    ·rw[if_pos hbj]
     rw[if_pos (hcl j hbj)]at hslot
     exact move _ _ (fun i hii=>early j (hp.bits k j hbj) i (popOf j (hcl j hbj) i hii)) hslot
    ·rw[if_neg hbj]
     simp only[iw]
     by_cases hl:(tab.getD j 0).testBit k=true
     ·rw[if_pos hl]
      have hEj:¬ E j=true:=fun h=>by
       have:=hclE j h k hl
       rw[hE]at this
       cases this
      rw[if_neg hEj]at hslot
      exact move _ _ (fun i hii=>by have:=hb.env s i hii;omega) hslot
     ·rw[if_neg hl]
      simp[aj]
   ·have hnone:∀ (j:Nat) (oj:Oper),ops[j]? =some oj→oj.dst≠some s:=fun j oj hj e=>hex ⟨j,oj,hj,e⟩
    rw[lookN _ _ s hnone]
    rw[lookN _ E s hnone]at hslot
    exact move _ _ (fun i hii=>by have:=hb.env s i hii;omega) hslot
  refine AA ?_ (hwx X N g w a hsm hem)
  rintro v w' ⟨g',honly,hblk,s',k',r'⟩
  have hidE:∀ (o:Nat) (cells:List PV),(gB ob0 objs hist E)[o]? =some (.box cells)→∀ i∈aW cells,¬ (ob0.length+total A≤i∧i<ob0.length+total A+os.length):=fun o cells h i hii=>by
   unfold gB at h
   rw[oC]at h
   cases hl:fD E hist o with
   |some Z=>
    rw[hl]at h
    simp only at h
    split at h <;>try (cases h;done)
    have hZ:=Option.some.inj h
    obtain⟨x,hx,hx1,hx2⟩:=MO hist o Z hl
    rw[hZ]at hx2
    exact notIn x.1 hx1 i ((rec1 x hx o (by rw[hx2];simp)).2.2 cells hx2 i hii)
   |none=>
    rw[hl]at h
    simp only at h
    by_cases ho:o<ob0.length
    ·rw[List.getElem?_append_left ho]at h
     have:=hb.ob o cells h i hii
     omega
    ·rw[List.getElem?_append_right (by omega)]at h
     obtain⟨d,hd1,hd2⟩:=ML _ objs _ _ h (by simp)
     exact notIn d hd2 i (ownOk E objs [] (by simp) _ d cells h hd1 hd2 i hii)
  have hnew:∀ (o:Nat) (Y:Ob),(gB ob0 objs hist fun j=>E j||j==k)[o]? =some Y→(o<ob0.length+total A+os.length∧ob'[o]? =some Y)∨(¬ (ob0.length+total A≤o∧o<ob0.length+total A+os.length)∧¬ aJ g part o∧(gB ob0 objs hist E)[o]? =some Y):=fun o Y h=>by
   by_cases hr:ob0.length+total A≤o∧o<ob0.length+total A+os.length
   ·left
    refine⟨hr.2, ?_⟩
    unfold gB at h
    rw[oC,Ef hist o fun x hx hm=> ?_,baseE']at h
    ·simp only at h
     rw[List.getElem?_append_right (by omega),List.append_assoc,List.getElem?_append_right (by omega),List.getElem?_append_left (by omega)]at h
     have:=hos (o - ob0.length - (bV E A).length) (by omega)
     rw[show ob0.length+total A+(o - ob0.length - (bV E A).length)=o by omega]at this
     rw[this]
     exact h
    ·cases hEx:(E x.1||x.1==k)with
     |false=>rfl
     |true=>
      exfalso
      rcases(rec1 x hx o hm).1 with h0 | ⟨d,hd1,hd2⟩
      ·omega
      ·rw[range o hr.1 hr.2]at hd1
       have:=Option.some.inj hd1
       subst this
       by_cases e:x.1=k
       ·rw[e]at hd2;have:=hp.bits k k hd2;omega
       ·have hEx1:E x.1=true:=by simpa [e]using hEx
        have:=hclE x.1 hEx1 k hd2
        rw[hE]at this
        cases this
   ·cases hmo:fC mods o with
    |some Z=>
     have hin:=hmn o (by rw[hmo];simp)
     have hlt:=(hneed o hin).1
     left
     refine⟨by omega, ?_⟩
     have hlast:fD (fun j=>E j||j==k) hist o=some Z:=by
      rw[hhist,MP]
      have h2:fD (fun j=>E j||j==k) H2 o=none:=Ef H2 o fun x hx hm=>by
       have hne:x.1≠k:=fun e=>by have:=hH2 x hx;omega
       have:=notLate o hin x hx hm
       simp[this,hne]
      simp only[fD,h2]
      simp[hmo]
     unfold gB at h
     rw[oC,hlast]at h
     simp only at h
     split at h <;>try (cases h;done)
     rw[←Option.some.inj h]
     exact hmd o Z hmo
    |none=>
     have hsame:(gB ob0 objs hist E)[o]? =some Y:=by
      unfold gB at h ⊢
      rw[oC,lastNo o hmo,baseE']at h
      rw[oC,baseE]
      rw[baseSame o hr]at h
      cases hl:fD E hist o with
      |some Z=>rw[hl]at h;simpa [pX]using h
      |none=>rw[hl]at h;exact h
     by_cases hbk:aJ g part o
     ·left
      have hlt:=hbk.lt
      have hp1:part[o]? =some Y:=by
       rcases hbk with ⟨cells,hbk⟩ | ⟨e,xs,hbk,_⟩
       ·rcases hsub o _ hbk with h3 |h3
        ·cases h3
        ·rw[hsame]at h3;rw[h3];exact hbk
       ·rcases hsub o _ hbk with h3 |h3
        ·cases h3
        ·rw[hsame]at h3;rw[h3];exact hbk
      exact⟨by omega,hrest o Y hmo hp1⟩
     ·exact Or.inr ⟨hr,hbk,hsame⟩
  rw[hml]at k'
  obtain⟨c1,c2,c3⟩:=adr (full:=gB ob0 objs hist E) (full':=gB ob0 objs hist fun j=>E j||j==k) (c:=ob0.length+total A) (m:=os.length) hi.sim hml hsub (by have:=hb.n0;omega) (by rw[hlen'];omega) (by rw[hlen',hlen']) hol s' k' honly (Or.inl hblk) hnew hidE
  exact main v w' _ c1 c2 (c3 _ _ r')
end Go.Rv
set_option linter.unusedVariables false
set_option linter.unusedSimpArgs false
namespace Go.Rv
open Go.RowKit
variable {Dr:Kn}
variable {R:Type} {P:Program} {tbl:dX} {env:Env} {ob:List Ob} {o:Oper} {r:R}
theorem TN{f f':Nat→Bool}:∀ (hist:List iq) (l:List Ob),(∀ h∈hist,f h.1=f' h.1)→jR f hist l=jR f' hist l
 | [],_,_=>rfl
 |h::r,l,hh=>by
  simp only[jR]
  rw[hh h (by simp),TN r _ fun x hx=>hh x (List.mem_cons_of_mem _ hx)]
theorem Us:∀ (hist:List iq) (l:List Ob),jR (fun _=>false) hist l=l
 | [],_=>rfl
 |h::r,l=>by simp only[jR,Bool.false_eq_true,if_false];exact Us r l
theorem acH(hm:P.follows .mixedOrders=true)(hT:∀ g fs S,tbl g fs=some S→aF Dr P g S){N:Nat}{ops:Array Oper}{X:Cx Dr}{K:Env→List Ob→Option R}{g:Gh}{w:World}{a:Act}{id:Nat}{Q:Exit→Act→World→Prop}(h:MG P tbl N ops env ob K=some r)(hs:aK X g ob w)(he:dG N g ob.length X.I w env a)
  (hQ:∀ env' ob' g' w' a',K env' ob'=some r→aK X g' ob' w'→dG N g' ob'.length X.I w' env' a'→Q .normal a' w'):(Code.region id ops true).wp P Q a w:=by
 unfold MG at h
 generalize htab:Bl ops.toList []=tab at h
 generalize hes:nN ops.toList 0=es at h
 split at h <;>try (cases h;done)
 rename_i hok
 simp only[Bool.and_eq_true,List.all_eq_true]at hok
 obtain⟨hnd,hbk⟩:=hok
 have hback:Back ops.toList:=fun k o hk e he2 hbb=>by
  have:=hbk (k,o) (by rw[←hes];exact(Aj _ _ _).2 ⟨k,hk,by simp⟩)
  exact(Array.all_eq_true_iff_forall_mem.1 this e he2) |> fun h=>by simpa [hbb]using h
 have hdep:=UO ops.toList ops.toList [] (by simp) (fun k x hb=>by simp at hb)
 rw[htab]at hdep
 have hreach:∀ k x,(tab.getD k 0).testBit x=true→Reach ops.toList k x:=fun k x hb=>(hdep k x hb).1
 have hbits:∀ k x,(tab.getD k 0).testBit x=true→x<k:=fun k x hb=>(hdep k x hb).2 hback
 have hsort:es.Pairwise (fun p q=>p.1<q.1):=by rw[←hes];exact Rx ops.toList 0
 have hat:∀ p∈es,ops[p.1]? =some p.2:=fun p hp=>by
  rw[←hes]at hp
  obtain⟨j,h1,h2⟩:=(Aj _ _ _).1 hp
  have:p.1=j:=by omega
  rw[this];simpa using h1
 have hpart:∀ j,(hj:j<ops.size)→(j,ops[j])∈es:=fun j hj=>by
  rw[←hes];exact(Aj _ _ _).2 ⟨j,by simp[hj],by simp⟩
 obtain⟨vals,objs,hist,hK,hkeys,hkeysH,_,hall⟩:=NW hT es [] [] [] h hsort (fun p _ j hb=>hbits p.1 j hb)
 simp only[List.nil_append]at hK hall
 refine wp_region_any hm ?_
 have hd:Below Dr w.heap.size w w.drew:=(Below.refl _ _).drew
 obtain⟨hs0,k0⟩:=hs.up hd
 have he0:=he.keep k0
 have hbase:Base ob env X:=⟨hs.nle,fun o cells ho=>by
  obtain⟨us,t,_,h2,_⟩:=hs.box o cells ho
  exact UE cells us h2,fun s=>Vl _ _ (he.2.2 s)⟩
 have hplan:XR Dr P N ops tab es vals objs hist env ob:=⟨hkeys,hkeysH,hsort,hbits,hat,hnd,hall⟩
 have hall':∀ k,k<ops.size→(oK es).testBit k=true:=fun k hk=>(VR es 0 k).2 (Or.inr (List.mem_map.2 ⟨_,hpart k hk,rfl⟩))
 have hinv0:yS X N ops.toList vals objs hist env ob (fun _=>false) g a w.drew:=by
  obtain⟨s1,k1⟩:=VL (bV (fun _=>false) objs) ob hs0 (UJ objs)
  have e0:gB ob objs hist (fun _=>false)=ob++bV (fun _=>false) objs:=Us hist _
  refine⟨by rw[e0];exact s1, ?_⟩
  rw[e0]
  refine⟨(he0.keep k1).1,(he0.keep k1).2.1,fun s=> ?_⟩
  by_cases hex:∃ (j:Nat) (oj:Oper),ops.toList[j]? =some oj∧oj.dst=some s
  ·obtain⟨j,oj,hj,hjd⟩:=hex
   rw[AZ ops.toList 0 j oj hnd hj hjd,if_neg (by simp)]
   exact(he0.keep k1).2.2 s
  ·rw[MN ops.toList 0 fun j oj hj e=>hex ⟨j,oj,hj,e⟩]
   exact(he0.keep k1).2.2 s
 have fin:∀ (L:Array Bool) (a:Act) (w:World) (g:Gh),(∀ j,j<ops.size→L.getD j false=true)→yS X N ops.toList vals objs hist env ob (fun j=>L.getD j false) g a w→Q .normal a w:=fun L a w g hL hi=>by
  have kO:∀ k∈objs.map (·.1),L.getD k false=(oK es).testBit k:=fun k hk=>by
   rw[hkeys]at hk
   obtain⟨q,hq,e⟩:=List.mem_map.1 hk
   have h1:=(Array.getElem?_eq_some_iff.1 (hat q hq)).1
   rw[hL k (by omega),hall' k (by omega)]
  have kH:∀ x∈hist,L.getD x.1 false=(oK es).testBit x.1:=fun x hx=>by
   have:x.1∈es.map (·.1):=by rw[←hkeysH];exact List.mem_map.2 ⟨x,hx,rfl⟩
   obtain⟨q,hq,e⟩:=List.mem_map.1 this
   have h1:=(Array.getElem?_eq_some_iff.1 (hat q hq)).1
   rw[hL x.1 (by omega),hall' x.1 (by omega)]
  have e1:gB ob objs hist (fun j=>L.getD j false)=jR (fun j=>(oK es).testBit j) hist (ob++yF (oK es) objs):=by
   unfold gB
   rw[AB,Ee (f:=fun j=>L.getD j false) (f':=fun j=>(oK es).testBit j) objs kO]
   exact TN hist _ kH
  have cong:∀ (l:List Oper) (i:Nat),i+l.length≤ops.size→iU vals (yP env) (fun k=>(oK es).testBit k) l i=iU vals (yP env) (fun j=>L.getD j false) l i:=by
   intro l
   induction l with
   |nil=>intro i _;rfl
   |cons o l ih=>
    intro i hi
    simp only[List.length_cons]at hi
    have:(oK es).testBit i=L.getD i false:=by rw[hall' i (by omega),hL i (by omega)]
    simp only[iU,this,ih (i+1) (by omega)]
  have h1:=hi.sim
  have h2:=hi.env
  rw[e1]at h1 h2
  rw[←cong ops.toList 0 (by simp), ←Nz]at h2
  exact hQ _ _ g w a hK h1 h2
 have key:∀ (fuel:Nat) (L:Array Bool) (a:Act) (w:World) (g:Gh),L.size=ops.size→cnt L ops.size≤fuel→(Closed ops.toList fun j=>L.getD j false)→yS X N ops.toList vals objs hist env ob (fun j=>L.getD j false) g a w→wpAny P .any ops Q fuel L a w:=by
  intro fuel
  induction fuel with
  |zero=>
   intro L a w g hsz hcnt hcl hi
   have hnone:∀ j,j<ops.size→L.getD j false=true:=fun j hj=>by
    cases hv:L.getD j false with
    |true=>rfl
    |false=>have:=aeg hj hv;omega
   have hready:Region.ready .any ops L=[]:=by
    cases hr:Region.ready .any ops L with
    |nil=>rfl
    |cons i rs=>
     have hi:i∈Region.ready .any ops L:=by rw[hr];simp
     obtain⟨h0,o,ho,_⟩:=mem_ready.1 hi
     have hlt:i<ops.size:=(Array.getElem?_eq_some_iff.1 ho).1
     have h1:=hnone i hlt
     rw[Array.getD_eq_getD_getElem?]at h0 h1
     have:i<L.size:=by omega
     simp[this]at h0 h1
     rw[h0]at h1;cases h1
   exact⟨hready,fin L a w g hnone hi⟩
  |succ fuel ih=>
   intro L a w g hsz hcnt hcl hi
   refine⟨fun hr=> ?_,fun i hir=> ?_⟩
   ·refine fin L a w g (fun j hj=> ?_) hi
    cases hv:L.getD j false with
    |true=>rfl
    |false=>
     exfalso
     have least:∀ n,(∃ j,j<n∧j<ops.size∧L.getD j false=false)→∃ j,j<ops.size∧L.getD j false=false∧∀ j',j'<j→L.getD j' false=true:=by
      intro n
      induction n with
      |zero=>rintro⟨j,h,_⟩;omega
      |succ n ihn=>
       rintro⟨j,h1,h2,h3⟩
       by_cases hex:∃ j,j<n∧j<ops.size∧L.getD j false=false
       ·exact ihn hex
       ·refine⟨j,h2,h3,fun j' hj'=> ?_⟩
        cases hv:L.getD j' false with
        |true=>rfl
        |false=>exact absurd ⟨j',by omega,by omega,hv⟩ hex
     obtain⟨j,hj,hjf,hjl⟩:=least ops.size ⟨j,hj,hj,hv⟩
     have hjT:L.getD j true=false:=by
      rw[Array.getD_eq_getD_getElem?]at hjf ⊢
      have:j<L.size:=by omega
      simp[this]at hjf ⊢
      exact hjf
     have:j∈Region.ready .any ops L:=mem_ready.2 ⟨hjT,ops[j],by simp[hj],fun e hem hb=>hjl e.on (hback j ops[j] (by simp[hj]) e hem hb)⟩
     rw[hr]at this
     simp at this
   ·obtain⟨h0,oi,hoi,hei⟩:=mem_ready.1 hir
    have hilt:i<ops.size:=(Array.getElem?_eq_some_iff.1 hoi).1
    have hiun:L.getD i false=false:=by
     rw[Array.getD_eq_getD_getElem?]at h0 ⊢
     have:i<L.size:=by omega
     simp[this]at h0 ⊢
     exact h0
    have hseen:∀ d,(tab.getD i 0).testBit d=true→L.getD d false=true:=fun d hd=>hreach i d hd (fun j=>L.getD j false) hcl fun o2 ho2 e he2 hb2=>by
     have:ops[i]? =some o2:=by simpa using ho2
     rw[hoi]at this
     obtain rfl:=Option.some.inj this
     exact hei e he2 hb2
    have hies:(i,oi)∈es:=by
     have h1:=hpart i hilt
     have h2:ops[i]=oi:=by
      have:=Array.getElem?_eq_getElem hilt
      rw[hoi]at this
      exact(Option.some.inj this).symm
     rw[h2]at h1
     exact h1
    have hclE:∀ j,L.getD j false=true→∀ d,(tab.getD j 0).testBit d=true→L.getD d false=true:=fun j hj d hd=>by
     have hjlt:j<ops.size:=by
      apply Classical.byContradiction
      intro hn
      rw[Array.getD_eq_getD_getElem?, Array.getElem?_eq_none (by omega)]at hj
      cases hj
     exact hreach j d hd (fun j=>L.getD j false) hcl fun o2 ho2 e he2 hb2=>hcl j o2 ho2 hj e he2 hb2
    have hEs:∀ j,L.getD j false=true→∃ q∈es,q.1=j:=fun j hj=>by
     have hjlt:j<ops.size:=by
      apply Classical.byContradiction
      intro hn
      rw[Array.getD_eq_getD_getElem?, Array.getElem?_eq_none (by omega)]at hj
      cases hj
     exact⟨_,hpart j hjlt,rfl⟩
    refine wpOp_mono ?_ (ab7 hbase hplan hies (E:=fun j=>L.getD j false) hiun hseen hclE hEs hi)
    rintro a' w' ⟨g',hi'⟩
    have heq:(fun j=>L.getD j false||j==i)=fun j=>(L.setIfInBounds i true).getD j false:=by
     funext j
     rw[Ez (by omega)]
    rw[heq]at hi'
    refine ih _ a' w' g' (by simpa using hsz) ?_ (ab8 hsz hilt hoi hcl hei) hi'
    have:=aef hsz hilt hiun
    omega
 refine key ops.size (Array.replicate ops.size false) a w.drew g (by simp) ?_ ?_ ?_
 ·unfold cnt
  exact Nat.le_trans (List.length_filter_le _ _) (by simp)
 ·intro j o hj hL
  simp[Array.getD_eq_getD_getElem?, Array.getElem?_replicate]at hL
  split at hL <;>simp at hL
 ·have:(fun j=>(Array.replicate ops.size false).getD j false)=fun _=>false:=by
   funext j
   simp[Array.getD_eq_getD_getElem?, Array.getElem?_replicate]
   split <;>rfl
  rw[this]
  exact hinv0
end Go.Rv
set_option linter.unusedVariables false
set_option linter.unusedSimpArgs false
namespace Go.Rv
open Go.RowKit
variable {Dr:Kn}
variable {P:Program} {tbl:dX}
def Xa:Ex→Exit
 | .normal=> .normal
 | .exit i=> .exit i
 | .ret=> .ret
theorem abU{R:Type}{r:R}(hm:P.follows .mixedOrders=true)(hT:∀ g fs S,tbl g fs=some S→aF Dr P g S){N n0:Nat}{cfg:Nat→List Nat×List Nat}{k:Nat}{X:Cx Dr}(hn0:X.n0=n0):
  ∀ (c:Code) (env:Env) (ob:List Ob) (K:au R) (g:Gh) (w:World) (a:Act) (Q:Exit→Act→World→Prop),bJ P tbl N n0 cfg k c env ob K=some r→aK X g ob w→dG N g ob.length X.I w env a→
   (∀ e env' ob' g' w' a',K e env' ob'=some r→aK X g' ob' w'→dG N g' ob'.length X.I w' env' a'→Q (Xa e) a' w')→c.wp P Q a w:=by
 intro c
 induction c with
 |skip=>
  intro env ob K g w a Q h hs he hQ
  simp only[bJ]at h
  exact wp_skip (hQ .normal _ _ _ _ _ h hs he)
 |region id ops draw=>
  intro env ob K g w a Q h hs he hQ
  simp only[bJ]at h
  cases draw with
  |false=>
   simp only[Bool.false_eq_true,if_false]at h
   exact wp_region_list (D8 hT _ env ob g w a h hs he fun env' ob' g' w' a' h' hs' he'=>hQ .normal _ _ _ _ _ h' hs' he')
  |true=>
   simp only[if_true]at h
   exact acH hm hT h hs he fun env' ob' g' w' a' h' hs' he'=>hQ .normal _ _ _ _ _ h' hs' he'
 |seq x y ihx ihy=>
  intro env ob K g w a Q h hs he hQ
  simp only[bJ]at h
  refine wp_seq (ihx env ob _ g w a _ h hs he fun e env' ob' g' w' a' h' hs' he'=> ?_)
  cases e with
  |normal=>exact ihy env' ob' K g' w' a' Q h' hs' he' hQ
  |exit i=>exact hQ _ _ _ _ _ _ h' hs' he'
  |ret=>exact hQ _ _ _ _ _ _ h' hs' he'
 |cond c x y ihx ihy=>
  intro env ob K g w a Q h hs he hQ
  cases c with
  |tmp s=>
   simp only[bJ]at h
   split at h <;>try (simp at h;done)
   ·rename_i t hl
    have h1:=he.ev (.tmp s)
    simp only[Rv.ev]at h1
    rw[hl]at h1
    simp only[aj]at h1
    have he1:=he.lit hl
    cases t with
    |true=>exact wp_cond_true h1 (ihx _ ob K g w a Q (by simpa using h) hs he1 hQ)
    |false=>exact wp_cond_false h1 (ihy _ ob K g w a Q (by simpa using h) hs he1 hQ)
   ·rename_i hl
    have h1:=he.ev (.tmp s)
    simp only[Rv.ev]at h1
    rw[hl]at h1
    simp only[aj]at h1
    obtain⟨b,h1⟩:=h1
    have he1:dG N g ob.length X.I w ((s,.bool b)::env) a:=by
     refine⟨he.1,he.2.1,fun s'=> ?_⟩
     simp only[look]
     by_cases e:s=s'
     ·subst e;rw[if_pos rfl];exact h1
     ·rw[if_neg e];exact he.2.2 s'
    by_cases hab:bJ P tbl N n0 cfg k x ((s,.bool true)::env) ob K=bJ P tbl N n0 cfg k y ((s,.bool false)::env) ob K
    ·rw[if_pos hab]at h
     cases b with
     |true=>exact wp_cond_true h1 (ihx _ ob K g w a Q (hab.trans h) hs he1 hQ)
     |false=>exact wp_cond_false h1 (ihy _ ob K g w a Q h hs he1 hQ)
    ·rw[if_neg hab]at h;simp at h
  |_=>simp[bJ]at h
 |block id c ih=>
  intro env ob K g w a Q h hs he hQ
  simp only[bJ]at h
  refine wp_block (ih env ob _ g w a _ h hs he fun e env' ob' g' w' a' h' hs' he'=> ?_)
  cases e with
  |normal=>exact hQ .normal _ _ _ _ _ h' hs' he'
  |exit i=>
   simp only[bg]at h'
   simp only[Xa,Exit.inBlock]
   split at h'
   ·rename_i hi
    rw[if_pos hi]
    exact hQ .normal _ _ _ _ _ h' hs' he'
   ·rename_i hi
    rw[if_neg hi]
    exact hQ (.exit i) _ _ _ _ _ h' hs' he'
  |ret=>exact hQ .ret _ _ _ _ _ h' hs' he'
 |loop c ih=>
  intro env ob K g w a Q h hs he hQ
  simp only[bJ]at h
  obtain⟨env1,ob1,h1,hc1⟩:=ED h
  obtain⟨g1,s1,e1⟩:=hc1 X N g w a hn0 hs he
  refine wp_loop_ghost (fun n a w=>∃ env ob g,iter n0 (cfg (qM c)).1 (cfg (qM c)).2 (fun env ob K=>bJ P tbl N n0 cfg k c env ob K) n env ob K=some r∧aK X g ob w∧dG N g ob.length X.I w env a) k ⟨env1,ob1,g1,h1,s1,e1⟩ ?_
  rintro n a w ⟨env,ob,g,h,hs,he⟩
  cases n with
  |zero=>simp[iter]at h
  |succ n=>
   simp only[iter]at h
   refine ih env ob _ g w a _ h hs he fun e env' ob' g' w' a' h' hs' he'=> ?_
   cases e with
   |normal=>
    simp only[sV]at h'
    obtain⟨env2,ob2,h2,hc2⟩:=ED h'
    obtain⟨g2,s2,e2⟩:=hc2 X N g' w' a' hn0 hs' he'
    exact⟨n,Nat.lt_succ_self _,env2,ob2,g2,h2,s2,e2⟩
   |exit i=>
    simp only[sV]at h'
    obtain⟨env2,ob2,h2,hc2⟩:=ED h'
    obtain⟨g2,s2,e2⟩:=hc2 X N g' w' a' hn0 hs' he'
    exact hQ (.exit i) _ _ _ _ _ h2 s2 e2
   |ret=>
    simp only[sV]at h'
    obtain⟨env2,ob2,h2,hc2⟩:=ED h'
    obtain⟨g2,s2,e2⟩:=hc2 X N g' w' a' hn0 hs' he'
    exact hQ .ret _ _ _ _ _ h2 s2 e2
 |exit id=>
  intro env ob K g w a Q h hs he hQ
  simp only[bJ]at h
  exact wp_exit (hQ (.exit id) _ _ _ _ _ h hs he)
 |ret=>
  intro env ob K g w a Q h hs he hQ
  simp only[bJ]at h
  exact wp_ret (hQ .ret _ _ _ _ _ h hs he)
 |_=>intro env ob K g w a Q h;simp[bJ]at h
theorem Xj{g:Gh}{n:Nat}{I:Nat→Prop}{w:World}:∀ (cs:List CT) (x:ah.V cs) (us:List Value),jh I g.J w cs x us→ay g n I w (BL cs x) us
 | [],x,us,h=>by simpa [BL,ay,jh]using h
 |c::cs,x,us,h=>by
  simp only[jh]at h
  obtain⟨u,t,rfl,h1,h2⟩:=h
  simp only[BL,ay]
  exact⟨u,t,rfl,adI h1,Xj cs x.2 t h2⟩
theorem WM{g:Gh}{n:Nat}{I:Nat→Prop}{w:World}{agg:Bool}{ps:List PV}{us:List Value}{v:Value}(h:ay g n I w ps us)(hg:kz agg us v):aj g n I w (grp agg ps) v:=by
 cases agg with
 |true=>
  have hv:v= .agg us.toArray:=hg
  simp only[grp,aj]
  exact⟨us,hv,h⟩
 |false=>
  have hv:us=[v]:=hg
  subst hv
  cases ps with
  |nil=>simp[ay]at h
  |cons p ps=>
   simp only[ay]at h
   obtain⟨u,t,h1,h2,h3⟩:=h
   simp only[List.cons.injEq]at h1
   simp only[grp,List.headD_cons]
   rw[h1.1]
   exact h2
theorem VP{g:Gh}{n:Nat}{I:Nat→Prop}{w:World}:∀ (caps:List (List CT)) (x:ah.V (lY caps)) (us:List Value),su I w caps x us→ay g n I w (yu caps x) us
 | [],x,us,h=>by simpa [yu,ay,su]using h
 |cs::r,x,us,h=>by
  simp only[su]at h
  obtain⟨ad,t,rfl,h1,h2,h3⟩:=h
  simp only[yu,ay,aj]
  exact⟨_,t,rfl,⟨ad,by simp[Addr.add],h1,h2⟩,VP r _ t h3⟩
def Gh.qp(g:Gh)(n b:Nat)(pre post:List Value):Gh:=
 ⟨fun o=>if o=n then b else g.A o,g.H,fun o=>if o=n then 1 else g.L o,fun o=>if o=n then 0 else g.S o,fun o=>if o=n then pre else g.pre o,fun o=>if o=n then post else g.post o,g.J⟩
theorem MW{g:Gh}{n b:Nat}{pre post:List Value}{o:Nat}(h:o≠n):Agree g (g.qp n b pre post) o:=⟨if_neg h,rfl,if_neg h,if_neg h,if_neg h,if_neg h⟩
theorem acf{X:Cx Dr}{w:World}(cs:List CT)(x:ah.V cs)(v:Value)(bs:List Nat)(g:Gh)(ob:List Ob)(h:∃ b pre us post t bt,bs=b::bt∧v= .pointer (some ⟨b,pre.length,none⟩)∧w.heap[b]? =some (.cells (pre++us++post).toArray t (0,0))∧bT w g.J cs x us bt)(hn:bs.Nodup)(hb:∀ b∈bs,(X.B≤b∨b∈X.T)∧¬ X.I b∧∀ o,aJ g ob o→g.A o≠b)(s:aK X g ob w):
  ∃ g',aK X g' (ob++(Ob.box (bn cs x (ob.length+1)).1::(bn cs x (ob.length+1)).2)) w∧Keep g ob.length X.I w g' (ob++(Ob.box (bn cs x (ob.length+1)).1::(bn cs x (ob.length+1)).2)).length w∧aj g' (ob++(Ob.box (bn cs x (ob.length+1)).1::(bn cs x (ob.length+1)).2)).length X.I w (.ptr ob.length 0 0 0) v∧
   ∀ o,aJ g' (ob++(Ob.box (bn cs x (ob.length+1)).1::(bn cs x (ob.length+1)).2)) o→(o<ob.length∧aJ g ob o)∨g'.A o∈bs:=by
 obtain⟨b,pre,us,post,t,bt,rfl,h1,h2,h3⟩:=h
 have hn2:=List.nodup_cons.1 hn
 obtain⟨s1,k1⟩:=s.slot (g':=g.qp ob.length b pre post) rfl (fun o ho=>MW (by omega))
 have hslot:∀ o,aJ (g.qp ob.length b pre post) (ob++[Ob.dead]) o→o<ob.length∧aJ g ob o:=fun o ho=>by
  have hlt:o<ob.length:=by
   have h1:=ho.lt
   simp at h1
   rcases Nat.lt_or_ge o ob.length with h |h
   ·exact h
   ·have:o=ob.length:=by omega
    subst this
    rcases ho with ⟨c,ho⟩ | ⟨e,xs,ho,_⟩ <;>simp at ho
  refine⟨hlt, ?_⟩
  rcases ho with ⟨c,ho⟩ | ⟨e,xs,ho,hne⟩
  ·rw[List.getElem?_append_left hlt]at ho;exact Or.inl ⟨_,ho⟩
  ·rw[List.getElem?_append_left hlt]at ho;exact Or.inr ⟨_,_,ho,hne⟩
 obtain⟨g',s',k',r',n'⟩:=qI cs x us bt (g.qp ob.length b pre post) (ob++[Ob.dead]) h3 rfl hn2.2 (fun b' hb'=>⟨(hb b' (by simp[hb'])).1,(hb b' (by simp[hb'])).2.1,fun o ho e=>by
  obtain⟨h4,h5⟩:=hslot o ho
  rw[(MW (Nat.ne_of_lt h4)).A]at e
  exact(hb b' (by simp[hb'])).2.2 o h5 e⟩) s1
 have hl1:(ob++[Ob.dead]).length=ob.length+1:=by simp
 rw[hl1]at s' k' r' n' k1
 have ag:Agree (g.qp ob.length b pre post) g' ob.length:=k'.agr _ (by omega)
 have hA:g'.A ob.length=b:=by rw[ag.A];simp[Gh.qp]
 have hpre:g'.pre ob.length=pre:=by rw[ag.pre];simp[Gh.qp]
 have hpost:g'.post ob.length=post:=by rw[ag.post];simp[Gh.qp]
 have hS:g'.S ob.length=0:=by rw[ag.S];simp[Gh.qp]
 have hL:g'.L ob.length=1:=by rw[ag.L];simp[Gh.qp]
 have hbq:=hb b (by simp)
 have e0:ob++[Ob.dead]++(bn cs x (ob.length+1)).2=ob++(Ob.dead::(bn cs x (ob.length+1)).2):=by simp
 rw[e0]at s' k' r' n'
 have hdead:(ob++(Ob.dead::(bn cs x (ob.length+1)).2))[ob.length]? =some .dead:=by simp
 have s2:=s'.EP hdead (.box (bn cs x (ob.length+1)).1) (by
  intro cells hh
  cases hh
  exact⟨us,t,by rw[hA,hpre,hpost];exact h2,r',by rw[hA];exact hbq.2.1,hS,hL⟩) (by intro e xs hh;cases hh) (by
  intro _
  rw[hA]
  refine⟨hbq.1,fun o ho e=> ?_⟩
  rcases n' o ho with ⟨h4,h5⟩ |h4
  ·obtain⟨h6,h7⟩:=hslot o h5
   rw[(k'.agr o h4).A,(MW (Nat.ne_of_lt h6)).A]at e
   exact hbq.2.2 o h7 e
  ·rw[e]at h4
   exact hn2.1 h4)
 have e1:(ob++(Ob.dead::(bn cs x (ob.length+1)).2)).set ob.length (.box (bn cs x (ob.length+1)).1)=ob++(Ob.box (bn cs x (ob.length+1)).1::(bn cs x (ob.length+1)).2):=by
  rw[List.set_append_right _ _ (Nat.le_refl _)]
  simp
 have e2:(ob++(Ob.box (bn cs x (ob.length+1)).1::(bn cs x (ob.length+1)).2)).length=(ob++(Ob.dead::(bn cs x (ob.length+1)).2)).length:=by rw[←e1];simp
 rw[e1]at s2
 refine⟨g',s2, ?_, ?_,fun o ho=> ?_⟩
 ·rw[e2];exact k1.trans k'
 ·rw[e2]
  simp only[aj]
  exact⟨by simp,by rw[hL];omega,hS.symm,by rw[h1,hA,hpre];simp⟩
 ·by_cases hoq:o=ob.length
  ·right;rw[hoq,hA];simp
  ·have:aJ g' (ob++(Ob.dead::(bn cs x (ob.length+1)).2)) o:=by
    rw[←e1]at ho
    rcases ho with ⟨c,ho⟩ | ⟨e,xs,ho,hne⟩
    ·rcases lT ho with ⟨h4,_⟩ | ⟨_,h4⟩
     ·exact absurd h4 hoq
     ·exact Or.inl ⟨_,h4⟩
    ·rcases lT ho with ⟨h4,_⟩ | ⟨_,h4⟩
     ·exact absurd h4 hoq
     ·exact Or.inr ⟨_,_,h4,hne⟩
   rcases n' o this with ⟨h4,h5⟩ |h4
   ·exact Or.inl (hslot o h5)
   ·right;exact List.mem_cons_of_mem _ h4
theorem ace{X:Cx Dr}{w:World}(p:bF)(x:ah.V p.cells)(v:Value)(bs:List Nat)(g:Gh)(ob:List Ob)(h:BQ X.I g.J w p x v bs)(hn:bs.Nodup)(hb:∀ b∈bs,(X.B≤b∨b∈X.T)∧¬ X.I b∧∀ o,aJ g ob o→g.A o≠b)(s:aK X g ob w):
  ∃ g',aK X g' (ob++(jF p x ob.length).2) w∧Keep g ob.length X.I w g' (ob++(jF p x ob.length).2).length w∧aj g' (ob++(jF p x ob.length).2).length X.I w (jF p x ob.length).1 v∧
   ∀ o,aJ g' (ob++(jF p x ob.length).2) o→(o<ob.length∧aJ g ob o)∨g'.A o∈bs:=by
 have same:∀ pv,aj g ob.length X.I w pv v→∃ g',aK X g' (ob++[]) w∧Keep g ob.length X.I w g' (ob++[]).length w∧aj g' (ob++[]).length X.I w pv v∧∀ o,aJ g' (ob++[]) o→(o<ob.length∧aJ g ob o)∨g'.A o∈bs:=fun pv hr=>by
  rw[List.append_nil]
  exact⟨g,s,s.refl,hr,fun o ho=>Or.inl ⟨ho.lt,ho⟩⟩
 have rows:∀ (agg:Bool) (cs:List CT) (y:ah.V cs) (us:List Value),bT w g.J cs y us bs→kz agg us v→
   ∃ g',aK X g' (ob++(bn cs y ob.length).2) w∧Keep g ob.length X.I w g' (ob++(bn cs y ob.length).2).length w∧aj g' (ob++(bn cs y ob.length).2).length X.I w (grp agg (bn cs y ob.length).1) v∧
    ∀ o,aJ g' (ob++(bn cs y ob.length).2) o→(o<ob.length∧aJ g ob o)∨g'.A o∈bs:=fun agg cs y us ho hg=>by
  obtain⟨g',s',k',r',n'⟩:=qI cs y us bs g ob ho rfl hn hb s
  exact⟨g',s',k',WM r' hg,n'⟩
 cases p with
 |v agg cs=>
  obtain⟨us,h1,h2,_⟩:=h
  exact same _ (WM (Xj cs x us h1) h2)
 |r cs=>
  obtain⟨ad,h1,h2,h3,_⟩:=h
  exact same (.eptr cs x 0) (by simp only[aj];exact⟨ad,by simpa [Addr.add]using h1,h2,h3⟩)
 |cl f caps=>
  obtain⟨us,h1,h2,_⟩:=h
  exact same (.fn f (yu caps x)) (by simp only[aj];exact⟨us,h1,VP caps x us h2⟩)
 |w agg cs=>
  obtain⟨us,h1,h2⟩:=h
  exact rows agg cs x us h1 h2
 |c agg cs=>
  obtain⟨us,h1,h2⟩:=h
  exact rows agg cs x us h1 h2
 |m cs=>exact acf cs x v bs g ob h hn hb s
theorem Va{X:Cx Dr}{w:World}:∀ (ins:List bF) (x:ah.V (cu ins)) (vs:List Value) (bs:List Nat) (g:Gh) (ob:List Ob),jG X.I g.J w ins x vs bs→bs.Nodup→(∀ b∈bs,(X.B≤b∨b∈X.T)∧¬ X.I b∧∀ o,aJ g ob o→g.A o≠b)→aK X g ob w→
  ∃ g',aK X g' (ob++(start ins x ob.length).2) w∧Keep g ob.length X.I w g' (ob++(start ins x ob.length).2).length w∧ay g' (ob++(start ins x ob.length).2).length X.I w (start ins x ob.length).1 vs
 | [],x,vs,bs,g,ob,h,hn,hb,s=>by
  simp only[jG]at h
  obtain⟨rfl,rfl⟩:=h
  exact⟨g,by simpa [start]using s,by simpa [start]using s.refl,by simp[start,ay]⟩
 |p::r,x,vs,bs,g,ob,h,hn,hb,s=>by
  simp only[jG]at h
  obtain⟨v,t,b1,b2,rfl,rfl,h1,h2⟩:=h
  have hn2:=List.nodup_append.1 hn
  obtain⟨g1,s1,k1,r1,n1⟩:=ace p _ v b1 g ob h1 hn2.1 (fun b hb'=>hb b (by simp[hb'])) s
  have hlen:(ob++(jF p (splitV p.cells (cu r) x).1 ob.length).2).length=ob.length+(jF p (splitV p.cells (cu r) x).1 ob.length).2.length:=by simp
  obtain⟨g2,s2,k2,r2⟩:=Va r _ t b2 g1 _ (by rw[k1.J];exact h2) hn2.2.1 (fun b hb'=>⟨(hb b (by simp[hb'])).1,(hb b (by simp[hb'])).2.1,fun o ho e=>by
   rcases n1 o ho with ⟨h4,h5⟩ |h4
   ·rw[(k1.agr o h4).A]at e
    exact(hb b (by simp[hb'])).2.2 o h5 e
   ·rw[e]at h4
    exact hn2.2.2 b h4 b hb' rfl⟩) s1
  rw[hlen]at s2 k2 r2
  have e:ob++(jF p (splitV p.cells (cu r) x).1 ob.length).2++(start r (splitV p.cells (cu r) x).2 (ob.length+(jF p (splitV p.cells (cu r) x).1 ob.length).2.length)).2=ob++(start (p::r) x ob.length).2:=by
   simp[start,List.append_assoc]
  rw[e]at s2 k2 r2
  rw[hlen]at k1
  refine⟨g2,s2,k1.trans k2, ?_⟩
  show ay g2 _ X.I w ((jF p (splitV p.cells (cu r) x).1 ob.length).1::_) (v::t)
  simp only[ay]
  refine⟨v,t,rfl,aj.keep k2 _ _ ?_,r2⟩
  rw[hlen]at r1
  exact r1
end Go.Rv
set_option linter.unusedVariables false
set_option linter.unusedSimpArgs false
namespace Go.Rv
open Go.RowKit
variable {Dr:Kn}
variable {P:Program} {tbl:dX}
def yh(tmps:Array Value):ResultVar→Sem Value
 | .tmp t=>pure (tmps.getD t undef)
 | .cell a t=>do loadVar t (←asAddr (tmps.getD a undef))
theorem ac1{X:Cx Dr}{N:Nat}{g:Gh}{ob:List Ob}{w:World}{env:Env}{a:Act}(s:aK X g ob w)(he:dG N g ob.length X.I w env a){x:ResultVar}{v:PV}(h:Ff P env ob x=some v):
  ∃ u,(yh a.tmps x).run P w= .ok u w∧aj g ob.length X.I w v u:=by
 cases x with
 |tmp t=>
  simp only[Ff,Option.some.injEq]at h
  subst h
  exact⟨_,rfl,he.2.2 t⟩
 |cell q t=>
  simp only[Ff]at h
  split at h <;>try (simp at h;done)
  rename_i agg n o i sz j hl hx
  split at h <;>try (simp at h;done)
  rename_i cells hq
  split at h <;>try (simp at h;done)
  rename_i hi
  have h1:=he.2.2 q
  rw[hx]at h1
  obtain⟨us,t',h2,k1,k2⟩:=Bo (N:=N) s hq hi h1
  have hlen:=jJ _ _ k2
  cases agg with
  |true=>
   simp only[if_true]at h
   split at h <;>try (simp at h;done)
   rename_i hb
   obtain rfl:=Option.some.inj h
   refine⟨.agg ((us.drop j).take n).toArray, ?_,by simp only[aj];exact⟨_,rfl,uV _ _ _ (uX _ _ _ k2)⟩⟩
   have:=Ej (P:=P) (ad:=⟨g.A o,(g.pre o).length+j,none⟩) (w:=w) hl (us:=(us.drop j).take n) (by simp;omega) (fun i u hu=>by
    rw[dU]
    have hi:i<n:=by
     rcases Nat.lt_or_ge i n with h |h
     ·exact h
     ·rw[List.getElem?_eq_none (by simp;omega)]at hu;simp at hu
    rw[List.getElem?_take_of_lt hi,List.getElem?_drop]at hu
    rw[Nat.add_assoc]
    exact AV (X:=X) k1 hu)
   simpa [yh,h2,asAddr,Instr.loadAt,Instr.sureAddr]using this
  |false=>
   simp only[Bool.false_eq_true,if_false]at h
   split at h <;>try (simp at h;done)
   rename_i hb
   obtain rfl:=Option.some.inj h
   obtain⟨u,hu,hr⟩:=ve _ _ k2 j hb
   refine⟨u, ?_,hr⟩
   have:=Em (P:=P) (ad:=⟨g.A o,(g.pre o).length+j,none⟩) (w:=w) hl (u:=u) (AV (X:=X) k1 hu)
   simpa [yh,h2,asAddr,Instr.loadAt,Instr.sureAddr]using this
theorem UC{X:Cx Dr}{N:Nat}{g:Gh}{ob:List Ob}{w:World}{env:Env}{a:Act}(s:aK X g ob w)(he:dG N g ob.length X.I w env a):∀ (rs:List ResultVar) (ps:List PV),yj P env ob rs=some ps→
  ∃ us,(rs.mapM (yh a.tmps)).run P w= .ok us w∧ay g ob.length X.I w ps us
 | [],ps,h=>by
  simp only[yj,Option.some.injEq]at h
  subst h
  exact⟨[],by simp,by simp[ay]⟩
 |x::r,ps,h=>by
  simp only[yj]at h
  split at h <;>try (simp at h;done)
  rename_i v vs h1 h2
  obtain rfl:=Option.some.inj h
  obtain⟨u,k1,k2⟩:=ac1 s he h1
  obtain⟨us,m1,m2⟩:=UC s he r vs h2
  exact⟨u::us,by simp[List.mapM_cons,k1,m1],by simp only[ay];exact⟨u,us,rfl,k2,m2⟩⟩
theorem abD(fn:Func)(tmps:Array Value)(w:World)(us:List Value)(h:(fn.results.toList.mapM (yh tmps)).run P w= .ok us w):(results fn tmps).run P w= .ok (rJ us) w:=by
 have e:results fn tmps=(do let vs←fn.results.mapM (yh tmps);pure (if h:vs.size=1 then vs[0]else .tuple vs)):=by
  unfold results
  congr 1
 rw[e,Sem.run_bind,Array.mapM_eq_mapM_toList,Sem.run_map,h]
 simp only[Result.andThen_ok,Sem.run_pure]
 congr 1
 match us with
 | []=>rfl
 | [v]=>rfl
 |v::v'::r=>rfl
theorem jV{f:FuncId}(h:Ba P f=true)(args:Array Value)(w:World):(callFunc f args).run P w= .ok (.enter f args) w:=by
 unfold Ba at h
 split at h
 ·rename_i fn hf
  simp only[Bool.and_eq_true,bne_iff_ne,ne_eq,Option.isSome_iff_ne_none]at h
  have hb:fn.body.isNone=false:=by cases hb:fn.body <;>simp_all
  simp[callFunc,hf,h.1,hb]
  intro hx
  exact absurd hx h.2
 ·cases h
theorem VI:∀ (ps:List PV) (i s:Nat),look (yJ i ps) s=if i≤s then ps.getD (s - i) .undef else .undef
 | [],i,s=>by simp[yJ,look]
 |p::r,i,s=>by
  simp only[yJ,look]
  by_cases h:i=s
  ·subst h;simp
  ·rw[if_neg h,VI r (i+1) s]
   by_cases h2:i+1≤s
   ·rw[if_pos h2,if_pos (by omega),show s - i=(s - (i+1))+1 by omega]
    simp
   ·rw[if_neg h2,if_neg (by omega)]
theorem TF{g:Gh}{n:Nat}{I:Nat→Prop}{w:World}:∀ (outs:List (Bool×List CT)) (ps:List PV) (vals:List Value) (vs:List PV),ay g n I w ps vals→vk outs ps=some vs→∃ us,ay g n I w vs us∧qg outs us vals
 | [],[],vals,vs,h,hf=>by
  simp only[ay]at h
  simp only[vk,Option.some.injEq]at hf
  subst h;subst hf
  exact⟨[],by simp[ay],rfl,rfl⟩
 | [],_::_,vals,vs,h,hf=>by simp[vk]at hf
 |_::_,[],vals,vs,h,hf=>by simp[vk]at hf
 | (b,cs)::r,p::ps,vals,vs,h,hf=>by
  simp only[ay]at h
  obtain⟨u,t,rfl,h1,h2⟩:=h
  simp only[vk]at hf
  split at hf <;>try (cases hf;done)
  rename_i hsh
  split at hf <;>try (cases hf;done)
  rename_i a c f1 f2
  obtain rfl:=Option.some.inj hf
  obtain⟨us1,k1,k2,k3⟩:=EX h1 hsh f1
  obtain⟨us2,m1,m2⟩:=TF r ps t c h2 f2
  exact⟨us1++us2,MK _ _ _ _ k1 m1,us1,us2,u,t,rfl,k3,rfl,k2,m2⟩
theorem UU{I J:Nat→Prop}{w:World}:∀ (ins:List bF) (x:ah.V (cu ins)) (vs:List Value) (bs:List Nat),ins.all bF.pure=true→jG I J w ins x vs bs→bs=[]
 | [],x,vs,bs,_,h=>h.2
 |p::r,x,vs,bs,hp,h=>by
  obtain⟨v,t,b1,b2,rfl,rfl,h1,h2⟩:=h
  simp only[List.all_cons,Bool.and_eq_true]at hp
  rw[UU r _ _ _ hp.2 h2,List.append_nil]
  cases p with
  |v agg cs=>obtain⟨_,_,_,h⟩:=h1;exact h
  |r cs=>obtain⟨_,_,_,_,h⟩:=h1;exact h
  |cl f caps=>obtain⟨_,_,_,h⟩:=h1;exact h
  |w agg cs=>simp[bF.pure]at hp
  |c agg cs=>simp[bF.pure]at hp
  |m cs=>simp[bF.pure]at hp
theorem ac5{w:World}{J:Nat→Prop}{c:CT}{cs:List CT}{y1:c.V}{y2:ah.V cs}{u:Value}{t:List Value}{b1 b2:List Nat}(h1:bT w J [c] (y1,()) [u] b1)(h2:bT w J cs y2 t b2):bT w J (c::cs) (y1,y2) (u::t) (b1++b2):=by
 cases c with
 |sl e=>
  simp only[bT]at h1 ⊢
  obtain⟨hd,t',e1,h⟩:=h1
  simp only[List.cons.injEq]at e1
  obtain⟨rfl,rfl⟩:=e1
  rcases h with ⟨g1,g2,_,rfl⟩ | ⟨b,bt,rfl,g1,_,rfl⟩
  ·exact⟨u,t,rfl,Or.inl ⟨g1,g2,h2⟩⟩
  ·exact⟨u,t,rfl,Or.inr ⟨b,b2,rfl,g1,h2⟩⟩
 |_=>
  simp only[bT]at h1 ⊢
  obtain⟨hd,t',e1,h,_,rfl⟩:=h1
  simp only[List.cons.injEq]at e1
  obtain⟨rfl,rfl⟩:=e1
  exact⟨u,t,rfl,h,h2⟩
theorem abK{X:Cx Dr}{g:Gh}{ob:List Ob}{w:World}(s:aK X g ob w)(c:CT)(p:PV)(y:c.V)(u:Value)(hf:c.flat=true)(hn:(bI p).Nodup)(hp:OH ob p)(h:Ns ob c p=some y)(hu:aj g ob.length X.I w p u):
  ∃ bs,bT w g.J [c] (y,()) [u] bs∧bs.Nodup∧∀ b∈bs,∃ o∈bI p,aJ g ob o∧b=g.A o:=by
 unfold Ns at h
 split at h
 ·rename_i e q sz len
  obtain⟨e',xs,hq,h⟩:∃ (e':List CT) (xs:List (ah.V e')),ob[q]? =some (.arr e' xs)∧fH e' e (xs.take len)=some y:=by
   generalize ob[q]? =Y at h
   match Y,h with
   |some (.arr e' xs),h=>exact⟨e',xs,rfl,h⟩
   |some (.box _),h=>cases h
   |some .dead,h=>cases h
   |none,h=>cases h
  have hlen:=hp _ _ _ rfl _ _ hq
  obtain⟨he,hy⟩:=EF h
  subst he
  have hy:y=xs.take len:=hy
  subst hy
  simp only[aj]at hu
  obtain⟨_,_,a,l,cc,a',c',hH,rfl,hlc,_,h0⟩:=hu
  obtain⟨rfl,rfl⟩:=h0 trivial
  obtain⟨_,_,_,ka⟩:=s.arr q e' _ hq
  have htl:(xs.take len).length=len:=by rw[List.length_take];omega
  rcases ka with ka | ⟨hne,cap,cells,te,n1,n2,n2',n3,n4,n5,n6⟩
  ·obtain⟨b0,hb0⟩:=ka.2
   rw[hH]at hb0
   simp only[Value.slice.injEq]at hb0
   have hx:xs=[]:=ka.1
   have hl0:len=0:=by rw[hx]at hlen;simpa using hlen
   subst hl0
   obtain⟨_,_,rfl⟩:=hb0
   exact⟨[],⟨_,[],rfl,Or.inl ⟨by rw[hx];rfl,⟨_,rfl⟩,rfl,rfl⟩⟩,List.nodup_nil,by simp⟩
  ·rw[n1]at hH
   simp only[Value.slice.injEq]at hH
   obtain⟨rfl,_,rfl⟩:=hH
   have hbk:aJ g ob q:=Or.inr ⟨_,_,hq,hne⟩
   have hcap:¬ cap=0:=fun e=>hne ⟨some ⟨g.A q,0,none⟩,by rw[n1,e];congr 1;omega⟩
   refine⟨[g.A q],⟨_,[],rfl,Or.inr ⟨g.A q,[],rfl,⟨?_,cap,cells,te,by show Value.slice _ len cap= .slice _ (xs.take len).length cap;rw[htl],by show(xs.take len).length≤cap;rw[htl];exact hlc,n2',n3,n4,fun i x hx=> ?_⟩,rfl,rfl⟩⟩,by simp,fun b hb=>⟨q,by simp[bI],hbk,by simpa using hb⟩⟩
   ·rintro⟨b0,hb0⟩
    simp only[Value.slice.injEq]at hb0
    exact hcap hb0.2.2
   ·have hx':(xs.take len)[i]? =some x:=hx
    have hi:i<len:=by have:=(List.getElem?_eq_some_iff.1 hx').1;omega
    rw[List.getElem?_take_of_lt hi]at hx'
    exact Ec _ _ _ hf (n5 i x hx')
 ·obtain⟨bs,h1,h2,h3⟩:=xU s [c] [p] (y,()) [u] (by simpa using hf) (by simpa [aW]using hn) (by simp only[fZ];rw[h]) (by simp only[ay];exact⟨u,[],rfl,hu,rfl⟩)
  exact⟨bs,h1,h2,fun b hb=>by simpa [aW]using h3 b hb⟩
theorem Vr{X:Cx Dr}{g:Gh}{ob:List Ob}{w:World}(s:aK X g ob w):∀ (cs:List CT) (ps:List PV) (y:ah.V cs) (us:List Value),cs.all CT.flat=true→(aW ps).Nodup→(∀ v∈ps,OH ob v)→vN ob cs ps=some y→ay g ob.length X.I w ps us→
  ∃ bs,bT w g.J cs y us bs∧bs.Nodup∧∀ b∈bs,∃ o∈aW ps,aJ g ob o∧b=g.A o
 | [],[],y,us,_,_,_,h,hr=>by
  simp only[ay]at hr
  exact⟨[],by simp[bT,hr],List.nodup_nil,by simp⟩
 | [],_::_,y,us,_,_,_,h,hr=>by simp[vN]at h
 |_::_,[],y,us,_,_,_,h,hr=>by simp[vN]at h
 |c::cs,p::ps,y,us,hf,hn,hp,h,hr=>by
  simp only[List.all_cons,Bool.and_eq_true]at hf
  simp only[vN]at h
  split at h <;>try (cases h;done)
  rename_i y1 y2 h1 h2
  have:=Option.some.inj h
  subst this
  simp only[ay]at hr
  obtain⟨u,t,rfl,hu,ht⟩:=hr
  simp only[aW]at hn ⊢
  have hn2:=List.nodup_append.1 hn
  obtain⟨b1,i1,i2,i3⟩:=abK s c p y1 u hf.1 hn2.1 (hp p (by simp)) h1 hu
  obtain⟨b2,k1,k2,k3⟩:=Vr s cs ps y2 t hf.2 hn2.2.1 (fun v hv=>hp v (by simp[hv])) h2 ht
  refine⟨b1++b2,ac5 i1 k1,List.nodup_append.2 ⟨i2,k2,fun a1 ha1 a2 ha2 e=> ?_⟩,fun b hb=> ?_⟩
  ·obtain⟨o1,p1,w1,f1⟩:=i3 a1 ha1
   obtain⟨o2,p2,w2,f2⟩:=k3 a2 ha2
   have:=s.inj o1 o2 w1 w2 (by rw[←f1, ←f2,e])
   exact hn2.2.2 _ p1 _ p2 this
  ·rcases List.mem_append.1 hb with hb |hb
   ·obtain⟨o,p1,r⟩:=i3 b hb;exact⟨o,List.mem_append.2 (Or.inl p1),r⟩
   ·obtain⟨o,p1,r⟩:=k3 b hb;exact⟨o,List.mem_append.2 (Or.inr p1),r⟩
theorem aex{X:Cx Dr}{g:Gh}{ob:List Ob}{w0 w:World}(s:aK X g ob w)(hB:X.B=w0.heap.size){pu:Bool}(hT:pu=true→X.T=[])(outs:List (Bool×List CT))(ps:List PV)(rs:List Value)(vs:List PV×List Nat)
  (q2:ay g ob.length X.I w ps rs) (h:Az (mO outs) pu ob outs ps=some vs):
  ∃ us vr,ay g ob.length X.I w vs.1 us∧(us.length=(dL outs).length→qg (vM outs) us vr)∧(aW vs.1).Sublist vs.2∧
   ∀ l,(vs.2++l).Nodup→∀ bs,(∀ b∈bs,∃ o,o∈aW vs.1++l∧aJ g ob o∧b=g.A o)→Bq (mO outs) w0 w bs vr (.returned (rJ rs)):=by
 cases hbx:mO outs with
 |false=>
  rw[hbx]at h
  simp only[Az]at h
  split at h <;>try (cases h;done)
  rename_i v hv
  obtain rfl:=Option.some.inj h
  obtain⟨us,k1,k2⟩:=TF outs _ _ v q2 hv
  exact⟨us,rs,k1,fun _=>by rw[(abj k2).2];exact k2,List.Sublist.refl _,fun _ _ _ _=>rfl⟩
 |true=>
  rw[hbx]at h
  simp only[Az]at h
  split at h <;>try (cases h;done)
  rename_i q
  split at h <;>try (cases h;done)
  rename_i cells hq
  obtain rfl:=Option.some.inj h
  simp only[ay,aj]at q2
  obtain⟨u,t,rfl,⟨_,_,_,rfl⟩,rfl⟩:=q2
  obtain⟨us,te,k1,k2,k3,_,_⟩:=s.box q cells hq
  have hk:aJ g ob q:=Or.inl ⟨_,hq⟩
  refine⟨us,[.agg us.toArray],k2,fun hl=> ?_,List.sublist_cons_self _ _,fun l hn bs hbs=>⟨g.A q,g.pre q,us,g.post q,te,rfl,by simp[rJ],k1, ?_,fun hm=> ?_⟩⟩
  ·unfold mO at hbx
   split at hbx <;>try (cases hbx;done)
   rename_i cs
   simp only[dL,List.append_nil]at hl
   exact⟨us,[],_,[],by simp,hl,rfl,rfl,rfl,rfl⟩
  ·rcases s.base q hk with h |h
   ·rw[←hB];exact h
   ·rw[hT rfl]at h;simp at h
  ·obtain⟨o,h1,h2,h3⟩:=hbs _ hm
   have:=s.inj _ _ hk h2 h3
   subst this
   exact(List.nodup_cons.1 hn).1 h1
theorem take_len:∀ (cs:List CT) (x:ah.V cs) (k:Nat),(bn cs x k).1.length=cs.length
 | [],_,_=>rfl
 |c::cs,x,k=>by
  cases c <;>simp[bn,take_len cs]
theorem ad7{X:Cx Dr}{g:Gh}{ob0 ob:List Ob}{w w':World}(s0:aK X X.g0 ob0 w)(s:aK X g ob w')(hn0:X.n0=ob0.length)(hheap:∀ b,X.I b→w'.heap[b]? =w.heap[b]?)(p:bF)(x:ah.V p.cells)(k:Nat)(v:Value)(b0:List Nat)(y:ah.V p.io)(ids:List Nat)(hok:p.ok=true)(harg:BQ X.I X.g0.J w p x v b0)
  (hr:aj X.g0 ob0.length X.I w (jF p x k).1 v) (hst:∀ i Y,(jF p x k).2[i]? =some Y→ob0[k+i]? =some Y) (h:X8 ob p x k=some (y,ids)) (hnd:ids.Nodup):
  ∃ bs,P5 w w' X.g0.J p y v bs∧bs.Nodup∧∀ b∈bs,∃ o∈ids,aJ g ob o∧b=g.A o:=by
 have none_:(p.io=[] )→True:=fun _=>trivial
 cases p with
 |v agg cs=>exact⟨[],rfl,List.nodup_nil,by simp⟩
 |r cs=>exact⟨[],rfl,List.nodup_nil,by simp⟩
 |cl f caps=>exact⟨[],rfl,List.nodup_nil,by simp⟩
 |c agg cs=>exact⟨[],rfl,List.nodup_nil,by simp⟩
 |w agg cs=>
  have h':(fZ ob cs (bn cs x k).1).map (fun y=>(y,aW (bn cs x k).1))=some (y,ids):=h
  obtain⟨y',h1,h2⟩:=Option.map_eq_some_iff.1 h'
  cases h2
  obtain⟨us,a1,a2⟩:=harg
  have hlen:=rV _ _ _ _ a1
  have hr':aj X.g0 ob0.length X.I w (grp agg (bn cs x k).1) v:=hr
  have hrs:ay X.g0 ob0.length X.I w (bn cs x k).1 us:=by
   cases agg with
   |true=>
    have hv:v= .agg us.toArray:=a2
    have hr2:aj X.g0 ob0.length X.I w (.agg (bn cs x k).1) v:=hr'
    simp only[aj]at hr2
    obtain⟨us',e1,e2⟩:=hr2
    rw[hv]at e1
    have:us=us':=by simpa using e1
    rw[this];exact e2
   |false=>
    have hv:us=[v]:=a2
    subst hv
    have hl:=take_len cs x k
    simp at hlen
    rw[←hlen]at hl
    have hr2:aj X.g0 ob0.length X.I w ((bn cs x k).1.headD .undef) v:=hr'
    cases hc:(bn cs x k).1 with
    |nil=>rw[hc]at hl;simp at hl
    |cons q ps=>
     rw[hc]at hl hr2
     have:ps=[]:=List.eq_nil_of_length_eq_zero (by simpa using hl)
     subst this
     simp only[ay]
     exact⟨v,[],rfl,by simpa using hr2,rfl⟩
  have hrs':ay g ob.length X.I w' (bn cs x k).1 us:=ay.agree s.keptJ s0.jI hheap _ _ (fun o ho hlt=>⟨by have:=s.nle;omega,s.kept o (by omega)⟩) hrs
  obtain⟨bs,m1,m2,m3⟩:=xU s cs _ y us hok hnd h1 hrs'
  rw[s.keptJ]at m1
  exact⟨bs,⟨us,a2,m1⟩,m2,m3⟩
 |m cs=>
  have h':(match ob[k]? with |some (.box cells)=>(fZ ob cs cells).map fun y=>(y,k::aW cells) |_=>none)=some (y,ids):=h
  clear h
  split at h'<;>try (cases h';done)
  rename_i cells hq
  obtain⟨y',h1,h2⟩:=Option.map_eq_some_iff.1 h'
  cases h2
  have hk0:ob0[k]? =some (.box (bn cs x (k+1)).1):=by have:=hst 0 _ rfl;simpa using this
  obtain⟨us0,t0,p1,p2,p3,p4,p5⟩:=s0.box k _ hk0
  have hkl:k<X.n0:=by rw[hn0];exact(List.getElem?_eq_some_iff.1 hk0).1
  obtain⟨us1,t1,q1,q2,_⟩:=s.box k cells hq
  have ag:=s.kept k hkl
  rw[ag.A,ag.pre,ag.post]at q1
  have hr':aj X.g0 ob0.length X.I w (.ptr k 0 0 0) v:=hr
  simp only[aj]at hr'
  have hl0:us0.length=cs.length:=(jJ _ _ p2).trans (take_len cs x (k+1))
  have hnd2:=List.nodup_cons.1 hnd
  obtain⟨bt,m1,m2,m3⟩:=xU s cs cells y us1 hok hnd2.2 h1 q2
  rw[s.keptJ]at m1
  have hbk:aJ g ob k:=Or.inl ⟨_,hq⟩
  refine⟨X.g0.A k::bt,⟨X.g0.A k,X.g0.pre k,us0,us1,X.g0.post k,t0,t1,bt,rfl,by simpa using hr'.2.2.2,p1,hl0,q1,m1⟩,List.nodup_cons.2 ⟨fun hm=> ?_,m2⟩,fun b hb=> ?_⟩
  ·obtain⟨o,ho,hob,hA⟩:=m3 _ hm
   have:=s.inj k o hbk hob (by rw[ag.A];exact hA)
   subst this
   exact hnd2.1 ho
  ·rcases List.mem_cons.1 hb with rfl |hb
   ·exact⟨k,by simp,hbk,ag.A.symm⟩
   ·obtain⟨o,ho,hk⟩:=m3 b hb
    exact⟨o,List.mem_cons_of_mem _ ho,hk⟩
theorem VG{X:Cx Dr}{g:Gh}{ob0 ob:List Ob}{w w':World}(s0:aK X X.g0 ob0 w)(s:aK X g ob w')(hn0:X.n0=ob0.length)(hheap:∀ b,X.I b→w'.heap[b]? =w.heap[b]?):∀ (ins:List bF) (x:ah.V (cu ins)) (k:Nat) (vs:List Value) (b0:List Nat) (io:ah.V (dZ ins)×List Nat),ins.all bF.ok=true→jG X.I X.g0.J w ins x vs b0→
  ay X.g0 ob0.length X.I w (start ins x k).1 vs→(∀ i Y,(start ins x k).2[i]? =some Y→ob0[k+i]? =some Y)→yI ob ins x k=some io→io.2.Nodup→
  ∃ bs,vT w w' X.g0.J ins io.1 vs bs∧bs.Nodup∧∀ b∈bs,∃ o∈io.2,aJ g ob o∧b=g.A o
 | [],x,k,vs,b0,io,hok,harg,hr,hst,h,hnd=>by
  simp only[jG]at harg
  simp only[yI,Option.some.injEq]at h
  subst h
  exact⟨[],⟨harg.1,rfl⟩,List.nodup_nil,by simp⟩
 |p::r,x,k,vs,b0,io,hok,harg,hr,hst,h,hnd=>by
  simp only[jG]at harg
  obtain⟨v,t,b1,b2,rfl,rfl,h1,h2⟩:=harg
  simp only[List.all_cons,Bool.and_eq_true]at hok
  simp only[yI]at h
  split at h <;>try (cases h;done)
  rename_i a c e1 e2
  obtain rfl:=Option.some.inj h
  simp only at hnd
  have hn2:=List.nodup_append.1 hnd
  have hr':ay X.g0 ob0.length X.I w ((jF p (splitV p.cells (cu r) x).1 k).1::(start r (splitV p.cells (cu r) x).2 (k+(jF p (splitV p.cells (cu r) x).1 k).2.length)).1) (v::t):=hr
  simp only[ay]at hr'
  obtain⟨u0,t0,e3,r1,r2⟩:=hr'
  simp only[List.cons.injEq]at e3
  obtain⟨rfl,rfl⟩:=e3
  have hst':∀ i Y,((jF p (splitV p.cells (cu r) x).1 k).2++(start r (splitV p.cells (cu r) x).2 (k+(jF p (splitV p.cells (cu r) x).1 k).2.length)).2)[i]? =some Y→ob0[k+i]? =some Y:=hst
  obtain⟨bs1,k1,k2,k3⟩:=ad7 s0 s hn0 hheap p _ k v b1 a.1 a.2 hok.1 h1 r1 (fun i Y hi=>hst' i Y (by rw[List.getElem?_append_left (List.getElem?_eq_some_iff.1 hi).1];exact hi)) e1 hn2.1
  obtain⟨bs2,m1,m2,m3⟩:=VG s0 s hn0 hheap r _ _ t b2 c hok.2 h2 r2 (fun i Y hi=>by
   have:=hst' ((jF p (splitV p.cells (cu r) x).1 k).2.length+i) Y (by rw[List.getElem?_append_right (by omega),Nat.add_sub_cancel_left];exact hi)
   rw[Nat.add_assoc];exact this) e2 hn2.2.1
  refine⟨bs1++bs2, ?_,List.nodup_append.2 ⟨k2,m2,fun a1 ha1 a2 ha2 e=> ?_⟩,fun b hb=> ?_⟩
  ·simp only[vT,uU]
   exact⟨v,t,bs1,bs2,rfl,rfl,k1,m1⟩
  ·obtain⟨o1,p1,q1,f1⟩:=k3 a1 ha1
   obtain⟨o2,p2,q2,f2⟩:=m3 a2 ha2
   have:=s.inj o1 o2 q1 q2 (by rw[←f1, ←f2,e])
   exact hn2.2.2 _ p1 _ p2 this
  ·rcases List.mem_append.1 hb with hb |hb
   ·obtain⟨o,ho,hk⟩:=k3 b hb
    exact⟨o,List.mem_append.2 (Or.inl ho),hk⟩
   ·obtain⟨o,ho,hk⟩:=m3 b hb
    exact⟨o,List.mem_append.2 (Or.inr ho),hk⟩
theorem Nk(hm:P.follows .mixedOrders=true)(hT:∀ g fs S,tbl g fs=some S→aF Dr P g S){f:FuncId}(hent:Ba P f=true){ins:List bF}{outs:List (Bool×List CT)}{F:ah.V (cu ins)→Option (ah.V (dL outs++dZ ins))}
  {pk:List (Option (FuncId×Nat))} (h:∀ x y,F x=some y→∃ cfg k,dw P tbl cfg k f ins outs pk x=some y):aF Dr P f ⟨ins,outs,F,pk⟩:=by
 refine⟨fun args w=>jV hent args w,fun w T J x y vals avals hJ hTn htab hargs hF hpack=> ?_⟩
 simp only at hargs hF ⊢
 obtain⟨cfg,k,hr⟩:=h x y hF
 unfold dw at hr
 split at hr <;>try (cases hr;done)
 rename_i fn hf
 split at hr <;>try (cases hr;done)
 rename_i c hb
 split at hr <;>try (cases hr;done)
 rename_i hcond
 obtain⟨hl,hfl,hok⟩:=hcond
 let gz:Gh:=⟨fun _=>0,fun _=>undef,fun _=>0,fun _=>0,fun _=>[],fun _=>[],J⟩
 let Xz:Cx Dr:=⟨w.heap.size,w,T,fun b=>b<w.heap.size∧b∉T,0,gz,htab,hJ⟩
 have sz:aK Xz gz [] w:=⟨fun o cells h=>by simp at h,fun o e xs h=>by simp at h,fun o o' h=>by rcases h with ⟨_,h⟩ | ⟨_,_,h,_⟩ <;>simp at h,fun o h=>by rcases h with ⟨_,h⟩ | ⟨_,_,h,_⟩ <;>simp at h,fun b hb=>hb.1,hJ,aO.refl _ _ _,Nat.le_refl _,Nat.le_refl _,fun o ho=>by simp[Xz]at ho,rfl⟩
 obtain⟨g0,s1,k1,r1⟩:=Va ins x vals T gz [] hargs hTn (fun b hb'=>⟨Or.inr hb',fun hI=>(show b<w.heap.size∧b∉T from hI).2 hb',fun o ho=>by rcases ho with ⟨_,ho⟩ | ⟨_,_,ho,_⟩ <;>simp at ho⟩) sz
 simp only[List.nil_append,List.length_nil]at s1 k1 r1
 let X:Cx Dr:=⟨w.heap.size,w,T,fun b=>b<w.heap.size∧b∉T,(start ins x 0).2.length,g0,by rw[k1.J];exact htab,fun b hb=>hJ b (by rw[k1.J]at hb;exact hb)⟩
 have s0:aK X X.g0 (start ins x 0).2 w:=⟨s1.box,s1.arr,s1.inj,s1.base,s1.bnd,s1.jI,s1.upd,s1.bsz,Nat.le_refl _,fun o _=>Agree.refl _ _,rfl⟩
 have r2:=N8 pk _ _ _ hpack r1
 have hlen:=jJ _ _ r2
 have hJ0:g0.J=J:=k1.J
 refine calls_of_wp hf hb ?_
 have e0:dG fn.ntmps g0 (start ins x 0).2.length X.I w (yJ 0 (sJ pk (start ins x 0).1)) { tmps:=avals.toArray++Array.replicate (fn.ntmps - avals.toArray.size) undef,defers:=[] }:=by
  refine⟨by simp;omega,rfl,fun s=> ?_⟩
  rw[VI,if_pos (Nat.zero_le _),Nat.sub_zero]
  by_cases hs:s<(sJ pk (start ins x 0).1).length
  ·obtain⟨u,hu,hr⟩:=ve _ _ r2 s hs
   have:(avals.toArray++Array.replicate (fn.ntmps - avals.toArray.size) undef).getD s undef=u:=by
    rw[Array.getD_eq_getD_getElem?, Array.getElem?_append_left (by simp;omega)]
    simp[hu]
   rw[this]
   exact hr
  ·have:(sJ pk (start ins x 0).1).getD s .undef= .undef:=by simp[List.getD_eq_getElem?_getD,List.getElem?_eq_none (Nat.le_of_not_lt hs)]
   rw[this]
   simp[aj]
 refine abU hm hT (X:=X) rfl c _ _ _ g0 w _ _ hr s0 e0 fun e env' ob' g' w' a' hk hs' he'=> ?_
 have main:∀ {e},e=Ex.normal∨e=Ex.ret→di P fn.results.toList ins outs x e env' ob'=some y→a'.defers=[]∧∃ v,(results fn a'.tmps).run P w'= .ok v w'∧(aO Dr w.heap.size T w w'∧∃ us vs bs bs',Bq (mO outs) w w' (bs++bs') vs (Ending.returned v)∧bT w' J (dL outs) (splitV (dL outs) (dZ ins) y).1 us bs∧qg (vM outs) us vs∧
   vT w w' J ins (splitV (dL outs) (dZ ins) y).2 vals bs'∧(bs++bs').Nodup∧∀ b∈bs++bs',b∈T∨w.heap.size≤b):=by
  intro e hex hk
  have hk':(match yj P env' ob' fn.results.toList with
   |some ps=>match Az (mO outs) (ins.all bF.pure) ob' outs ps with
    |some vs=>match yI ob' ins x 0 with
     |some io=>if jP (vs.2++io.2)=true then yD ob' vs.1 ((vN ob' (dL outs) vs.1).map fun y=>lW (dL outs) (dZ ins) y io.1)else none
     |none=>none
    |none=>none
   |none=>none)=some y:=by rcases hex with rfl |rfl <;>exact hk
  split at hk'<;>try (cases hk';done)
  rename_i ps hps
  split at hk'<;>try (cases hk';done)
  rename_i vs hoc
  split at hk'<;>try (cases hk';done)
  rename_i io hio
  split at hk'<;>try (cases hk';done)
  rename_i hnd
  obtain⟨hrefs,hk'⟩:=Nl _ hk'
  obtain⟨yo,ho,rfl⟩:=Option.map_eq_some_iff.1 hk'
  have hnd:=Nv _ hnd
  have hn2:=List.nodup_append.1 hnd
  obtain⟨rs,q1,q2⟩:=UC hs' he' _ ps hps
  obtain⟨us,vr,m1,m2,m4,m3⟩:=aex (w0:=w) hs' rfl (fun hp=>UU ins x vals T hp hargs) outs ps rs vs q2 hoc
  have hn3:(aW vs.1).Nodup:=hn2.1.sublist m4
  obtain⟨bs,n1,n2,n3⟩:=Vr hs' (dL outs) vs.1 yo us hfl hn3 hrefs ho m1
  have hheap:∀ b,X.I b→w'.heap[b]? =w.heap[b]? :=fun b hb=>hs'.upd.block b hb.1 hb.2
  obtain⟨bs',z1,z2,z3⟩:=VG s0 hs' rfl hheap ins x 0 vals T io hok (by rw[show X.g0.J=J from hJ0];exact hargs) r1 (fun i Y hi=>by simpa using hi) hio hn2.2.1
  rw[show X.g0.J=J from hJ0]at z1
  rw[hs'.keptJ,show X.g0.J=J from hJ0]at n1
  refine⟨he'.2.1,_,abD fn a'.tmps w' rs q1,hs'.upd,us,vr,bs,bs',m3 io.2 hnd (bs++bs') (fun b hb=> ?_), ?_,m2 (rV _ _ _ _ n1), ?_,List.nodup_append.2 ⟨n2,z2,fun a1 ha1 a2 ha2 e=> ?_⟩,fun b hb'=> ?_⟩
  ·rcases List.mem_append.1 hb with hb |hb
   ·obtain⟨o,p1,p2,p3⟩:=n3 b hb;exact⟨o,List.mem_append.2 (Or.inl p1),p2,p3⟩
   ·obtain⟨o,p1,p2,p3⟩:=z3 b hb;exact⟨o,List.mem_append.2 (Or.inr p1),p2,p3⟩
  ·rw[uU];exact n1
  ·rw[uU];exact z1
  ·obtain⟨o1,p1,w1,f1⟩:=n3 a1 ha1
   obtain⟨o2,p2,w2,f2⟩:=z3 a2 ha2
   have:=hs'.inj o1 o2 w1 w2 (by rw[←f1, ←f2,e])
   exact hn2.2.2 _ (m4.subset p1) _ p2 this
  ·have:∃ o,aJ g' ob' o∧b=g'.A o:=by
    rcases List.mem_append.1 hb' with hb' |hb'
    ·obtain⟨o,_,w1,f1⟩:=n3 b hb';exact⟨o,w1,f1⟩
    ·obtain⟨o,_,w1,f1⟩:=z3 b hb';exact⟨o,w1,f1⟩
   obtain⟨o,w1,rfl⟩:=this
   rcases hs'.base o w1 with h |h
   ·exact Or.inr h
   ·exact Or.inl h
 cases e with
 |normal=>exact main (Or.inl rfl) hk
 |ret=>exact main (Or.inr rfl) hk
 |exit i=>simp[di]at hk
end Go.Rv
