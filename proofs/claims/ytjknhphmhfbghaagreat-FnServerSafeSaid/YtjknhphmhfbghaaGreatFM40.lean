/- Plain facts: safe. -/
import Derived.Test.YtjknhphmhfbghaaGreatFM39
set_option linter.unusedVariables false
set_option linter.unusedSimpArgs false
set_option linter.unusedSectionVars false
namespace Go.Rv
def eX:List I3→Int
 | []=>0
 |t::r=>t.2.1+eX r
theorem UZ(a b:List I3):eX (a++b)=eX a+eX b:=by
 induction a with
 |nil=>simp[eX]
 |cons t r ih=>simp only[List.cons_append,eX,ih];omega
theorem acd{a b:List I3}(h:a.Perm b):eX a=eX b:=by
 induction h with
 |nil=>rfl
 |cons x _ ih=>simp only[eX,ih]
 |swap x y l=>simp only[eX];omega
 |trans _ _ h1 h2=>rw[h1,h2]
def tu(l:List I3):Prop:=∀ t∈l,0≤t.2.1∧t.2.1≤1125899906842624
theorem adB{l:List I3}(h:tu l):0≤eX l∧eX l≤1125899906842624*l.length:=by
 induction l with
 |nil=>simp[eX]
 |cons t r ih=>
  have h1:=h t (by simp)
  have h2:=ih fun u hu=>h u (List.mem_cons_of_mem _ hu)
  simp only[eX,List.length_cons]
  omega
theorem abC{l:List I3}(h:tu l)(p:I3→Bool):eX (l.filter p)≤eX l:=by
 induction l with
 |nil=>simp[eX]
 |cons t r ih=>
  have h1:=h t (by simp)
  have h2:=ih fun u hu=>h u (List.mem_cons_of_mem _ hu)
  rw[List.filter_cons]
  split <;>simp only[eX] <;>omega
def OG(s0:Int)(told:List I3)(steps:List (Int×Int×Unit)):Prop:=∀ A t B,told=A++t::B→0<t.2.1→∃ st∈steps,st.1=t.2.2.1 - s0∧eX A+t.2.1≤st.2.1
theorem abG{s0:Int}{told:List I3}{steps steps':List (Int×Int×Unit)}(h:OG s0 told steps)(hp:tu told)(p:I3→Bool)(hs:∀ x∈steps,x∈steps'):OG s0 (told.filter p) steps':=by
 intro A t B e ht
 obtain⟨l1,l2,rfl,e1,e2⟩:=List.filter_eq_append_iff.1 e
 obtain⟨l3,l4,rfl,e3,e4,e5⟩:=List.filter_eq_cons_iff.1 e2
 obtain⟨st,h1,h2,h3⟩:=h (l1++l3) t l4 (by simp) ht
 refine⟨st,hs st h1,h2, ?_⟩
 have hp1:tu (l1++l3):=fun x hx=>hp x (by
  rcases List.mem_append.1 hx with hx |hx
  ·exact List.mem_append_left _ hx
  ·exact List.mem_append_right _ (List.mem_append_left _ hx))
 have:eX A≤eX (l1++l3):=by
  have h4:=abC hp1 p
  have h5:(l1++l3).filter p=A:=by
   rw[List.filter_append,e1,List.filter_eq_nil_iff.2 e3,List.append_nil]
  rw[h5]at h4
  exact h4
 omega
theorem last_pos{l:List I3}(h:tu l):eX l=0∨∃ A t B,l=A++t::B∧0<t.2.1∧eX B=0:=by
 induction l with
 |nil=>exact Or.inl rfl
 |cons t r ih=>
  have h1:=h t (by simp)
  rcases ih fun u hu=>h u (List.mem_cons_of_mem _ hu)with h2 | ⟨A,u,B,rfl,h3,h4⟩
  ·by_cases h0:t.2.1=0
   ·left;simp only[eX];omega
   ·exact Or.inr ⟨[],t,r,rfl,by omega,h2⟩
  ·exact Or.inr ⟨t::A,u,B,rfl,h3,h4⟩
abbrev iO(id:Int)(x:I3):Bool:= !(x.1==id)
theorem Ny{id:Int}{x:I3}:iO id x=true↔x.1≠id:=by simp[iO]
theorem set_perm{n:List I3}(hr:iF k3 n){p:Nat}{x:I3}(hx:n[p]? =some x){id:Int}(he:x.1=id)(e:I3):(n.set p e).Perm (e::n.filter (iO id)):=by
 obtain⟨hp,hpx⟩:=List.getElem?_eq_some_iff.1 hx
 have h0:n=n.take p++x::n.drop (p+1):=by
  have h1:=List.drop_eq_getElem_cons hp
  rw[hpx]at h1
  rw[←h1,List.take_append_drop]
 have h1:n.filter (iO id)=n.take p++n.drop (p+1):=by
  have a1:(n.take p).filter (iO id)=n.take p:=List.filter_eq_self.2 fun y hy=>by
   obtain⟨i,hi,rfl⟩:=List.mem_iff_getElem.1 hy
   rw[List.length_take]at hi
   rw[List.getElem_take,Ny, ←he, ←hpx]
   have:n[i].1<n[p].1:=List.pairwise_iff_getElem.1 hr i p (by omega) hp (by omega)
   omega
  have a2:(n.drop (p+1)).filter (iO id)=n.drop (p+1):=List.filter_eq_self.2 fun y hy=>by
   obtain⟨i,hi,rfl⟩:=List.mem_iff_getElem.1 hy
   rw[List.length_drop]at hi
   rw[List.getElem_drop,Ny, ←he, ←hpx]
   have:n[p].1<n[p+1+i].1:=List.pairwise_iff_getElem.1 hr p (p+1+i) hp (by omega) (by omega)
   omega
  have a3:iO id x=false:=by simp[iO,he]
  conv=>lhs;rw[h0]
  rw[List.filter_append,List.filter_cons,a1,a2,a3]
  simp
 rw[h1,List.set_eq_take_append_cons_drop,if_pos hp]
 exact List.perm_middle
theorem ada{n:List I3}{id:Int}(hn:¬ bU k3 n id)(p:Nat)(e:I3):(insL n p e).Perm (e::n.filter (iO id)):=by
 have h1:n.filter (iO id)=n:=List.filter_eq_self.2 fun y hy=>Ny.2 fun h=>hn ⟨y,hy,h⟩
 rw[h1]
 unfold insL
 refine List.perm_middle.trans ?_
 rw[List.take_append_drop]
theorem acw{n:List I3}{now id:Int}(h:∀ x∈n,now<x.2.2.1):eP n now id n.length=eX (n.filter (iO id)):=by
 have key:∀ k,k≤n.length→sumTo k (oI n now id)=eX ((n.take k).filter (iO id)):=by
  intro k
  induction k with
  |zero=>intro _;simp[sumTo,eX]
  |succ k ih=>
   intro hk
   have hk':k<n.length:=by omega
   have hg:g3 n k=n[k]:=by simp[g3,List.getD_eq_getElem?_getD,hk']
   have hu:=h n[k] (List.getElem_mem hk')
   rw[sumTo,ih (by omega),take_snoc n k hk',List.filter_append,UZ]
   congr 1
   rw[oI,hg,if_pos hu,List.filter_cons]
   by_cases hi:n[k].1=id
   ·simp[iO,hi,eX]
   ·simp[iO,hi,eX]
 have:=key n.length (Nat.le_refl _)
 rw[List.take_length]at this
 exact this
structure vS (s0:Int) (S:St) (told:List I3) (steps:List (Int×Int×Unit)):Prop where
 ok:SQ s0 S
 pos:tu told
 len:told.length≤60
 live:∀ t∈told,S.2.1<t.2.2.1
 mem:(S.2.1<S.1+s0∧S.2.2.2.2.2=[]∧∀ t∈told,t.2.2.1≤S.1+s0)∨(S.1+s0≤S.2.1∧told.Perm S.2.2.2.2.2)
 room:OG s0 told steps
theorem vS.most{s0:Int}{S:St}{told:List I3}{steps:List (Int×Int×Unit)}(h:vS s0 S told steps)(v:Int)(hv:0≤v)(hm:∀ st∈steps,S.2.1 - s0<st.1→st.2.1≤v):eX told≤v:=by
 rcases last_pos h.pos with h0 | ⟨A,t,B,e,ht,hB⟩
 ·omega
 ·obtain⟨st,h1,h2,h3⟩:=h.room A t B e ht
  have h4:=h.live t (by rw[e];simp)
  have h5:=hm st h1 (by omega)
  rw[e,UZ,eX,hB]
  omega
def gZ(k id now:Int)(t:I3):Bool:=(if k=1∨k=2 then iO id t else true)&&decide (now<t.2.2.1)
theorem acY{s0 s1 s2 s3:Int}{l m:List I4}{n:List I3}{told:List I3}{steps:List (Int×Int×Unit)}(h:vS s0 (s1,s2,s3,l,m,n) told steps){k id g a b am un t1 t2 t3:Int}{l' m':List I4}{n':List I3}
  (hx:Fq s0 s1 s2 s3 l n k id g a b am un 0 t1 t2 t3 l' m' n') (hq:fU s0 t1 t2 t3 l' m' n'):
  vS s0 (t1,t2,t3,l',m',n') (told.filter (gZ k id t2)++(if k=1 then [(id,am,un,())]else [])) (steps++[(t2,t3,())]):=by
 have hS:fU s0 s1 s2 s3 l m n:=h.ok
 have hln:=hS.len
 have hbn:=hS.born
 have hlive:∀ t∈told,s2<t.2.2.1:=h.live
 have hmem:(s2<s1+s0∧n=[]∧∀ t∈told,t.2.2.1≤s1+s0)∨(s1+s0≤s2∧told.Perm n):=h.mem
 have hsub:∀ x∈steps,x∈steps++[(t2,t3,())]:=fun x hx=>List.mem_append_left _ hx
 have hrf:=abG h.room h.pos (gZ k id t2) hsub
 have hpf:tu (told.filter (gZ k id t2)):=fun t ht=>h.pos t (List.mem_filter.1 ht).1
 have hlf:(told.filter (gZ k id t2)).length≤60:=Nat.le_trans (List.length_filter_le _ _) h.len
 have hvf:∀ t∈told.filter (gZ k id t2),t2<t.2.2.1:=fun t ht=>by
  have:=(List.mem_filter.1 ht).2
  simp only[gZ,Bool.and_eq_true,decide_eq_true_eq]at this
  exact this.2
 by_cases k1:k=1
 ·subst k1
  obtain⟨h7,hg⟩:=hx.1 rfl
  obtain⟨hun,rfl,rfl,rfl,rfl,p,G,A, -, -, hAb, -, ham,hn⟩:=hg rfl
  have hnl:t1+s0≤t2:=by
   by_cases hh:t2<t1+s0
   ·exact absurd (h7.2 hh) (by decide)
   ·omega
  have hP:told.Perm n:=by
   rcases hmem with ⟨h1, -⟩ | ⟨-, h2⟩
   ·omega
   ·exact h2
  have hkeep:told.filter (gZ 1 id t2)=told.filter (iO id):=List.filter_congr fun t ht=>by
   simp[gZ,hlive t ht]
  rw[hkeep]at hrf hpf hlf hvf ⊢
  rw[if_pos rfl]
  have hPf:(told.filter (iO id)).Perm (n.filter (iO id)):=hP.filter _
  have hls:=acw (id:=id) (fun x hx=>(hS.rn x hx).2.1:∀ x∈n,t2<x.2.2.1)
  rw[←acd hPf]at hls
  have hPn:(told.filter (iO id)++[(id,am,un,())]).Perm n':=by
   refine(List.perm_append_comm.trans ?_:(told.filter (iO id)++[(id,am,un,())]).Perm ((id,am,un,())::n.filter (iO id))).trans ?_
   ·exact(List.Perm.cons _ hPf)
   ·rcases hn with ⟨⟨x,hx1,hx2⟩,rfl⟩ | ⟨hno, -, rfl⟩
    ·exact(set_perm hS.yU hx1 hx2 _).symm
    ·exact(ada hno p _).symm
  have hA0:=hAb p
  have ham2:0≤am∧am≤1125899906842624∧(0<am→eX (told.filter (iO id))+am≤t3):=by
   rw[hls]at ham
   have hb:=(adB hpf).1
   unfold mn mx at ham
   split at ham <;>split at ham <;>omega
  refine⟨hq,fun t ht=> ?_, ?_,fun t ht=> ?_,Or.inr ⟨hnl,hPn⟩,fun A' t B e ht=> ?_⟩
  ·rcases List.mem_append.1 ht with ht |ht
   ·exact hpf t ht
   ·rw[List.mem_singleton.1 ht];exact⟨ham2.1,ham2.2.1⟩
  ·rw[hPn.length_eq];exact(fU.small hq).2.2
  ·rcases List.mem_append.1 ht with ht |ht
   ·exact hvf t ht
   ·rw[List.mem_singleton.1 ht];show t2<un;omega
  ·rcases List.append_eq_append_iff.1 e with ⟨C,e1,e2⟩ | ⟨C,e1,e2⟩
   ·rcases C with _ | ⟨c,C⟩
    ·obtain⟨rfl, -⟩:=List.cons.inj e2
     rw[List.append_nil]at e1
     subst e1
     exact⟨(t2,t3,()),by simp,by show t2=un - s0;omega,ham2.2.2 ht⟩
    ·have:=congrArg List.length e2
     simp at this
   ·rcases C with _ | ⟨c,C⟩
    ·obtain⟨rfl, -⟩:=List.cons.inj e2
     rw[List.append_nil]at e1
     subst e1
     exact⟨(t2,t3,()),by simp,by show t2=un - s0;omega,ham2.2.2 ht⟩
    ·obtain⟨rfl,rfl⟩:=List.cons.inj e2
     exact hrf A' t C e1 ht
 rw[if_neg k1,List.append_nil]
 refine⟨hq,hpf,hlf,hvf, ?_,hrf⟩
 show(t2<t1+s0∧n'=[]∧∀ t∈told.filter (gZ k id t2),t.2.2.1≤t1+s0)∨(t1+s0≤t2∧(told.filter (gZ k id t2)).Perm n')
 by_cases k2:k=2
 ·subst k2
  obtain⟨rfl,rfl,rfl,rfl⟩:=hx.2.1 rfl rfl
  have hkeep:told.filter (gZ 2 id t2)=told.filter (iO id):=List.filter_congr fun t ht=>by
   simp[gZ,hlive t ht]
  rw[hkeep]
  rcases hmem with ⟨h1,rfl,h3⟩ | ⟨h1,h2⟩
  ·exact Or.inl ⟨h1,rfl,fun t ht=>h3 t (List.mem_filter.1 ht).1⟩
  ·exact Or.inr ⟨h1,h2.filter _⟩
 by_cases k4:k=4
 ·subst k4
  obtain⟨rfl,rfl,rfl,rfl⟩:=hx.2.2.1 rfl rfl
  have hkeep:told.filter (gZ 4 id (s2+1))=told.filter (fun x=> !decide (x.2.2.1≤s2+1)):=List.filter_congr fun t ht=>by
   by_cases hh:s2+1<t.2.2.1
   ·simp[gZ,hh]
   ·simp[gZ,hh,show t.2.2.1≤s2+1 by omega]
  rw[hkeep]
  rcases hmem with ⟨h1,rfl,h3⟩ | ⟨h1,h2⟩
  ·by_cases hh:s2+1<t1+s0
   ·exact Or.inl ⟨hh,rfl,fun t ht=>h3 t (List.mem_filter.1 ht).1⟩
   ·refine Or.inr ⟨by omega, ?_⟩
    have:told.filter (fun x=> !decide (x.2.2.1≤s2+1))=[]:=List.filter_eq_nil_iff.2 fun t ht=>by
     have:=h3 t ht
     simp;omega
    rw[this]
    exact List.Perm.refl _
  ·exact Or.inr ⟨by omega,h2.filter _⟩
 by_cases k5:k=5
 ·subst k5
  obtain⟨-, rfl,rfl,rfl,rfl,rfl⟩:=hx.2.2.2.1 rfl
  refine Or.inl ⟨by omega,rfl,fun t ht=> ?_⟩
  have ht:=(List.mem_filter.1 ht).1
  rcases hmem with ⟨h1, -, h3⟩ | ⟨h1,h2⟩
  ·have:=h3 t ht;omega
  ·have:=(hS.rn t (h2.mem_iff.1 ht)).2;omega
 ·obtain⟨rfl,rfl,rfl⟩:=hx.2.2.2.2 k1 k2 k4 k5 rfl
  have hkeep:told.filter (gZ k id t2)=told:=List.filter_eq_self.2 fun t ht=>by
   simp[gZ,hlive t ht,k1,k2]
  rw[hkeep]
  exact hmem
theorem adV(steps:List (Int×Int×Unit))(now span:Int)(hs:steps.length≤100000)(hw:af (now - span)=now - span):∃ v,Lj (steps,now,span,())=some (v,())∧0≤v∧∀ st∈steps,now - span<st.1→st.2.1≤v:=by
 show ∃ v,pR.FF (300+steps.length) steps now span=_∧_
 rw[pR.FF,pR.T]
 have key:∀ (d i:Nat) (k:Nat) (v:Int),i+d=steps.length→d<k→0≤v→(∀ st∈steps.take i,now - span<st.1→st.2.1≤v)→
   ∃ u,pR.G0 (300+steps.length) (pR.A0 steps now span) k steps now span v (i:Nat)=some (u,())∧0≤u∧∀ st∈steps,now - span<st.1→st.2.1≤u:=by
  intro d
  induction d with
  |zero=>
   intro i k v hi hk hv hm
   obtain⟨k,rfl⟩:∃ j,k=j+1:=⟨k - 1,by omega⟩
   rw[List.take_of_length_le (by omega)]at hm
   rw[pR.G0,pR.R0,decide_eq_false (by omega),cond_false]
   exact⟨v,rfl,hv,hm⟩
  |succ d ih=>
   intro i k v hi hk hv hm
   have hil:i<steps.length:=by omega
   obtain⟨k,rfl⟩:∃ j,k=j+1:=⟨k - 1,by omega⟩
   have hw1:af ((i:Int)+1)=((i+1:Nat):Int):=aI _ (by omega)
   have hg:steps.getD i (0,0,())=steps[i]:=by rw[List.getD_eq_getElem?_getD,List.getElem?_eq_getElem hil];rfl
   have hmx:D7 (v,steps[i].2.1,())=some (mx v steps[i].2.1,()):=by
    simp only[D7,Uj.T,mx]
    by_cases hh:v>steps[i].2.1
    ·rw[decide_eq_true hh,cond_true];simp;omega
    ·rw[decide_eq_false hh,cond_false];simp;omega
   have hm1:v≤mx v steps[i].2.1∧steps[i].2.1≤mx v steps[i].2.1:=by unfold mx;split <;>omega
   rw[pR.G0,pR.R0,decide_eq_true (by omega),cond_true,if_pos (by omega),bZ,hg,hw]
   by_cases ht:steps[i].1>now - span
   ·rw[decide_eq_true ht,cond_true,if_pos (by omega),hmx]
    simp only[Option.bind_some,hw1]
    refine ih (i+1) k _ (by omega) (by omega) (by omega) fun st hst hh=> ?_
    rw[take_snoc steps i hil]at hst
    rcases List.mem_append.1 hst with hst |hst
    ·have:=hm st hst hh;omega
    ·rw[List.mem_singleton.1 hst];exact hm1.2
   ·rw[decide_eq_false ht,cond_false,hw1]
    refine ih (i+1) k _ (by omega) (by omega) hv fun st hst hh=> ?_
    rw[take_snoc steps i hil]at hst
    rcases List.mem_append.1 hst with hst |hst
    ·exact hm st hst hh
    ·rw[List.mem_singleton.1 hst]at hh
     exact absurd hh ht
 exact key steps.length 0 _ 0 (by omega) (by omega) (Int.le_refl _) (by simp)
section
variable {R:Type} (k0:Nat) (kx x x2 x3 x4:Int) (list:List I5) (s s2 s3 s4:Int) (o5 o6:List I4) (o7:List I3) (o8 o9:List I4) (o10:List I3)
theorem acR(hx:Int→Int→Int→Int→Int→List I5→Int→Int→Int→Int→List (Int×Int×Unit)→Int→Int→Int→Int→Int→Int→Int→Int→Int→Int→Int→Int→List I3→List I4→List I4→List I3→List I4→List I4→List I3→Option R)(told:List I3)(hl:told.length≤1000)(steps:List (Int×Int×Unit))(o id g a b y y2 y3 y4 y5 y6 y7:Int):
  ∀ (rest:List I3) (i:Nat) (next:List I3) (k:Nat),told.drop i=rest→rest.length<k→next.length≤i→
   dR.G1 k0 hx k kx (i:Nat) x x2 x3 x4 list s s2 s3 s4 told steps o id g a b y y2 y3 y4 y5 y6 y7 next o5 o6 o7 o8 o9 o10=hx kx x x2 x3 x4 list s s2 s3 s4 steps o id g a b y y2 y3 y4 y5 y6 y7 (next++rest.filter (gZ o id s3)) o5 o6 o7 o8 o9 o10:=by
 intro rest
 induction rest with
 |nil=>
  intro i next k hd hk hn
  have:=drop_nil hd
  obtain⟨k,rfl⟩:∃ j,k=j+1:=⟨k - 1,by omega⟩
  rw[dR.G1,dR.R1,decide_eq_false (by omega),cond_false,List.filter_nil,List.append_nil]
 |cons t r ih=>
  intro i next k hd hk hn
  obtain⟨h1,h2,h3⟩:=drop_at hd
  rw[List.length_cons]at hk
  obtain⟨k,rfl⟩:∃ j,k=j+1:=⟨k - 1,by omega⟩
  have hw:af ((i:Int)+1)=((i+1:Nat):Int):=aI _ (by omega)
  have c1:(0:Int)≤(i:Int)∧(i:Int)<(told.length:Int):=by omega
  have hr:∀ z:I3,next.length+[z].length≤maxRow:=fun z=>by unfold maxRow;simp only[List.length_cons,List.length_nil];omega
  have k1:=ih (i+1) (next++[(t.1,t.2.1,t.2.2.1,())]) k h3 (by omega) (by simp only[List.length_append,List.length_cons,List.length_nil];omega)
  have k2:=ih (i+1) next k h3 (by omega) (by omega)
  rw[List.append_assoc]at k1
  rw[dR.G1,dR.R1]
  simp only[decide_eq_true c1.2,cond_true,if_pos c1,Int.toNat_natCast,getD_at _ h2,hw,if_pos (hr _),k1,k2,List.filter_cons]
  by_cases q:o=1∨o=2
  ·have hc:∀ X Y:Option R,cond (o==1) X (cond (o==2) X Y)=X:=by
    intro X Y
    rcases q with rfl |rfl <;>rfl
   have hkp:gZ o id s3 t=(!(t.1==id)&&decide (t.2.2.1>s3)):=by unfold gZ iO;rw[if_pos q]
   rw[hc,hkp]
   cases (t.1==id) <;>cases decide (t.2.2.1>s3) <;>rfl
  ·have hc:∀ X Z Y:Option R,cond (o==1) X (cond (o==2) Z Y)=Y:=by
    intro X Z Y
    rw[beq_false_of_ne (fun h=>q (Or.inl h)),beq_false_of_ne (fun h=>q (Or.inr h))];rfl
   have hkp:gZ o id s3 t=decide (t.2.2.1>s3):=by unfold gZ;rw[if_neg q];rfl
   rw[hc,hkp]
   cases decide (t.2.2.1>s3) <;>rfl
theorem adA(hx:Int→Int→Int→Int→Int→Int→List I5→Int→Int→Int→Int→List I3→List (Int×Int×Unit)→List I4→List I4→List I3→List I4→List I4→List I3→Option R)(told:List I3)(hp:tu told)(hl:told.length≤1000)(steps:List (Int×Int×Unit)):
  ∀ (rest:List I3) (i:Nat) (sum:Int) (k:Nat),told.drop i=rest→rest.length<k→0≤sum→sum≤1125899906842624*i→
   dR.G2 k0 hx k kx sum (i:Nat) x x2 x3 x4 list s s2 s3 s4 told steps o5 o6 o7 o8 o9 o10=hx kx (sum+eX rest) x x2 x3 x4 list s s2 s3 s4 told steps o5 o6 o7 o8 o9 o10:=by
 intro rest
 induction rest with
 |nil=>
  intro i sum k hd hk hn hm
  have:=drop_nil hd
  obtain⟨k,rfl⟩:∃ j,k=j+1:=⟨k - 1,by omega⟩
  rw[dR.G2,dR.R2,decide_eq_false (by omega),cond_false,eX,Int.add_zero]
 |cons t r ih=>
  intro i sum k hd hk hn hm
  obtain⟨h1,h2,h3⟩:=drop_at hd
  have ht:=hp t (List.mem_of_getElem? h2)
  rw[List.length_cons]at hk
  obtain⟨k,rfl⟩:∃ j,k=j+1:=⟨k - 1,by omega⟩
  have hw:af ((i:Int)+1)=((i+1:Nat):Int):=aI _ (by omega)
  have hw2:af (sum+t.2.1)=sum+t.2.1:=aI _ (by omega)
  have k1:=ih (i+1) (sum+t.2.1) k h3 (by omega) (by omega) (by omega)
  rw[dR.G2,dR.R2,decide_eq_true (by omega),cond_true,if_pos (by omega),Int.toNat_natCast,getD_at _ h2,hw,hw2,k1,eX,Int.add_assoc]
end
abbrev NxT:=Int→Int→Int→Int→Int→List I5→Int→Int→Int→Int→List I3→List (Int×Int×Unit)→List I4→List I4→List I3→List I4→List I4→List I3→Option (Bool×Unit)
theorem UA(K:Nat)(hK:2900<K)(nx0:NxT)(ex:Bool→Option (Bool×Unit))(kx x2 x3 x4:Int)(list:List I5)(o5 o6:List I4)(o7:List I3){s0 s1 s2 s3:Int}{l m:List I4}{n:List I3}{told:List I3}{steps:List (Int×Int×Unit)}(h:vS s0 (s1,s2,s3,l,m,n) told steps)(hst:steps.length≤2500)(k id g a b:Int):
  ∃ (t1 t2 t3:Int) (l' m':List I4) (n' told':List I3) (steps':List (Int×Int×Unit)),vS s0 (t1,t2,t3,l',m',n') told' steps'∧steps'.length≤steps.length+1∧
   ((pF (s0,s1,s2,s3,l,m,n,k,id,g,a,b,())).bind fun y1=>cond (y1.2.2.2.2.2.2.2.2.2.1 != 0) (nx0 (af (kx+1)) s0 x2 x3 x4 list s0 s1 s2 s3 told steps o5 o6 o7 l m n) (if steps.length+[(y1.2.2.1,y1.2.2.2.1,())].length≤maxRow then dR.G1 K (dR.A1 (dR.G2 K (dR.A2 nx0 ex) K)) K kx 0 s0 x2 x3 x4 list y1.1 y1.2.1 y1.2.2.1 y1.2.2.2.1 told (steps++[(y1.2.2.1,y1.2.2.2.1,())]) k id g a b y1.1 y1.2.1 y1.2.2.1 y1.2.2.2.1 y1.2.2.2.2.2.2.2.1 y1.2.2.2.2.2.2.2.2.1 y1.2.2.2.2.2.2.2.2.2.1 ([]:List I3) o5 o6 o7 y1.2.2.2.2.1 y1.2.2.2.2.2.1 y1.2.2.2.2.2.2.1 else none))=nx0 (af (kx+1)) s0 x2 x3 x4 list s0 t1 t2 t3 told' steps' o5 o6 o7 l' m' n':=by
 have hS:fU s0 s1 s2 s3 l m n:=h.ok
 obtain⟨b1,b2,b3⟩:=hS.small
 cases hop:oU k id g a b with
 |false=>
  refine⟨s1,s2,s3,l,m,n,told,steps,h,by omega, ?_⟩
  have hI:pF (s0,s1,s2,s3,l,m,n,k,id,g,a,b,())=some (0,0,0,0,[],[],[],0,0,1,()):=by
   show qE.T s0 s1 s2 s3 l m n k id g a b=_
   rw[qE.T,xB s0 s1 s2 s3 l m n (by omega) (by omega) (by omega),EU,dD (qZ.2 hS),hop];rfl
  rw[hI];rfl
 |true=>
 obtain⟨am,un,c,t1,t2,t3,l',m',n',hx,⟨rfl,hq, -, e2⟩ | ⟨hc, -, e2⟩⟩:=doX hS k id g a b hop
 rotate_left
 ·refine⟨s1,s2,s3,l,m,n,told,steps,h,by omega, ?_⟩
  rw[e2];simp only[Option.bind_some,bne_iff_ne.2 hc,cond_true]
 have hI:=acY h hx hq
 have hln:=hq.len
 have hbn:=hq.born
 obtain⟨v,hv,hv0,hvm⟩:=adV (steps++[(t2,t3,())]) t2 s0 (by simp only[List.length_append,List.length_cons,List.length_nil];omega) (aI _ (by omega))
 have hle:=hI.most v hv0 hvm
 have hfl:(told.filter (gZ k id t2)).length≤60:=Nat.le_trans (List.length_filter_le _ _) h.len
 refine⟨t1,t2,t3,l',m',n',_,_,hI,by simp, ?_⟩
 rw[e2]
 simp only[Option.bind_some,bne_self_eq_false,cond_false]
 rw[if_pos (by unfold maxRow;simp only[List.length_cons,List.length_nil];omega),
  show dR.G1 K _ K kx 0 s0 x2 x3 x4 list s0 t1 t2 t3 told _ k id g a b s0 t1 t2 t3 am un 0 [] o5 o6 o7 l' m' n'=_ from acR K kx s0 x2 x3 x4 list s0 t1 t2 t3 o5 o6 o7 l' m' n' _ told (by have:=h.len;omega) _ k id g a b s0 t1 t2 t3 am un 0 told 0 [] K rfl (by have:=h.len;omega) (Nat.le_refl _),List.nil_append,dR.A1]
 have fin:∀ L,L=told.filter (gZ k id t2)++(if k=1 then [(id,am,un,())]else [])→dR.G2 K (dR.A2 nx0 ex) K kx 0 0 s0 x2 x3 x4 list s0 t1 t2 t3 L (steps++[(t2,t3,())]) o5 o6 o7 l' m' n'=nx0 (af (kx+1)) s0 x2 x3 x4 list s0 t1 t2 t3 (told.filter (gZ k id t2)++(if k=1 then [(id,am,un,())]else [])) (steps++[(t2,t3,())]) o5 o6 o7 l' m' n':=by
  rintro L rfl
  have hl:=hI.len
  refine Eq.trans (adA K kx s0 x2 x3 x4 list s0 t1 t2 t3 o5 o6 o7 l' m' n' _ _ hI.pos (by omega) _ (told.filter (gZ k id t2)++(if k=1 then [(id,am,un,())]else [])) 0 0 K rfl (by omega) (Int.le_refl _) (by simp)) ?_
  rw[dR.A2,hv]
  simp only[Option.bind_some,Int.zero_add]
  rw[decide_eq_false (by omega),cond_false]
 by_cases k1:k=1
 ·rw[show(k==1)=true from beq_iff_eq.2 k1,cond_true,if_pos (by unfold maxRow;simp only[List.length_cons,List.length_nil];omega)]
  exact fin _ (by rw[if_pos k1])
 ·rw[beq_false_of_ne k1,cond_false]
  exact fin _ (by rw[if_neg k1,List.append_nil])
theorem acZ(K:Nat)(hK:2900<K)(code:List (Int×Unit))(x2 x3 x4:Int)(list:List I5)(hlist:list.length≤400)(o5 o6:List I4)(o7:List I3)(s0:Int):
  ∀ (d k:Nat) (kx:Int) (S:St) (told:List I3) (steps:List (Int×Int×Unit)),kx+d=400→ -2000≤kx→d<k→steps.length+d≤2500→vS s0 S told steps→
   dR.G0 K (dR.A0 code) (dR.A3 code) k kx s0 x2 x3 x4 list s0 S.1 S.2.1 S.2.2.1 told steps o5 o6 o7 S.2.2.2.1 S.2.2.2.2.1 S.2.2.2.2.2=some (true,()):=by
 intro d
 induction d with
 |zero=>
  intro k kx S told steps hd hlo hk hs h
  obtain⟨k,rfl⟩:∃ j,k=j+1:=⟨k - 1,by omega⟩
  rw[dR.G0,dR.R0,decide_eq_false (by omega),cond_false]
  rfl
 |succ d ih=>
  intro k kx S told steps hd hlo hk hs h
  obtain⟨k,rfl⟩:∃ j,k=j+1:=⟨k - 1,by omega⟩
  have hw:af (kx+1)=kx+1:=aI _ (by omega)
  rw[dR.G0,dR.R0]
  by_cases h1:kx<(list.length:Int)
  rotate_left
  ·rw[decide_eq_false h1,cond_false];rfl
  rw[decide_eq_true h1,cond_true,decide_eq_true (show kx<1200 by omega),cond_true]
  by_cases h2:kx≥0
  ·rw[decide_eq_true h2,cond_true,if_pos ⟨h2,h1⟩]
   obtain⟨t1,t2,t3,l',m',n',told',steps',hI,hl,e⟩:=UA K hK (dR.G0 K (dR.A0 code) (dR.A3 code) k) (dR.A3 code) kx x2 x3 x4 list o5 o6 o7 h (by omega) (list.getD kx.toNat (0,0,0,0,0,())).1 (list.getD kx.toNat (0,0,0,0,0,())).2.1 (list.getD kx.toNat (0,0,0,0,0,())).2.2.1 (list.getD kx.toNat (0,0,0,0,0,())).2.2.2.1 (list.getD kx.toNat (0,0,0,0,0,())).2.2.2.2.1
   rw[hw]at e
   rw[hw]
   exact e.trans (ih k (kx+1) (t1,t2,t3,l',m',n') told' steps' (by omega) (by omega) (by omega) (by omega) hI)
  ·rw[decide_eq_false h2,cond_false]
   obtain⟨t1,t2,t3,l',m',n',told',steps',hI,hl,e⟩:=UA K hK (dR.G0 K (dR.A0 code) (dR.A3 code) k) (dR.A3 code) kx x2 x3 x4 list o5 o6 o7 h (by omega) 4 0 0 0 0
   rw[hw]at e
   rw[hw]
   exact e.trans (ih k (kx+1) (t1,t2,t3,l',m',n') told' steps' (by omega) (by omega) (by omega) (by omega) hI)
theorem abh(code:List (Int×Unit)):I8 (code,())=some (true,()):=by
 show dR.FF 3000 code=_
 rw[dR.FF,dR.T]
 by_cases hc:(code.length:Int)>1048576
 ·rw[decide_eq_true hc];rfl
 rw[decide_eq_false hc,cond_false]
 obtain⟨s0,s1,s2,s3,l,m,n,list,e,⟨b1,b2,b3⟩,hL⟩:=aec code (by omega)
 rw[e]
 simp only[Option.bind_some,xw s0 s1 s2 s3 l m n (by omega) (by omega) (by omega)]
 by_cases h:oG s0 s1 s2 s3 l m n
 rotate_left
 ·rw[eU h];rfl
 have hq:=qZ.1 h
 have hln:=hq.len
 have hcap:=hq.farm.cap
 have hnew:fU s0 0 0 s3 [] [] []:=⟨hln,⟨by omega,by omega,by omega⟩,⟨hcap,by simp,by simp,List.Pairwise.nil,List.Pairwise.nil,fun x hx=>(by cases hx),fun x hx=>(by cases hx)⟩,rfl,fun x hx=>(by cases hx)⟩
 have eN:Dq (s0,s3,())=some (s0,0,0,s3,[],[],[],()):=by
  have e1:KI (s0,s3,())=some (true,()):=by
   show KZ.T s0 s3=_
   simp only[KZ.T,FP,yG,Option.bind_some]
   rw[decide_eq_true (show(1:Int)≤s0 by omega),decide_eq_true (show s0≤1000 by omega),Bv.2 hcap]
   rfl
  simp only[Dq,RP.T,e1,Option.bind_some,Bool.not_true,cond_false]
 rw[dD h,eN]
 simp only[Bool.not_true,cond_false,Option.bind_some,xB s0 0 0 s3 [] [] [] (by simp) (by simp) (by simp),dD (qZ.2 hnew),bne_self_eq_false]
 rw[aI _ (by omega)]
 refine acZ 3000 (by decide) code s1 s2 s3 list hL l m n s0 (400+s0.toNat) 3000 (0 - s0) (0,0,s3,[],[],[]) [] [(0,s3,())] (by omega) (by omega) (by omega) (by simp only[List.length_cons,List.length_nil];omega) ⟨hnew,fun t ht=>(by cases ht),by simp,fun t ht=>(by cases ht),Or.inl ⟨by show(0:Int)<0+s0;omega,rfl,fun t ht=>(by cases ht)⟩,fun A t B e=> ?_⟩
 have:=congrArg List.length e
 simp at this
theorem aaO:∀ x:ah.V (cu [.v false [.sl [CT.int .u8]]]),ah.ok (cu [.v false [.sl [CT.int .u8]]]) x→I8 x=some (true,()):=by
 rintro⟨code,⟨⟩⟩ _
 exact abh code
end Go.Rv
