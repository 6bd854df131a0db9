/- Plain facts: shares. -/
import Derived.Test.YtjknhphmhfbghaaGreatFM26
set_option linter.unusedVariables false
set_option linter.unusedSimpArgs false
set_option linter.unusedSectionVars false
noncomputable section
namespace Go.Rv
section
variable {l:List aP} {a:Int} (h:iK l) (hn:l.length≤100) (ha:0≤a∧a≤72057594037927936)
include h hn ha
theorem aeT(T p:Nat)(hT:jk l a T)(hp:p<l.length):0≤gy l a T p∧gy l a T p≤(aS l p).2.1:=by
 have hw:=qX h p hp
 by_cases hr:aN l p<T
 ·unfold gy
  rw[if_neg (by omega:¬ (T≤aN l p∧0<fO l a T p))]
  unfold fJ
  rw[if_pos hr]
  omega
 ·have hS:=sF h hn ha T p hT hp (by omega)
  have hlt:gK l a T p<(aS l p).2.1:=by
   have hrl:=nP hp
   have hTl:T<l.length:=by omega
   have hnf:¬ jA l a T:=by rcases hT.2.2 with h1 |h1;omega;exact h1
   obtain⟨b1,b2⟩:=mG h ha T hT.1 hT.2.1
   have hA:=qW h hn T hT.1
   have hA2:=Es h T p hp (by omega)
   have hwT:=oN h T hTl
   obtain⟨q,hq,hqr,hqe⟩:=Fe h hTl
   have hcross:(oA l T).2.1*(aS l p).2.2.1≤(aS l p).2.1*(oA l T).2.2.1:=by
    rcases Nat.lt_or_eq_of_le (show T≤aN l p by omega)with hlt |heq
    ·have:=Oo h hq hp (by omega)
     rw[show aS l q=oA l T from hqe,xX]at this
     omega
    ·have:=sH h hq hp (by omega)
     subst this
     rw[show aS l q=oA l T from hqe]
     exact Int.le_refl _
   unfold jA at hnf
   have h1:aU l a T*(oA l T).2.2.1<(oA l T).2.1*bM l T:=by omega
   have key:aU l a T*(aS l p).2.2.1<(aS l p).2.1*bM l T:=by
    have p1:aU l a T*(oA l T).2.2.1*(aS l p).2.2.1<(oA l T).2.1*bM l T*(aS l p).2.2.1:=Int.mul_lt_mul_of_pos_right h1 (by omega)
    have p2:(oA l T).2.1*(aS l p).2.2.1*bM l T≤(aS l p).2.1*(oA l T).2.2.1*bM l T:=Int.mul_le_mul_of_nonneg_right hcross hA.1
    refine Int.lt_of_mul_lt_mul_right (a:=(oA l T).2.2.1) ?_ (by omega)
    have e1:aU l a T*(oA l T).2.2.1*(aS l p).2.2.1=aU l a T*(aS l p).2.2.1*(oA l T).2.2.1:=Int.mul_right_comm _ _ _
    have e2:(oA l T).2.1*bM l T*(aS l p).2.2.1=(oA l T).2.1*(aS l p).2.2.1*bM l T:=Int.mul_right_comm _ _ _
    have e3:(aS l p).2.1*(oA l T).2.2.1*bM l T=(aS l p).2.1*bM l T*(oA l T).2.2.1:=Int.mul_right_comm _ _ _
    rw[e1,e2]at p1
    rw[e3]at p2
    exact Int.lt_of_lt_of_le p1 p2
   unfold gK
   exact Int.ediv_lt_of_lt_mul (by omega) key
  unfold gy fJ
  rw[if_neg hr]
  split <;>omega
end
def iP(l:List I4)(id:Int)(k:Nat):List Nat:=(List.range k).filter fun i=>decide ((g4 l i).2.1=id)
theorem nI(l:List I4)(id:Int)(k:Nat):iP l id (k+1)=if(g4 l k).2.1=id then iP l id k++[k]else iP l id k:=by
 unfold iP
 rw[List.range_succ,List.filter_append]
 by_cases e:(g4 l k).2.1=id
 ·rw[if_pos e,List.filter_cons,if_pos (decide_eq_true e),List.filter_nil]
 ·rw[if_neg e,List.filter_cons,if_neg (by rw[decide_eq_true_iff];exact e),List.filter_nil,List.append_nil]
theorem qf(l:List I4)(id:Int)(k:Nat):(iP l id k).length≤k:=by
 have:=List.length_filter_le (fun i=>decide ((g4 l i).2.1=id)) (List.range k)
 rw[List.length_range]at this
 exact this
theorem Oq{l:List I4}{id:Int}{k i:Nat}(h:i∈iP l id k):i<k:=by
 unfold iP at h
 exact List.mem_range.1 (List.mem_filter.1 h).1
theorem EH{l:List I4}{id:Int}{k j:Nat}(hj:j<(iP l id k).length):(iP l id k).getD j 0<k:=by
 rw[List.getD_eq_getElem?_getD,List.getElem?_eq_getElem hj]
 exact Oq (List.getElem_mem hj)
def num(r:List (Int×Int)):List aP:=r.mapIdx fun j x=>((j:Int)+1,x.1,x.2,())
theorem Ed(r:List (Int×Int))(x:Int×Int):num (r++[x])=num r++[((r.length:Int)+1,x.1,x.2,())]:=by
 unfold num;rw[List.mapIdx_concat]
theorem oH(r:List (Int×Int)):(num r).length=r.length:=by simp[num]
def dS(l:List I4)(F:Nat→Int)(id:Int)(k:Nat):List (Int×Int):=(iP l id k).map fun i=>(F i,(g4 l i).2.2.2.1)
def gu(m:List I4)(id:Int)(k:Nat):List (Int×Int):=(iP m id k).map fun i=>((g4 m i).2.2.1,(g4 m i).2.2.2.1)
theorem rQ(l:List I4)(F:Nat→Int)(id:Int)(k:Nat):(dS l F id k).length=(iP l id k).length:=by simp[dS]
theorem AL(m:List I4)(id:Int)(k:Nat):(gu m id k).length=(iP m id k).length:=by simp[gu]
abbrev gk(l:List I4)(id:Int)(k:Nat):List (Int×Int×Unit):=(iP l id k).map fun(i:Nat)=>((i:Int), -1,())
abbrev mk'(m:List I4)(id:Int)(k:Nat):List (Int×Int×Unit):=(iP m id k).map fun(i:Nat)=>(-1,(i:Int),())
abbrev ow(l:List I4)(id:Int)(k:Nat):List (Int×Unit):=(iP l id k).map fun(i:Nat)=>((i:Int),())
abbrev fM(l m:List I4)(F:Nat→Int)(id:Int):List aP:=num (dS l F id l.length++gu m id m.length)
section
variable {c:Int} {l m:List I4} (h:lD c l m)
include h
theorem Ve(id:Int)(F:List (Int×Unit))(hF:Dw (c,l,m,())=some (F,()))(hFl:F.length=l.length):
  Ad (c,l,m,id,())=some (gk l id l.length++mk' m id m.length,fM l m (fI F) id,()):=by
 have hl:=h.2.1
 have hm:=h.2.2.1
 simp only[Ad,je.FF,je.T,hF,Option.bind_some]
 have s0:∀ (k0:Nat) (hx:Int→Int→List I4→List I4→List (Int×Int×Unit)→List aP→Option (List (Int×Int×Unit)×List aP×Unit)) (k:Nat),l.length<k→
   je.G0 k0 hx k id 0 c l m F ([]:List (Int×Int×Unit)) ([]:List aP)=hx id c l m (gk l id l.length) (num (dS l (fI F) id l.length)):=by
  intro k0 hx k hk
  refine run 0 l.length (fun k i=>je.G0 k0 hx k id (i:Nat) c l m F (gk l id i) (num (dS l (fI F) id i))) _ (fun k i _ hi=> ?_) (fun k=> ?_) k (by omega) (by omega)
  ·show je.G0 k0 hx (k+1) id (i:Nat) c l m F (gk l id i) (num (dS l (fI F) id i))=je.G0 k0 hx k id ((i+1:Nat):Int) c l m F (gk l id (i+1)) (num (dS l (fI F) id (i+1)))
   have hpl:=qf l id i
   simp only[je.G0,je.R0,bZ,Int.toNat_natCast]
   rw[decide_eq_true (by omega),cond_true,if_pos (by omega),aI ((i:Int)+1) (by omega)]
   by_cases e:(g4 l i).2.1=id
   ·rw[show((l.getD i (0,0,0,0,())).2.1==id)=true from beq_iff_eq.2 e,cond_true,if_pos (by simp only[List.length_map,List.length_cons,List.length_nil,maxRow];omega),if_pos (by omega),if_pos (by omega),if_pos (by rw[oH,rQ];simp only[List.length_cons,List.length_nil,maxRow];omega)]
    have e1:gk l id (i+1)=gk l id i++[((i:Int), -1,())]:=by simp only[gk];rw[nI,if_pos e,List.map_append];rfl
    have e2:num (dS l (fI F) id (i+1))=num (dS l (fI F) id i)++[(((gk l id i++[((i:Int), -1,())]).length:Int),(F.getD i (0,())).1,(l.getD i (0,0,0,0,())).2.2.2.1,())]:=by
     unfold dS
     rw[nI,if_pos e,List.map_append,List.map_cons,List.map_nil,Ed]
     simp only[List.length_append,List.length_map,List.length_cons,List.length_nil]
     rfl
    rw[e1,e2]
    rfl
   ·rw[show((l.getD i (0,0,0,0,())).2.1==id)=false from beq_eq_false_iff_ne.2 e,cond_false]
    simp only[gk,dS]
    rw[nI,if_neg e]
    rfl
  ·simp only[je.G0,je.R0]
   rw[decide_eq_false (by omega),cond_false]
 have s1:∀ (k0:Nat) (hx:List (Int×Int×Unit)→List aP→Option (List (Int×Int×Unit)×List aP×Unit)) (k:Nat),m.length<k→
   je.G1 k0 hx k id 0 c l m (gk l id l.length) (num (dS l (fI F) id l.length))=hx (gk l id l.length++mk' m id m.length) (fM l m (fI F) id):=by
  intro k0 hx k hk
  suffices x:je.G1 k0 hx k id ((0:Nat):Int) c l m (gk l id l.length++mk' m id 0) (num (dS l (fI F) id l.length++gu m id 0))=hx (gk l id l.length++mk' m id m.length) (fM l m (fI F) id) by
   simpa [mk',gu,iP]using x
  refine run 0 m.length (fun k i=>je.G1 k0 hx k id (i:Nat) c l m (gk l id l.length++mk' m id i) (num (dS l (fI F) id l.length++gu m id i))) _ (fun k i _ hi=> ?_) (fun k=> ?_) k (by omega) (by omega)
  ·show je.G1 k0 hx (k+1) id (i:Nat) c l m (gk l id l.length++mk' m id i) (num (dS l (fI F) id l.length++gu m id i))=je.G1 k0 hx k id ((i+1:Nat):Int) c l m (gk l id l.length++mk' m id (i+1)) (num (dS l (fI F) id l.length++gu m id (i+1)))
   have hpl:=qf m id i
   have hpg:=qf l id l.length
   simp only[je.G1,je.R1,bZ]
   rw[decide_eq_true (by omega),cond_true,if_pos (by omega),aI ((i:Int)+1) (by omega)]
   by_cases e:(g4 m i).2.1=id
   ·rw[show((m.getD i (0,0,0,0,())).2.1==id)=true from beq_iff_eq.2 e,cond_true,if_pos (by simp only[List.length_append,List.length_map,List.length_cons,List.length_nil,maxRow];omega),if_pos (by omega),if_pos (by omega),if_pos (by rw[oH,List.length_append,rQ,AL];simp only[List.length_cons,List.length_nil,maxRow];omega)]
    have e1:mk' m id (i+1)=mk' m id i++[(-1,(i:Int),())]:=by simp only[mk'];rw[nI,if_pos e,List.map_append];rfl
    have e2:num (dS l (fI F) id l.length++gu m id (i+1))=num (dS l (fI F) id l.length++gu m id i)++[((((gk l id l.length++mk' m id i)++[(-1,(i:Int),())]).length:Int),(m.getD i (0,0,0,0,())).2.2.1,(m.getD i (0,0,0,0,())).2.2.2.1,())]:=by
     have e3:gu m id (i+1)=gu m id i++[((g4 m i).2.2.1,(g4 m i).2.2.2.1)]:=by unfold gu;rw[nI,if_pos e,List.map_append];rfl
     rw[e3, ←List.append_assoc,Ed]
     simp only[List.length_append,List.length_map,List.length_cons,List.length_nil,rQ,AL]
     rfl
    rw[e1,e2,List.append_assoc]
    rfl
   ·rw[show((m.getD i (0,0,0,0,())).2.1==id)=false from beq_eq_false_iff_ne.2 e,cond_false]
    simp only[mk',gu]
    rw[nI,if_neg e]
    rfl
  ·simp only[je.G1,je.R1]
   rw[decide_eq_false (by omega),cond_false]
 rw[s0 _ _ _ (by omega)]
 simp only[je.A0]
 rw[s1 _ _ _ (by omega)]
 rfl
theorem ade(id:Int)(F:Nat→Int)(hF:iJ F)(hW:tK l m F):
  Dt (c,l,m,id,())=some (fM l m F id,ow l id l.length,ow m id m.length,()):=by
 have hl:=h.2.1
 have hm:=h.2.2.1
 simp only[Dt,ja.FF,ja.T]
 have s0:∀ (k0:Nat) (hx:Int→Int→List I4→List I4→List aP→List (Int×Unit)→List (Int×Unit)→Option (List aP×List (Int×Unit)×List (Int×Unit)×Unit)) (k:Nat),l.length<k→
   ja.G0 k0 hx k id l (l.length:Int) 0 c l m ([]:List aP) ([]:List (Int×Unit)) ([]:List (Int×Unit))=hx id c l m (num (dS l F id l.length)) (ow l id l.length) []:=by
  intro k0 hx k hk
  refine run 0 l.length (fun k i=>ja.G0 k0 hx k id l (l.length:Int) (i:Nat) c l m (num (dS l F id i)) (ow l id i) []) _ (fun k i _ hi=> ?_) (fun k=> ?_) k (by omega) (by omega)
  ·show ja.G0 k0 hx (k+1) id l _ (i:Nat) c l m (num (dS l F id i)) (ow l id i) []=ja.G0 k0 hx k id l _ ((i+1:Nat):Int) c l m (num (dS l F id (i+1))) (ow l id (i+1)) []
   have hpl:=qf l id i
   simp only[ja.G0,ja.R0,bZ]
   rw[decide_eq_true (by omega),cond_true,if_pos (by omega),aI ((i:Int)+1) (by omega)]
   by_cases e:(g4 l i).2.1=id
   ·have hw:=ab2 h F hF hW i hi
    rw[show((l.getD i (0,0,0,0,())).2.1==id)=true from beq_iff_eq.2 e,cond_true,hw]
    simp only[Option.bind_some]
    rw[if_pos (by rw[oH,rQ];simp only[List.length_cons,List.length_nil,maxRow];omega),if_pos (by simp only[List.length_map,List.length_cons,List.length_nil,maxRow];omega)]
    have e1:ow l id (i+1)=ow l id i++[((i:Int),())]:=by simp only[ow];rw[nI,if_pos e,List.map_append];rfl
    have e2:num (dS l F id (i+1))=num (dS l F id i)++[(af (((num (dS l F id i)).length:Int)+1),F i,(l.getD i (0,0,0,0,())).2.2.2.1,())]:=by
     have e3:dS l F id (i+1)=dS l F id i++[(F i,(g4 l i).2.2.2.1)]:=by unfold dS;rw[nI,if_pos e,List.map_append];rfl
     rw[e3,Ed,oH,rQ,aI _ (by omega)]
    rw[e1,e2]
    rfl
   ·rw[show((l.getD i (0,0,0,0,())).2.1==id)=false from beq_eq_false_iff_ne.2 e,cond_false]
    simp only[ow,dS]
    rw[nI,if_neg e]
    rfl
  ·simp only[ja.G0,ja.R0]
   rw[decide_eq_false (by omega),cond_false]
 have s1:∀ (k0:Nat) (hx:List aP→List (Int×Unit)→List (Int×Unit)→Option (List aP×List (Int×Unit)×List (Int×Unit)×Unit)) (k:Nat),m.length<k→
   ja.G1 k0 hx k id m (m.length:Int) 0 (num (dS l F id l.length)) (ow l id l.length) []=hx (fM l m F id) (ow l id l.length) (ow m id m.length):=by
  intro k0 hx k hk
  suffices x:ja.G1 k0 hx k id m (m.length:Int) ((0:Nat):Int) (num (dS l F id l.length++gu m id 0)) (ow l id l.length) (ow m id 0)=hx (fM l m F id) (ow l id l.length) (ow m id m.length) by
   have z1:gu m id 0=[]:=by simp[gu,iP]
   have z2:ow m id 0=[]:=by simp[ow,iP]
   rw[z1,z2,List.append_nil]at x
   exact x
  refine run 0 m.length (fun k i=>ja.G1 k0 hx k id m (m.length:Int) (i:Nat) (num (dS l F id l.length++gu m id i)) (ow l id l.length) (ow m id i)) _ (fun k i _ hi=> ?_) (fun k=> ?_) k (by omega) (by omega)
  ·show ja.G1 k0 hx (k+1) id m _ (i:Nat) (num (dS l F id l.length++gu m id i)) (ow l id l.length) (ow m id i)=ja.G1 k0 hx k id m _ ((i+1:Nat):Int) (num (dS l F id l.length++gu m id (i+1))) (ow l id l.length) (ow m id (i+1))
   have hpl:=qf m id i
   have hpg:=qf l id l.length
   simp only[ja.G1,ja.R1,bZ]
   rw[decide_eq_true (by omega),cond_true,if_pos (by omega),aI ((i:Int)+1) (by omega)]
   by_cases e:(g4 m i).2.1=id
   ·rw[show((m.getD i (0,0,0,0,())).2.1==id)=true from beq_iff_eq.2 e,cond_true,if_pos (by rw[oH,List.length_append,rQ,AL];simp only[List.length_cons,List.length_nil,maxRow];omega),if_pos (by simp only[List.length_map,List.length_cons,List.length_nil,maxRow];omega)]
    have e1:ow m id (i+1)=ow m id i++[((i:Int),())]:=by simp only[ow];rw[nI,if_pos e,List.map_append];rfl
    have e2:num (dS l F id l.length++gu m id (i+1))=num (dS l F id l.length++gu m id i)++[(af (((num (dS l F id l.length++gu m id i)).length:Int)+1),(m.getD i (0,0,0,0,())).2.2.1,(m.getD i (0,0,0,0,())).2.2.2.1,())]:=by
     have e3:gu m id (i+1)=gu m id i++[((g4 m i).2.2.1,(g4 m i).2.2.2.1)]:=by unfold gu;rw[nI,if_pos e,List.map_append];rfl
     rw[e3, ←List.append_assoc,Ed,oH,List.length_append,rQ,AL,aI _ (by omega)]
    rw[e1,e2]
    rfl
   ·rw[show((m.getD i (0,0,0,0,())).2.1==id)=false from beq_eq_false_iff_ne.2 e,cond_false]
    simp only[ow,gu]
    rw[nI,if_neg e]
    rfl
  ·simp only[ja.G1,ja.R1]
   rw[decide_eq_false (by omega),cond_false]
 rw[s0 _ _ _ (by omega)]
 simp only[ja.A0]
 rw[s1 _ _ _ (by omega)]
 rfl
theorem A8(F:Nat→Int)(id:Int):(fM l m F id).length=(iP l id l.length).length+(iP m id m.length).length:=by
 rw[oH,List.length_append,rQ,AL]
theorem yt(F:Nat→Int)(id:Int):(fM l m F id).length≤90:=by
 rw[A8 h]
 have:=qf l id l.length
 have:=qf m id m.length
 have hl:=h.2.1
 have hm:=h.2.2.1
 omega
theorem ER(r:List (Int×Int))(p:Nat)(hp:p<r.length):aS (num r) p=((p:Int)+1,r[p].1,r[p].2,()):=by
 rw[jO (by rw[oH];exact hp)]
 simp[num]
theorem aez(F:Nat→Int)(hF:iJ F)(id:Int)(x:Int×Int)(hx:x∈dS l F id l.length++gu m id m.length):0≤x.1∧x.1≤1125899906842624∧1≤x.2∧x.2≤1073741824:=by
 rcases List.mem_append.1 hx with hx |hx
 ·obtain⟨i,hi,rfl⟩:=List.mem_map.1 hx
  have:=hF i
  have h2:=(h.2.2.2.1 i (Oq hi)).2.2.2.2
  unfold jL at h2
  omega
 ·obtain⟨i,hi,rfl⟩:=List.mem_map.1 hx
  have h2:=h.2.2.2.2 i (Oq hi)
  obtain⟨_,_,_,h3,h4⟩:=h2
  unfold dP at h3
  unfold jL at h4
  omega
theorem ND(F:Nat→Int)(hF:iJ F)(id:Int):iK (fM l m F id)∧(∀ p,p<(fM l m F id).length→iG (aS (fM l m F id) p).1):=by
 have hle:=yt h F id
 refine⟨⟨?_, ?_,by omega⟩, ?_⟩
 ·intro x hx
  obtain⟨p,hp,rfl⟩:=List.getElem_of_mem hx
  rw[←jO hp]
  rw[oH]at hp
  rw[ER h _ _ hp]
  have:=aez h F hF id _ (List.getElem_mem hp)
  unfold kM
  simp only
  omega
 ·rw[List.pairwise_iff_getElem]
  intro i j hi hj hij
  rw[←jO hi, ←jO hj]
  rw[oH]at hi hj
  rw[ER h _ _ hi,ER h _ _ hj]
  simp only
  omega
 ·intro p hp
  have hp':=hp
  rw[oH]at hp'
  rw[ER h _ _ hp']
  unfold iG
  simp only
  omega
end
def tA(l:List aP)(a:Int):Nat:=Classical.choose (VZ l a)
theorem OD(l:List aP)(a:Int):jk l a (tA l a):=Classical.choose_spec (VZ l a)
def fA(l m:List I4)(F:Nat→Int)(id a:Int)(p:Nat):Int:=gy (fM l m F id) a (tA (fM l m F id) a) p
def kP(A:List (Int×Unit))(ps:List Nat)(f:Nat→Int):Nat→List (Int×Unit)
 |0=>A
 |j+1=>(kP A ps f j).set (ps.getD j 0) (f j,())
theorem oD(A:List (Int×Unit))(ps:List Nat)(f:Nat→Int):∀ j,(kP A ps f j).length=A.length
 |0=>rfl
 |j+1=>by simp only[kP];rw[List.length_set,oD A ps f j]
theorem NK(A:List (Int×Unit))(ps:List Nat)(f:Nat→Int)(hA:∀ q,0≤fI A q∧fI A q≤1125899906842624):∀ j,(∀ i,i<j→0≤f i∧f i≤1125899906842624)→∀ q,0≤fI (kP A ps f j) q∧fI (kP A ps f j) q≤1125899906842624
 |0,_,q=>hA q
 |j+1,hf,q=>by
  have ih:=NK A ps f hA j (fun i hi=>hf i (by omega)) q
  simp only[kP]
  unfold fI at ih ⊢
  rw[List.getD_eq_getElem?_getD,List.getElem?_set]
  by_cases e:ps.getD j 0=q
  ·rw[if_pos e]
   split
   ·exact hf j (by omega)
   ·simp
  ·rw[if_neg e, ←List.getD_eq_getElem?_getD];exact ih
section
variable {c:Int} {l m:List I4} (h:lD c l m)
abbrev gp(l:List I4)(id:Int):List Nat:=iP l id l.length
def pG(l m:List I4)(F:Nat→Int)(id a:Int)(G:List (Int×Unit)):List (Int×Unit):=kP G (gp l id) (fA l m F id a) (gp l id).length
def pM(l m:List I4)(F:Nat→Int)(id a:Int)(M:List (Int×Unit)):List (Int×Unit):=kP M (gp m id) (fun j=>fA l m F id a ((gp l id).length+j)) (gp m id).length
include h
theorem XL(F:Nat→Int)(hF:iJ F)(id a:Int)(ha:0≤a∧a≤72057594037927936)(p:Nat)(hp:p<(fM l m F id).length):0≤fA l m F id a p∧fA l m F id a p≤1125899906842624:=by
 have hg:=(ND h F hF id).1
 have:=aeT hg (by have:=yt h F id;omega) ha _ p (OD _ a) hp
 have hw:=qX hg p hp
 unfold fA
 omega
theorem Xw(F:Nat→Int)(hF:iJ F)(id a:Int)(ha:0≤a∧a≤72057594037927936):wW (a,fM l m F id,())=some (rg (fM l m F id).length (fA l m F id a),()):=by
 obtain⟨g1,g2⟩:=ND h F hF id
 exact acV g1 g2 (by have:=yt h F id;omega) ha _ (OD _ a)
theorem aeN(F:Nat→Int)(hF:iJ F)(id a:Int)(ha:0≤a∧a≤72057594037927936):∃ y,Ak (a,fM l m F id,())=some (rg (fM l m F id).length (fA l m F id a),y):=by
 obtain⟨g1,g2⟩:=ND h F hF id
 exact⟨_,adf g1 (by have:=yt h F id;omega) ha _ (OD _ a)⟩
end
end Go.Rv
end
