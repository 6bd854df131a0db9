/- Plain facts: shares. -/
import Derived.Test.YtjknhphmhfbghaaGreatPM26
set_option linter.unusedVariables false
set_option linter.unusedSimpArgs false
set_option linter.unusedSectionVars false
noncomputable section
namespace Go.Rv
section
variable {l:List aQ} {a:Int} (h:iJ l) (hn:l.length≤100) (ha:0≤a∧a≤72057594037927936)
include h hn ha
theorem afn(T p:Nat)(hT:jh l a T)(hp:p<l.length):0≤gB l a T p∧gB l a T p≤(aS l p).2.1:=by
 have hw:=qY h p hp
 by_cases hr:aK l p<T
 ·unfold gB
  rw[if_neg (by omega:¬ (T≤aK l p∧0<fK l a T p))]
  unfold fG
  rw[if_pos hr]
  omega
 ·have hS:=sF h hn ha T p hT hp (by omega)
  have hlt:gQ l a T p<(aS l p).2.1:=by
   have hrl:=nS hp
   have hTl:T<l.length:=by omega
   have hnf:¬ jw l a T:=by rcases hT.2.2 with h1 |h1;omega;exact h1
   obtain⟨b1,b2⟩:=mG h ha T hT.1 hT.2.1
   have hA:=qX h hn T hT.1
   have hA2:=EG h T p hp (by omega)
   have hwT:=oQ h T hTl
   obtain⟨q,hq,hqr,hqe⟩:=FC h hTl
   have hcross:(oA l T).2.1*(aS l p).2.2.1≤(aS l p).2.1*(oA l T).2.2.1:=by
    rcases Nat.lt_or_eq_of_le (show T≤aK l p by omega)with hlt |heq
    ·have:=OO h hq hp (by omega)
     rw[show aS l q=oA l T from hqe,yc]at this
     omega
    ·have:=sH h hq hp (by omega)
     subst this
     rw[show aS l q=oA l T from hqe]
     exact Int.le_refl _
   unfold jw at hnf
   have h1:aV l a T*(oA l T).2.2.1<(oA l T).2.1*bM l T:=by omega
   have key:aV l a T*(aS l p).2.2.1<(aS l p).2.1*bM l T:=by
    have p1:aV l a T*(oA l T).2.2.1*(aS l p).2.2.1<(oA l T).2.1*bM l T*(aS l p).2.2.1:=Int.mul_lt_mul_of_pos_right h1 (by omega)
    have p2:(oA l T).2.1*(aS l p).2.2.1*bM l T≤(aS l p).2.1*(oA l T).2.2.1*bM l T:=Int.mul_le_mul_of_nonneg_right hcross hA.1
    refine Int.lt_of_mul_lt_mul_right (a:=(oA l T).2.2.1) ?_ (by omega)
    have e1:aV l a T*(oA l T).2.2.1*(aS l p).2.2.1=aV l a T*(aS l p).2.2.1*(oA l T).2.2.1:=Int.mul_right_comm _ _ _
    have e2:(oA l T).2.1*bM l T*(aS l p).2.2.1=(oA l T).2.1*(aS l p).2.2.1*bM l T:=Int.mul_right_comm _ _ _
    have e3:(aS l p).2.1*(oA l T).2.2.1*bM l T=(aS l p).2.1*bM l T*(oA l T).2.2.1:=Int.mul_right_comm _ _ _
    rw[e1,e2]at p1
    rw[e3]at p2
    exact Int.lt_of_lt_of_le p1 p2
   unfold gQ
   exact Int.ediv_lt_of_lt_mul (by omega) key
  unfold gB fG
  rw[if_neg hr]
  split <;>omega
end
def iO(l:List I4)(id:Int)(k:Nat):List Nat:=(List.range k).filter fun i=>decide ((g4 l i).2.1=id)
theorem nK(l:List I4)(id:Int)(k:Nat):iO l id (k+1)=if(g4 l k).2.1=id then iO l id k++[k]else iO l id k:=by
 unfold iO
 rw[List.range_succ,List.filter_append]
 by_cases e:(g4 l k).2.1=id
 ·rw[if_pos e,List.filter_cons,if_pos (decide_eq_true e),List.filter_nil]
 ·rw[if_neg e,List.filter_cons,if_neg (by rw[decide_eq_true_iff];exact e),List.filter_nil,List.append_nil]
theorem qf(l:List I4)(id:Int)(k:Nat):(iO l id k).length≤k:=by
 have:=List.length_filter_le (fun i=>decide ((g4 l i).2.1=id)) (List.range k)
 rw[List.length_range]at this
 exact this
theorem OQ{l:List I4}{id:Int}{k i:Nat}(h:i∈iO l id k):i<k:=by
 unfold iO at h
 exact List.mem_range.1 (List.mem_filter.1 h).1
theorem EQ{l:List I4}{id:Int}{k j:Nat}(hj:j<(iO l id k).length):(iO l id k).getD j 0<k:=by
 rw[List.getD_eq_getElem?_getD,List.getElem?_eq_getElem hj]
 exact OQ (List.getElem_mem hj)
def num(r:List (Int×Int)):List aQ:=r.mapIdx fun j x=>((j:Int)+1,x.1,x.2,())
theorem Eo(r:List (Int×Int))(x:Int×Int):num (r++[x])=num r++[((r.length:Int)+1,x.1,x.2,())]:=by
 unfold num;rw[List.mapIdx_concat]
theorem oL(r:List (Int×Int)):(num r).length=r.length:=by simp[num]
def dU(l:List I4)(F:Nat→Int)(id:Int)(k:Nat):List (Int×Int):=(iO l id k).map fun i=>(F i,(g4 l i).2.2.2.1)
def gy(m:List I4)(id:Int)(k:Nat):List (Int×Int):=(iO m id k).map fun i=>((g4 m i).2.2.1,(g4 m i).2.2.2.1)
theorem rQ(l:List I4)(F:Nat→Int)(id:Int)(k:Nat):(dU l F id k).length=(iO l id k).length:=by simp[dU]
theorem AV(m:List I4)(id:Int)(k:Nat):(gy m id k).length=(iO m id k).length:=by simp[gy]
abbrev gk(l:List I4)(id:Int)(k:Nat):List (Int×Int×Unit):=(iO l id k).map fun(i:Nat)=>((i:Int), -1,())
abbrev mk'(m:List I4)(id:Int)(k:Nat):List (Int×Int×Unit):=(iO m id k).map fun(i:Nat)=>(-1,(i:Int),())
abbrev ow(l:List I4)(id:Int)(k:Nat):List (Int×Unit):=(iO l id k).map fun(i:Nat)=>((i:Int),())
abbrev fJ(l m:List I4)(F:Nat→Int)(id:Int):List aQ:=num (dU l F id l.length++gy m id m.length)
section
variable {c:Int} {l m:List I4} (h:lq c l m)
include h
theorem VP(id:Int)(F:List (Int×Unit))(hF:DK (c,l,m,())=some (F,()))(hFl:F.length=l.length):
  Ai (c,l,m,id,())=some (gk l id l.length++mk' m id m.length,fJ l m (fI F) id,()):=by
 have hl:=h.2.1
 have hm:=h.2.2.1
 simp only[Ai,jc.FF,jc.T,hF,Option.bind_some]
 have s0:∀ (k0:Nat) (hx:Int→Int→List I4→List I4→List (Int×Int×Unit)→List aQ→Option (List (Int×Int×Unit)×List aQ×Unit)) (k:Nat),l.length<k→
   jc.G0 k0 hx k id 0 c l m F ([]:List (Int×Int×Unit)) ([]:List aQ)=hx id c l m (gk l id l.length) (num (dU l (fI F) id l.length)):=by
  intro k0 hx k hk
  refine run 0 l.length (fun k i=>jc.G0 k0 hx k id (i:Nat) c l m F (gk l id i) (num (dU l (fI F) id i))) _ (fun k i _ hi=> ?_) (fun k=> ?_) k (by omega) (by omega)
  ·show jc.G0 k0 hx (k+1) id (i:Nat) c l m F (gk l id i) (num (dU l (fI F) id i))=jc.G0 k0 hx k id ((i+1:Nat):Int) c l m F (gk l id (i+1)) (num (dU l (fI F) id (i+1)))
   have hpl:=qf l id i
   simp only[jc.G0,jc.R0,bY,Int.toNat_natCast]
   rw[decide_eq_true (by omega),cond_true,if_pos (by omega),aH ((i:Int)+1) (by omega)]
   by_cases e:(g4 l i).2.1=id
   ·rw[show((l.getD i (0,0,0,0,())).2.1==id)=true from beq_iff_eq.2 e,cond_true,if_pos (by simp only[List.length_map,List.length_cons,List.length_nil,maxRow];omega),if_pos (by omega),if_pos (by omega),if_pos (by rw[oL,rQ];simp only[List.length_cons,List.length_nil,maxRow];omega)]
    have e1:gk l id (i+1)=gk l id i++[((i:Int), -1,())]:=by simp only[gk];rw[nK,if_pos e,List.map_append];rfl
    have e2:num (dU l (fI F) id (i+1))=num (dU l (fI F) id i)++[(((gk l id i++[((i:Int), -1,())]).length:Int),(F.getD i (0,())).1,(l.getD i (0,0,0,0,())).2.2.2.1,())]:=by
     unfold dU
     rw[nK,if_pos e,List.map_append,List.map_cons,List.map_nil,Eo]
     simp only[List.length_append,List.length_map,List.length_cons,List.length_nil]
     rfl
    rw[e1,e2]
    rfl
   ·rw[show((l.getD i (0,0,0,0,())).2.1==id)=false from beq_eq_false_iff_ne.2 e,cond_false]
    simp only[gk,dU]
    rw[nK,if_neg e]
    rfl
  ·simp only[jc.G0,jc.R0]
   rw[decide_eq_false (by omega),cond_false]
 have s1:∀ (k0:Nat) (hx:List (Int×Int×Unit)→List aQ→Option (List (Int×Int×Unit)×List aQ×Unit)) (k:Nat),m.length<k→
   jc.G1 k0 hx k id 0 c l m (gk l id l.length) (num (dU l (fI F) id l.length))=hx (gk l id l.length++mk' m id m.length) (fJ l m (fI F) id):=by
  intro k0 hx k hk
  suffices x:jc.G1 k0 hx k id ((0:Nat):Int) c l m (gk l id l.length++mk' m id 0) (num (dU l (fI F) id l.length++gy m id 0))=hx (gk l id l.length++mk' m id m.length) (fJ l m (fI F) id) by
   simpa [mk',gy,iO]using x
  refine run 0 m.length (fun k i=>jc.G1 k0 hx k id (i:Nat) c l m (gk l id l.length++mk' m id i) (num (dU l (fI F) id l.length++gy m id i))) _ (fun k i _ hi=> ?_) (fun k=> ?_) k (by omega) (by omega)
  ·show jc.G1 k0 hx (k+1) id (i:Nat) c l m (gk l id l.length++mk' m id i) (num (dU l (fI F) id l.length++gy m id i))=jc.G1 k0 hx k id ((i+1:Nat):Int) c l m (gk l id l.length++mk' m id (i+1)) (num (dU l (fI F) id l.length++gy m id (i+1)))
   have hpl:=qf m id i
   have hpg:=qf l id l.length
   simp only[jc.G1,jc.R1,bY]
   rw[decide_eq_true (by omega),cond_true,if_pos (by omega),aH ((i:Int)+1) (by omega)]
   by_cases e:(g4 m i).2.1=id
   ·rw[show((m.getD i (0,0,0,0,())).2.1==id)=true from beq_iff_eq.2 e,cond_true,if_pos (by simp only[List.length_append,List.length_map,List.length_cons,List.length_nil,maxRow];omega),if_pos (by omega),if_pos (by omega),if_pos (by rw[oL,List.length_append,rQ,AV];simp only[List.length_cons,List.length_nil,maxRow];omega)]
    have e1:mk' m id (i+1)=mk' m id i++[(-1,(i:Int),())]:=by simp only[mk'];rw[nK,if_pos e,List.map_append];rfl
    have e2:num (dU l (fI F) id l.length++gy m id (i+1))=num (dU l (fI F) id l.length++gy m id i)++[((((gk l id l.length++mk' m id i)++[(-1,(i:Int),())]).length:Int),(m.getD i (0,0,0,0,())).2.2.1,(m.getD i (0,0,0,0,())).2.2.2.1,())]:=by
     have e3:gy m id (i+1)=gy m id i++[((g4 m i).2.2.1,(g4 m i).2.2.2.1)]:=by unfold gy;rw[nK,if_pos e,List.map_append];rfl
     rw[e3, ←List.append_assoc,Eo]
     simp only[List.length_append,List.length_map,List.length_cons,List.length_nil,rQ,AV]
     rfl
    rw[e1,e2,List.append_assoc]
    rfl
   ·rw[show((m.getD i (0,0,0,0,())).2.1==id)=false from beq_eq_false_iff_ne.2 e,cond_false]
    simp only[mk',gy]
    rw[nK,if_neg e]
    rfl
  ·simp only[jc.G1,jc.R1]
   rw[decide_eq_false (by omega),cond_false]
 rw[s0 _ _ _ (by omega)]
 simp only[jc.A0]
 rw[s1 _ _ _ (by omega)]
 rfl
theorem adJ(id:Int)(F:Nat→Int)(hF:iI F)(hW:tH l m F):
  DF (c,l,m,id,())=some (fJ l m F id,ow l id l.length,ow m id m.length,()):=by
 have hl:=h.2.1
 have hm:=h.2.2.1
 simp only[DF,iZ.FF,iZ.T]
 have s0:∀ (k0:Nat) (hx:Int→Int→List I4→List I4→List aQ→List (Int×Unit)→List (Int×Unit)→Option (List aQ×List (Int×Unit)×List (Int×Unit)×Unit)) (k:Nat),l.length<k→
   iZ.G0 k0 hx k id l (l.length:Int) 0 c l m ([]:List aQ) ([]:List (Int×Unit)) ([]:List (Int×Unit))=hx id c l m (num (dU l F id l.length)) (ow l id l.length) []:=by
  intro k0 hx k hk
  refine run 0 l.length (fun k i=>iZ.G0 k0 hx k id l (l.length:Int) (i:Nat) c l m (num (dU l F id i)) (ow l id i) []) _ (fun k i _ hi=> ?_) (fun k=> ?_) k (by omega) (by omega)
  ·show iZ.G0 k0 hx (k+1) id l _ (i:Nat) c l m (num (dU l F id i)) (ow l id i) []=iZ.G0 k0 hx k id l _ ((i+1:Nat):Int) c l m (num (dU l F id (i+1))) (ow l id (i+1)) []
   have hpl:=qf l id i
   simp only[iZ.G0,iZ.R0,bY]
   rw[decide_eq_true (by omega),cond_true,if_pos (by omega),aH ((i:Int)+1) (by omega)]
   by_cases e:(g4 l i).2.1=id
   ·have hw:=acI h F hF hW i hi
    rw[show((l.getD i (0,0,0,0,())).2.1==id)=true from beq_iff_eq.2 e,cond_true,hw]
    simp only[Option.bind_some]
    rw[if_pos (by rw[oL,rQ];simp only[List.length_cons,List.length_nil,maxRow];omega),if_pos (by simp only[List.length_map,List.length_cons,List.length_nil,maxRow];omega)]
    have e1:ow l id (i+1)=ow l id i++[((i:Int),())]:=by simp only[ow];rw[nK,if_pos e,List.map_append];rfl
    have e2:num (dU l F id (i+1))=num (dU l F id i)++[(af (((num (dU l F id i)).length:Int)+1),F i,(l.getD i (0,0,0,0,())).2.2.2.1,())]:=by
     have e3:dU l F id (i+1)=dU l F id i++[(F i,(g4 l i).2.2.2.1)]:=by unfold dU;rw[nK,if_pos e,List.map_append];rfl
     rw[e3,Eo,oL,rQ,aH _ (by omega)]
    rw[e1,e2]
    rfl
   ·rw[show((l.getD i (0,0,0,0,())).2.1==id)=false from beq_eq_false_iff_ne.2 e,cond_false]
    simp only[ow,dU]
    rw[nK,if_neg e]
    rfl
  ·simp only[iZ.G0,iZ.R0]
   rw[decide_eq_false (by omega),cond_false]
 have s1:∀ (k0:Nat) (hx:List aQ→List (Int×Unit)→List (Int×Unit)→Option (List aQ×List (Int×Unit)×List (Int×Unit)×Unit)) (k:Nat),m.length<k→
   iZ.G1 k0 hx k id m (m.length:Int) 0 (num (dU l F id l.length)) (ow l id l.length) []=hx (fJ l m F id) (ow l id l.length) (ow m id m.length):=by
  intro k0 hx k hk
  suffices x:iZ.G1 k0 hx k id m (m.length:Int) ((0:Nat):Int) (num (dU l F id l.length++gy m id 0)) (ow l id l.length) (ow m id 0)=hx (fJ l m F id) (ow l id l.length) (ow m id m.length) by
   have z1:gy m id 0=[]:=by simp[gy,iO]
   have z2:ow m id 0=[]:=by simp[ow,iO]
   rw[z1,z2,List.append_nil]at x
   exact x
  refine run 0 m.length (fun k i=>iZ.G1 k0 hx k id m (m.length:Int) (i:Nat) (num (dU l F id l.length++gy m id i)) (ow l id l.length) (ow m id i)) _ (fun k i _ hi=> ?_) (fun k=> ?_) k (by omega) (by omega)
  ·show iZ.G1 k0 hx (k+1) id m _ (i:Nat) (num (dU l F id l.length++gy m id i)) (ow l id l.length) (ow m id i)=iZ.G1 k0 hx k id m _ ((i+1:Nat):Int) (num (dU l F id l.length++gy m id (i+1))) (ow l id l.length) (ow m id (i+1))
   have hpl:=qf m id i
   have hpg:=qf l id l.length
   simp only[iZ.G1,iZ.R1,bY]
   rw[decide_eq_true (by omega),cond_true,if_pos (by omega),aH ((i:Int)+1) (by omega)]
   by_cases e:(g4 m i).2.1=id
   ·rw[show((m.getD i (0,0,0,0,())).2.1==id)=true from beq_iff_eq.2 e,cond_true,if_pos (by rw[oL,List.length_append,rQ,AV];simp only[List.length_cons,List.length_nil,maxRow];omega),if_pos (by simp only[List.length_map,List.length_cons,List.length_nil,maxRow];omega)]
    have e1:ow m id (i+1)=ow m id i++[((i:Int),())]:=by simp only[ow];rw[nK,if_pos e,List.map_append];rfl
    have e2:num (dU l F id l.length++gy m id (i+1))=num (dU l F id l.length++gy m id i)++[(af (((num (dU l F id l.length++gy m id i)).length:Int)+1),(m.getD i (0,0,0,0,())).2.2.1,(m.getD i (0,0,0,0,())).2.2.2.1,())]:=by
     have e3:gy m id (i+1)=gy m id i++[((g4 m i).2.2.1,(g4 m i).2.2.2.1)]:=by unfold gy;rw[nK,if_pos e,List.map_append];rfl
     rw[e3, ←List.append_assoc,Eo,oL,List.length_append,rQ,AV,aH _ (by omega)]
    rw[e1,e2]
    rfl
   ·rw[show((m.getD i (0,0,0,0,())).2.1==id)=false from beq_eq_false_iff_ne.2 e,cond_false]
    simp only[ow,gy]
    rw[nK,if_neg e]
    rfl
  ·simp only[iZ.G1,iZ.R1]
   rw[decide_eq_false (by omega),cond_false]
 rw[s0 _ _ _ (by omega)]
 simp only[iZ.A0]
 rw[s1 _ _ _ (by omega)]
 rfl
theorem Bf(F:Nat→Int)(id:Int):(fJ l m F id).length=(iO l id l.length).length+(iO m id m.length).length:=by
 rw[oL,List.length_append,rQ,AV]
theorem yx(F:Nat→Int)(id:Int):(fJ l m F id).length≤90:=by
 rw[Bf h]
 have:=qf l id l.length
 have:=qf m id m.length
 have hl:=h.2.1
 have hm:=h.2.2.1
 omega
theorem E8(r:List (Int×Int))(p:Nat)(hp:p<r.length):aS (num r) p=((p:Int)+1,r[p].1,r[p].2,()):=by
 rw[jL (by rw[oL];exact hp)]
 simp[num]
theorem ae3(F:Nat→Int)(hF:iI F)(id:Int)(x:Int×Int)(hx:x∈dU l F id l.length++gy m id m.length):0≤x.1∧x.1≤1125899906842624∧1≤x.2∧x.2≤1073741824:=by
 rcases List.mem_append.1 hx with hx |hx
 ·obtain⟨i,hi,rfl⟩:=List.mem_map.1 hx
  have:=hF i
  have h2:=(h.2.2.2.1 i (OQ hi)).2.2.2.2
  unfold jJ at h2
  omega
 ·obtain⟨i,hi,rfl⟩:=List.mem_map.1 hx
  have h2:=h.2.2.2.2 i (OQ hi)
  obtain⟨_,_,_,h3,h4⟩:=h2
  unfold dN at h3
  unfold jJ at h4
  omega
theorem NZ(F:Nat→Int)(hF:iI F)(id:Int):iJ (fJ l m F id)∧(∀ p,p<(fJ l m F id).length→iF (aS (fJ l m F id) p).1):=by
 have hle:=yx h F id
 refine⟨⟨?_, ?_,by omega⟩, ?_⟩
 ·intro x hx
  obtain⟨p,hp,rfl⟩:=List.getElem_of_mem hx
  rw[←jL hp]
  rw[oL]at hp
  rw[E8 h _ _ hp]
  have:=ae3 h F hF id _ (List.getElem_mem hp)
  unfold kJ
  simp only
  omega
 ·rw[List.pairwise_iff_getElem]
  intro i j hi hj hij
  rw[←jL hi, ←jL hj]
  rw[oL]at hi hj
  rw[E8 h _ _ hi,E8 h _ _ hj]
  simp only
  omega
 ·intro p hp
  have hp':=hp
  rw[oL]at hp'
  rw[E8 h _ _ hp']
  unfold iF
  simp only
  omega
end
def tA(l:List aQ)(a:Int):Nat:=Classical.choose (WQ l a)
theorem O4(l:List aQ)(a:Int):jh l a (tA l a):=Classical.choose_spec (WQ l a)
def fA(l m:List I4)(F:Nat→Int)(id a:Int)(p:Nat):Int:=gB (fJ l m F id) a (tA (fJ l m F id) a) p
def kL(A:List (Int×Unit))(ps:List Nat)(f:Nat→Int):Nat→List (Int×Unit)
 |0=>A
 |j+1=>(kL A ps f j).set (ps.getD j 0) (f j,())
theorem oJ(A:List (Int×Unit))(ps:List Nat)(f:Nat→Int):∀ j,(kL A ps f j).length=A.length
 |0=>rfl
 |j+1=>by simp only[kL];rw[List.length_set,oJ A ps f j]
theorem Og(A:List (Int×Unit))(ps:List Nat)(f:Nat→Int)(hA:∀ q,0≤fI A q∧fI A q≤1125899906842624):∀ j,(∀ i,i<j→0≤f i∧f i≤1125899906842624)→∀ q,0≤fI (kL A ps f j) q∧fI (kL A ps f j) q≤1125899906842624
 |0,_,q=>hA q
 |j+1,hf,q=>by
  have ih:=Og A ps f hA j (fun i hi=>hf i (by omega)) q
  simp only[kL]
  unfold fI at ih ⊢
  rw[List.getD_eq_getElem?_getD,List.getElem?_set]
  by_cases e:ps.getD j 0=q
  ·rw[if_pos e]
   split
   ·exact hf j (by omega)
   ·simp
  ·rw[if_neg e, ←List.getD_eq_getElem?_getD];exact ih
section
variable {c:Int} {l m:List I4} (h:lq c l m)
abbrev gp(l:List I4)(id:Int):List Nat:=iO l id l.length
def pG(l m:List I4)(F:Nat→Int)(id a:Int)(G:List (Int×Unit)):List (Int×Unit):=kL G (gp l id) (fA l m F id a) (gp l id).length
def pM(l m:List I4)(F:Nat→Int)(id a:Int)(M:List (Int×Unit)):List (Int×Unit):=kL M (gp m id) (fun j=>fA l m F id a ((gp l id).length+j)) (gp m id).length
include h
theorem Yn(F:Nat→Int)(hF:iI F)(id a:Int)(ha:0≤a∧a≤72057594037927936)(p:Nat)(hp:p<(fJ l m F id).length):0≤fA l m F id a p∧fA l m F id a p≤1125899906842624:=by
 have hg:=(NZ h F hF id).1
 have:=afn hg (by have:=yx h F id;omega) ha _ p (O4 _ a) hp
 have hw:=qY hg p hp
 unfold fA
 omega
theorem X7(F:Nat→Int)(hF:iI F)(id a:Int)(ha:0≤a∧a≤72057594037927936):xg (a,fJ l m F id,())=some (rg (fJ l m F id).length (fA l m F id a),()):=by
 obtain⟨g1,g2⟩:=NZ h F hF id
 exact adv g1 g2 (by have:=yx h F id;omega) ha _ (O4 _ a)
theorem afh(F:Nat→Int)(hF:iI F)(id a:Int)(ha:0≤a∧a≤72057594037927936):∃ y,Au (a,fJ l m F id,())=some (rg (fJ l m F id).length (fA l m F id a),y):=by
 obtain⟨g1,g2⟩:=NZ h F hF id
 exact⟨_,adK g1 (by have:=yx h F id;omega) ha _ (O4 _ a)⟩
end
end Go.Rv
end
