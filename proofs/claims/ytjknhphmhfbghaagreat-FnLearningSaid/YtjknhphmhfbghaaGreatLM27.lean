/- Plain facts: shares. -/
import Derived.Test.YtjknhphmhfbghaaGreatLM26
set_option linter.unusedVariables false
set_option linter.unusedSimpArgs false
set_option linter.unusedSectionVars false
noncomputable section
namespace Go.Rv
section
variable {l:List aP} {a:Int} (h:iH l) (hn:l.length≤100) (ha:0≤a∧a≤72057594037927936)
include h hn ha
theorem aeb(T p:Nat)(hT:jc l a T)(hp:p<l.length):0≤fU l a T p∧fU l a T p≤(aQ l p).2.1:=by
 have hw:=qN h p hp
 by_cases hr:aK l p<T
 ·unfold fU
  rw[if_neg (by omega:¬ (T≤aK l p∧0<fJ l a T p))]
  unfold fF
  rw[if_pos hr]
  omega
 ·have hS:=rU h hn ha T p hT hp (by omega)
  have hlt:gG l a T p<(aQ l p).2.1:=by
   have hrl:=nK hp
   have hTl:T<l.length:=by omega
   have hnf:¬ jo l a T:=by rcases hT.2.2 with h1 |h1;omega;exact h1
   obtain⟨b1,b2⟩:=l7 h ha T hT.1 hT.2.1
   have hA:=qM h hn T hT.1
   have hA2:=Eb h T p hp (by omega)
   have hwT:=oI h T hTl
   obtain⟨q,hq,hqr,hqe⟩:=EQ h hTl
   have hcross:(oA l T).2.1*(aQ l p).2.2.1≤(aQ l p).2.1*(oA l T).2.2.1:=by
    rcases Nat.lt_or_eq_of_le (show T≤aK l p by omega)with hlt |heq
    ·have:=NH h hq hp (by omega)
     rw[show aQ l q=oA l T from hqe,xM]at this
     omega
    ·have:=rV h hq hp (by omega)
     subst this
     rw[show aQ l q=oA l T from hqe]
     exact Int.le_refl _
   unfold jo at hnf
   have h1:aU l a T*(oA l T).2.2.1<(oA l T).2.1*bK l T:=by omega
   have key:aU l a T*(aQ l p).2.2.1<(aQ l p).2.1*bK l T:=by
    have p1:aU l a T*(oA l T).2.2.1*(aQ l p).2.2.1<(oA l T).2.1*bK l T*(aQ l p).2.2.1:=Int.mul_lt_mul_of_pos_right h1 (by omega)
    have p2:(oA l T).2.1*(aQ l p).2.2.1*bK l T≤(aQ l p).2.1*(oA l T).2.2.1*bK l T:=Int.mul_le_mul_of_nonneg_right hcross hA.1
    refine Int.lt_of_mul_lt_mul_right (a:=(oA l T).2.2.1) ?_ (by omega)
    have e1:aU l a T*(oA l T).2.2.1*(aQ l p).2.2.1=aU l a T*(aQ l p).2.2.1*(oA l T).2.2.1:=Int.mul_right_comm _ _ _
    have e2:(oA l T).2.1*bK l T*(aQ l p).2.2.1=(oA l T).2.1*(aQ l p).2.2.1*bK l T:=Int.mul_right_comm _ _ _
    have e3:(aQ l p).2.1*(oA l T).2.2.1*bK l T=(aQ l p).2.1*bK l T*(oA l T).2.2.1:=Int.mul_right_comm _ _ _
    rw[e1,e2]at p1
    rw[e3]at p2
    exact Int.lt_of_lt_of_le p1 p2
   unfold gG
   exact Int.ediv_lt_of_lt_mul (by omega) key
  unfold fU fF
  rw[if_neg hr]
  split <;>omega
end
def iK(l:List I4)(id:Int)(k:Nat):List Nat:=(List.range k).filter fun i=>decide ((g4 l i).2.1=id)
theorem nC(l:List I4)(id:Int)(k:Nat):iK l id (k+1)=if(g4 l k).2.1=id then iK l id k++[k]else iK l id k:=by
 unfold iK
 rw[List.range_succ,List.filter_append]
 by_cases e:(g4 l k).2.1=id
 ·rw[if_pos e,List.filter_cons,if_pos (decide_eq_true e),List.filter_nil]
 ·rw[if_neg e,List.filter_cons,if_neg (by rw[decide_eq_true_iff];exact e),List.filter_nil,List.append_nil]
theorem pK(l:List I4)(id:Int)(k:Nat):(iK l id k).length≤k:=by
 have:=List.length_filter_le (fun i=>decide ((g4 l i).2.1=id)) (List.range k)
 rw[List.length_range]at this
 exact this
theorem NI{l:List I4}{id:Int}{k i:Nat}(h:i∈iK l id k):i<k:=by
 unfold iK at h
 exact List.mem_range.1 (List.mem_filter.1 h).1
theorem En{l:List I4}{id:Int}{k j:Nat}(hj:j<(iK l id k).length):(iK l id k).getD j 0<k:=by
 rw[List.getD_eq_getElem?_getD,List.getElem?_eq_getElem hj]
 exact NI (List.getElem_mem hj)
def num(r:List (Int×Int)):List aP:=r.mapIdx fun j x=>((j:Int)+1,x.1,x.2,())
theorem DU(r:List (Int×Int))(x:Int×Int):num (r++[x])=num r++[((r.length:Int)+1,x.1,x.2,())]:=by
 unfold num;rw[List.mapIdx_concat]
theorem oz(r:List (Int×Int)):(num r).length=r.length:=by simp[num]
def dR(l:List I4)(F:Nat→Int)(id:Int)(k:Nat):List (Int×Int):=(iK l id k).map fun i=>(F i,(g4 l i).2.2.2.1)
def fQ(m:List I4)(id:Int)(k:Nat):List (Int×Int):=(iK m id k).map fun i=>((g4 m i).2.2.1,(g4 m i).2.2.2.1)
theorem rE(l:List I4)(F:Nat→Int)(id:Int)(k:Nat):(dR l F id k).length=(iK l id k).length:=by simp[dR]
theorem Ah(m:List I4)(id:Int)(k:Nat):(fQ m id k).length=(iK m id k).length:=by simp[fQ]
abbrev gk(l:List I4)(id:Int)(k:Nat):List (Int×Int×Unit):=(iK l id k).map fun(i:Nat)=>((i:Int), -1,())
abbrev mk'(m:List I4)(id:Int)(k:Nat):List (Int×Int×Unit):=(iK m id k).map fun(i:Nat)=>(-1,(i:Int),())
abbrev ow(l:List I4)(id:Int)(k:Nat):List (Int×Unit):=(iK l id k).map fun(i:Nat)=>((i:Int),())
abbrev fH(l m:List I4)(F:Nat→Int)(id:Int):List aP:=num (dR l F id l.length++fQ m id m.length)
section
variable {c:Int} {l m:List I4} (h:kY c l m)
include h
theorem Ut(id:Int)(F:List (Int×Unit))(hF:C9 (c,l,m,())=some (F,()))(hFl:F.length=l.length):
  zM (c,l,m,id,())=some (gk l id l.length++mk' m id m.length,fH l m (fI F) id,()):=by
 have hl:=h.2.1
 have hm:=h.2.2.1
 simp only[zM,iY.FF,iY.T,hF,Option.bind_some]
 have s0:∀ (k0:Nat) (hx:Int→Int→List I4→List I4→List (Int×Int×Unit)→List aP→Option (List (Int×Int×Unit)×List aP×Unit)) (k:Nat),l.length<k→
   iY.G0 k0 hx k id 0 c l m F ([]:List (Int×Int×Unit)) ([]:List aP)=hx id c l m (gk l id l.length) (num (dR l (fI F) id l.length)):=by
  intro k0 hx k hk
  refine run 0 l.length (fun k i=>iY.G0 k0 hx k id (i:Nat) c l m F (gk l id i) (num (dR l (fI F) id i))) _ (fun k i _ hi=> ?_) (fun k=> ?_) k (by omega) (by omega)
  ·show iY.G0 k0 hx (k+1) id (i:Nat) c l m F (gk l id i) (num (dR l (fI F) id i))=iY.G0 k0 hx k id ((i+1:Nat):Int) c l m F (gk l id (i+1)) (num (dR l (fI F) id (i+1)))
   have hpl:=pK l id i
   simp only[iY.G0,iY.R0,bZ,Int.toNat_natCast]
   rw[decide_eq_true (by omega),cond_true,if_pos (by omega),aJ ((i:Int)+1) (by omega)]
   by_cases e:(g4 l i).2.1=id
   ·rw[show((l.getD i (0,0,0,0,())).2.1==id)=true from beq_iff_eq.2 e,cond_true,if_pos (by simp only[List.length_map,List.length_cons,List.length_nil,maxRow];omega),if_pos (by omega),if_pos (by omega),if_pos (by rw[oz,rE];simp only[List.length_cons,List.length_nil,maxRow];omega)]
    have e1:gk l id (i+1)=gk l id i++[((i:Int), -1,())]:=by simp only[gk];rw[nC,if_pos e,List.map_append];rfl
    have e2:num (dR l (fI F) id (i+1))=num (dR l (fI F) id i)++[(((gk l id i++[((i:Int), -1,())]).length:Int),(F.getD i (0,())).1,(l.getD i (0,0,0,0,())).2.2.2.1,())]:=by
     unfold dR
     rw[nC,if_pos e,List.map_append,List.map_cons,List.map_nil,DU]
     simp only[List.length_append,List.length_map,List.length_cons,List.length_nil]
     rfl
    rw[e1,e2]
    rfl
   ·rw[show((l.getD i (0,0,0,0,())).2.1==id)=false from beq_eq_false_iff_ne.2 e,cond_false]
    simp only[gk,dR]
    rw[nC,if_neg e]
    rfl
  ·simp only[iY.G0,iY.R0]
   rw[decide_eq_false (by omega),cond_false]
 have s1:∀ (k0:Nat) (hx:List (Int×Int×Unit)→List aP→Option (List (Int×Int×Unit)×List aP×Unit)) (k:Nat),m.length<k→
   iY.G1 k0 hx k id 0 c l m (gk l id l.length) (num (dR l (fI F) id l.length))=hx (gk l id l.length++mk' m id m.length) (fH l m (fI F) id):=by
  intro k0 hx k hk
  suffices x:iY.G1 k0 hx k id ((0:Nat):Int) c l m (gk l id l.length++mk' m id 0) (num (dR l (fI F) id l.length++fQ m id 0))=hx (gk l id l.length++mk' m id m.length) (fH l m (fI F) id) by
   simpa [mk',fQ,iK]using x
  refine run 0 m.length (fun k i=>iY.G1 k0 hx k id (i:Nat) c l m (gk l id l.length++mk' m id i) (num (dR l (fI F) id l.length++fQ m id i))) _ (fun k i _ hi=> ?_) (fun k=> ?_) k (by omega) (by omega)
  ·show iY.G1 k0 hx (k+1) id (i:Nat) c l m (gk l id l.length++mk' m id i) (num (dR l (fI F) id l.length++fQ m id i))=iY.G1 k0 hx k id ((i+1:Nat):Int) c l m (gk l id l.length++mk' m id (i+1)) (num (dR l (fI F) id l.length++fQ m id (i+1)))
   have hpl:=pK m id i
   have hpg:=pK l id l.length
   simp only[iY.G1,iY.R1,bZ]
   rw[decide_eq_true (by omega),cond_true,if_pos (by omega),aJ ((i:Int)+1) (by omega)]
   by_cases e:(g4 m i).2.1=id
   ·rw[show((m.getD i (0,0,0,0,())).2.1==id)=true from beq_iff_eq.2 e,cond_true,if_pos (by simp only[List.length_append,List.length_map,List.length_cons,List.length_nil,maxRow];omega),if_pos (by omega),if_pos (by omega),if_pos (by rw[oz,List.length_append,rE,Ah];simp only[List.length_cons,List.length_nil,maxRow];omega)]
    have e1:mk' m id (i+1)=mk' m id i++[(-1,(i:Int),())]:=by simp only[mk'];rw[nC,if_pos e,List.map_append];rfl
    have e2:num (dR l (fI F) id l.length++fQ m id (i+1))=num (dR l (fI F) id l.length++fQ m id i)++[((((gk l id l.length++mk' m id i)++[(-1,(i:Int),())]).length:Int),(m.getD i (0,0,0,0,())).2.2.1,(m.getD i (0,0,0,0,())).2.2.2.1,())]:=by
     have e3:fQ m id (i+1)=fQ m id i++[((g4 m i).2.2.1,(g4 m i).2.2.2.1)]:=by unfold fQ;rw[nC,if_pos e,List.map_append];rfl
     rw[e3, ←List.append_assoc,DU]
     simp only[List.length_append,List.length_map,List.length_cons,List.length_nil,rE,Ah]
     rfl
    rw[e1,e2,List.append_assoc]
    rfl
   ·rw[show((m.getD i (0,0,0,0,())).2.1==id)=false from beq_eq_false_iff_ne.2 e,cond_false]
    simp only[mk',fQ]
    rw[nC,if_neg e]
    rfl
  ·simp only[iY.G1,iY.R1]
   rw[decide_eq_false (by omega),cond_false]
 rw[s0 _ _ _ (by omega)]
 simp only[iY.A0]
 rw[s1 _ _ _ (by omega)]
 rfl
theorem acz(id:Int)(F:Nat→Int)(hF:iG F)(hW:sQ l m F):
  CX (c,l,m,id,())=some (fH l m F id,ow l id l.length,ow m id m.length,()):=by
 have hl:=h.2.1
 have hm:=h.2.2.1
 simp only[CX,iU.FF,iU.T]
 have s0:∀ (k0:Nat) (hx:Int→Int→List I4→List I4→List aP→List (Int×Unit)→List (Int×Unit)→Option (List aP×List (Int×Unit)×List (Int×Unit)×Unit)) (k:Nat),l.length<k→
   iU.G0 k0 hx k id l (l.length:Int) 0 c l m ([]:List aP) ([]:List (Int×Unit)) ([]:List (Int×Unit))=hx id c l m (num (dR l F id l.length)) (ow l id l.length) []:=by
  intro k0 hx k hk
  refine run 0 l.length (fun k i=>iU.G0 k0 hx k id l (l.length:Int) (i:Nat) c l m (num (dR l F id i)) (ow l id i) []) _ (fun k i _ hi=> ?_) (fun k=> ?_) k (by omega) (by omega)
  ·show iU.G0 k0 hx (k+1) id l _ (i:Nat) c l m (num (dR l F id i)) (ow l id i) []=iU.G0 k0 hx k id l _ ((i+1:Nat):Int) c l m (num (dR l F id (i+1))) (ow l id (i+1)) []
   have hpl:=pK l id i
   simp only[iU.G0,iU.R0,bZ]
   rw[decide_eq_true (by omega),cond_true,if_pos (by omega),aJ ((i:Int)+1) (by omega)]
   by_cases e:(g4 l i).2.1=id
   ·have hw:=abt h F hF hW i hi
    rw[show((l.getD i (0,0,0,0,())).2.1==id)=true from beq_iff_eq.2 e,cond_true,hw]
    simp only[Option.bind_some]
    rw[if_pos (by rw[oz,rE];simp only[List.length_cons,List.length_nil,maxRow];omega),if_pos (by simp only[List.length_map,List.length_cons,List.length_nil,maxRow];omega)]
    have e1:ow l id (i+1)=ow l id i++[((i:Int),())]:=by simp only[ow];rw[nC,if_pos e,List.map_append];rfl
    have e2:num (dR l F id (i+1))=num (dR l F id i)++[(af (((num (dR l F id i)).length:Int)+1),F i,(l.getD i (0,0,0,0,())).2.2.2.1,())]:=by
     have e3:dR l F id (i+1)=dR l F id i++[(F i,(g4 l i).2.2.2.1)]:=by unfold dR;rw[nC,if_pos e,List.map_append];rfl
     rw[e3,DU,oz,rE,aJ _ (by omega)]
    rw[e1,e2]
    rfl
   ·rw[show((l.getD i (0,0,0,0,())).2.1==id)=false from beq_eq_false_iff_ne.2 e,cond_false]
    simp only[ow,dR]
    rw[nC,if_neg e]
    rfl
  ·simp only[iU.G0,iU.R0]
   rw[decide_eq_false (by omega),cond_false]
 have s1:∀ (k0:Nat) (hx:List aP→List (Int×Unit)→List (Int×Unit)→Option (List aP×List (Int×Unit)×List (Int×Unit)×Unit)) (k:Nat),m.length<k→
   iU.G1 k0 hx k id m (m.length:Int) 0 (num (dR l F id l.length)) (ow l id l.length) []=hx (fH l m F id) (ow l id l.length) (ow m id m.length):=by
  intro k0 hx k hk
  suffices x:iU.G1 k0 hx k id m (m.length:Int) ((0:Nat):Int) (num (dR l F id l.length++fQ m id 0)) (ow l id l.length) (ow m id 0)=hx (fH l m F id) (ow l id l.length) (ow m id m.length) by
   have z1:fQ m id 0=[]:=by simp[fQ,iK]
   have z2:ow m id 0=[]:=by simp[ow,iK]
   rw[z1,z2,List.append_nil]at x
   exact x
  refine run 0 m.length (fun k i=>iU.G1 k0 hx k id m (m.length:Int) (i:Nat) (num (dR l F id l.length++fQ m id i)) (ow l id l.length) (ow m id i)) _ (fun k i _ hi=> ?_) (fun k=> ?_) k (by omega) (by omega)
  ·show iU.G1 k0 hx (k+1) id m _ (i:Nat) (num (dR l F id l.length++fQ m id i)) (ow l id l.length) (ow m id i)=iU.G1 k0 hx k id m _ ((i+1:Nat):Int) (num (dR l F id l.length++fQ m id (i+1))) (ow l id l.length) (ow m id (i+1))
   have hpl:=pK m id i
   have hpg:=pK l id l.length
   simp only[iU.G1,iU.R1,bZ]
   rw[decide_eq_true (by omega),cond_true,if_pos (by omega),aJ ((i:Int)+1) (by omega)]
   by_cases e:(g4 m i).2.1=id
   ·rw[show((m.getD i (0,0,0,0,())).2.1==id)=true from beq_iff_eq.2 e,cond_true,if_pos (by rw[oz,List.length_append,rE,Ah];simp only[List.length_cons,List.length_nil,maxRow];omega),if_pos (by simp only[List.length_map,List.length_cons,List.length_nil,maxRow];omega)]
    have e1:ow m id (i+1)=ow m id i++[((i:Int),())]:=by simp only[ow];rw[nC,if_pos e,List.map_append];rfl
    have e2:num (dR l F id l.length++fQ m id (i+1))=num (dR l F id l.length++fQ m id i)++[(af (((num (dR l F id l.length++fQ m id i)).length:Int)+1),(m.getD i (0,0,0,0,())).2.2.1,(m.getD i (0,0,0,0,())).2.2.2.1,())]:=by
     have e3:fQ m id (i+1)=fQ m id i++[((g4 m i).2.2.1,(g4 m i).2.2.2.1)]:=by unfold fQ;rw[nC,if_pos e,List.map_append];rfl
     rw[e3, ←List.append_assoc,DU,oz,List.length_append,rE,Ah,aJ _ (by omega)]
    rw[e1,e2]
    rfl
   ·rw[show((m.getD i (0,0,0,0,())).2.1==id)=false from beq_eq_false_iff_ne.2 e,cond_false]
    simp only[ow,fQ]
    rw[nC,if_neg e]
    rfl
  ·simp only[iU.G1,iU.R1]
   rw[decide_eq_false (by omega),cond_false]
 rw[s0 _ _ _ (by omega)]
 simp only[iU.A0]
 rw[s1 _ _ _ (by omega)]
 rfl
theorem Az(F:Nat→Int)(id:Int):(fH l m F id).length=(iK l id l.length).length+(iK m id m.length).length:=by
 rw[oz,List.length_append,rE,Ah]
theorem xW(F:Nat→Int)(id:Int):(fH l m F id).length≤90:=by
 rw[Az h]
 have:=pK l id l.length
 have:=pK m id m.length
 have hl:=h.2.1
 have hm:=h.2.2.1
 omega
theorem ED(r:List (Int×Int))(p:Nat)(hp:p<r.length):aQ (num r) p=((p:Int)+1,r[p].1,r[p].2,()):=by
 rw[jH (by rw[oz];exact hp)]
 simp[num]
theorem adP(F:Nat→Int)(hF:iG F)(id:Int)(x:Int×Int)(hx:x∈dR l F id l.length++fQ m id m.length):0≤x.1∧x.1≤1125899906842624∧1≤x.2∧x.2≤1073741824:=by
 rcases List.mem_append.1 hx with hx |hx
 ·obtain⟨i,hi,rfl⟩:=List.mem_map.1 hx
  have:=hF i
  have h2:=(h.2.2.2.1 i (NI hi)).2.2.2.2
  unfold jF at h2
  omega
 ·obtain⟨i,hi,rfl⟩:=List.mem_map.1 hx
  have h2:=h.2.2.2.2 i (NI hi)
  obtain⟨_,_,_,h3,h4⟩:=h2
  unfold dO at h3
  unfold jF at h4
  omega
theorem MN(F:Nat→Int)(hF:iG F)(id:Int):iH (fH l m F id)∧(∀ p,p<(fH l m F id).length→iw (aQ (fH l m F id) p).1):=by
 have hle:=xW h F id
 refine⟨⟨?_, ?_,by omega⟩, ?_⟩
 ·intro x hx
  obtain⟨p,hp,rfl⟩:=List.getElem_of_mem hx
  rw[←jH hp]
  rw[oz]at hp
  rw[ED h _ _ hp]
  have:=adP h F hF id _ (List.getElem_mem hp)
  unfold kF
  simp only
  omega
 ·rw[List.pairwise_iff_getElem]
  intro i j hi hj hij
  rw[←jH hi, ←jH hj]
  rw[oz]at hi hj
  rw[ED h _ _ hi,ED h _ _ hj]
  simp only
  omega
 ·intro p hp
  have hp':=hp
  rw[oz]at hp'
  rw[ED h _ _ hp']
  unfold iw
  simp only
  omega
end
def tA(l:List aP)(a:Int):Nat:=Classical.choose (Vq l a)
theorem NW(l:List aP)(a:Int):jc l a (tA l a):=Classical.choose_spec (Vq l a)
def fA(l m:List I4)(F:Nat→Int)(id a:Int)(p:Nat):Int:=fU (fH l m F id) a (tA (fH l m F id) a) p
def kJ(A:List (Int×Unit))(ps:List Nat)(f:Nat→Int):Nat→List (Int×Unit)
 |0=>A
 |j+1=>(kJ A ps f j).set (ps.getD j 0) (f j,())
theorem oq(A:List (Int×Unit))(ps:List Nat)(f:Nat→Int):∀ j,(kJ A ps f j).length=A.length
 |0=>rfl
 |j+1=>by simp only[kJ];rw[List.length_set,oq A ps f j]
theorem MW(A:List (Int×Unit))(ps:List Nat)(f:Nat→Int)(hA:∀ q,0≤fI A q∧fI A q≤1125899906842624):∀ j,(∀ i,i<j→0≤f i∧f i≤1125899906842624)→∀ q,0≤fI (kJ A ps f j) q∧fI (kJ A ps f j) q≤1125899906842624
 |0,_,q=>hA q
 |j+1,hf,q=>by
  have ih:=MW A ps f hA j (fun i hi=>hf i (by omega)) q
  simp only[kJ]
  unfold fI at ih ⊢
  rw[List.getD_eq_getElem?_getD,List.getElem?_set]
  by_cases e:ps.getD j 0=q
  ·rw[if_pos e]
   split
   ·exact hf j (by omega)
   ·simp
  ·rw[if_neg e, ←List.getD_eq_getElem?_getD];exact ih
section
variable {c:Int} {l m:List I4} (h:kY c l m)
abbrev gp(l:List I4)(id:Int):List Nat:=iK l id l.length
def pG(l m:List I4)(F:Nat→Int)(id a:Int)(G:List (Int×Unit)):List (Int×Unit):=kJ G (gp l id) (fA l m F id a) (gp l id).length
def pM(l m:List I4)(F:Nat→Int)(id a:Int)(M:List (Int×Unit)):List (Int×Unit):=kJ M (gp m id) (fun j=>fA l m F id a ((gp l id).length+j)) (gp m id).length
include h
theorem Xe(F:Nat→Int)(hF:iG F)(id a:Int)(ha:0≤a∧a≤72057594037927936)(p:Nat)(hp:p<(fH l m F id).length):0≤fA l m F id a p∧fA l m F id a p≤1125899906842624:=by
 have hg:=(MN h F hF id).1
 have:=aeb hg (by have:=xW h F id;omega) ha _ p (NW _ a) hp
 have hw:=qN hg p hp
 unfold fA
 omega
theorem WO(F:Nat→Int)(hF:iG F)(id a:Int)(ha:0≤a∧a≤72057594037927936):wO (a,fH l m F id,())=some (rg (fH l m F id).length (fA l m F id a),()):=by
 obtain⟨g1,g2⟩:=MN h F hF id
 exact acg g1 g2 (by have:=xW h F id;omega) ha _ (NW _ a)
theorem ad4(F:Nat→Int)(hF:iG F)(id a:Int)(ha:0≤a∧a≤72057594037927936):∃ y,zV (a,fH l m F id,())=some (rg (fH l m F id).length (fA l m F id a),y):=by
 obtain⟨g1,g2⟩:=MN h F hF id
 exact⟨_,acA g1 (by have:=xW h F id;omega) ha _ (NW _ a)⟩
end
end Go.Rv
end
