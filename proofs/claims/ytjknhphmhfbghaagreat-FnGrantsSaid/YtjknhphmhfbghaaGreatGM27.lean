/- Plain facts: shares. -/
import Derived.Test.YtjknhphmhfbghaaGreatGM26
set_option linter.unusedVariables false
set_option linter.unusedSimpArgs false
set_option linter.unusedSectionVars false
noncomputable section
namespace Go.Rv
section
variable {l:List aP} {a:Int} (h:iI l) (hn:l.length≤100) (ha:0≤a∧a≤72057594037927936)
include h hn ha
theorem aev(T p:Nat)(hT:jd l a T)(hp:p<l.length):0≤fV l a T p∧fV l a T p≤(aQ l p).2.1:=by
 have hw:=qO h p hp
 by_cases hr:aN l p<T
 ·unfold fV
  rw[if_neg (by omega:¬ (T≤aN l p∧0<fJ l a T p))]
  unfold fE
  rw[if_pos hr]
  omega
 ·have hS:=rV h hn ha T p hT hp (by omega)
  have hlt:gJ l a T p<(aQ l p).2.1:=by
   have hrl:=nM hp
   have hTl:T<l.length:=by omega
   have hnf:¬ jr l a T:=by rcases hT.2.2 with h1 |h1;omega;exact h1
   obtain⟨b1,b2⟩:=mg h ha T hT.1 hT.2.1
   have hA:=qN h hn T hT.1
   have hA2:=Em h T p hp (by omega)
   have hwT:=oK h T hTl
   obtain⟨q,hq,hqr,hqe⟩:=E8 h hTl
   have hcross:(oA l T).2.1*(aQ l p).2.2.1≤(aQ l p).2.1*(oA l T).2.2.1:=by
    rcases Nat.lt_or_eq_of_le (show T≤aN l p by omega)with hlt |heq
    ·have:=NS h hq hp (by omega)
     rw[show aQ l q=oA l T from hqe,xO]at this
     omega
    ·have:=rW h hq hp (by omega)
     subst this
     rw[show aQ l q=oA l T from hqe]
     exact Int.le_refl _
   unfold jr at hnf
   have h1:aU l a T*(oA l T).2.2.1<(oA l T).2.1*bM l T:=by omega
   have key:aU l a T*(aQ l p).2.2.1<(aQ l p).2.1*bM l T:=by
    have p1:aU l a T*(oA l T).2.2.1*(aQ l p).2.2.1<(oA l T).2.1*bM l T*(aQ l p).2.2.1:=Int.mul_lt_mul_of_pos_right h1 (by omega)
    have p2:(oA l T).2.1*(aQ l p).2.2.1*bM l T≤(aQ l p).2.1*(oA l T).2.2.1*bM l T:=Int.mul_le_mul_of_nonneg_right hcross hA.1
    refine Int.lt_of_mul_lt_mul_right (a:=(oA l T).2.2.1) ?_ (by omega)
    have e1:aU l a T*(oA l T).2.2.1*(aQ l p).2.2.1=aU l a T*(aQ l p).2.2.1*(oA l T).2.2.1:=Int.mul_right_comm _ _ _
    have e2:(oA l T).2.1*bM l T*(aQ l p).2.2.1=(oA l T).2.1*(aQ l p).2.2.1*bM l T:=Int.mul_right_comm _ _ _
    have e3:(aQ l p).2.1*(oA l T).2.2.1*bM l T=(aQ l p).2.1*bM l T*(oA l T).2.2.1:=Int.mul_right_comm _ _ _
    rw[e1,e2]at p1
    rw[e3]at p2
    exact Int.lt_of_lt_of_le p1 p2
   unfold gJ
   exact Int.ediv_lt_of_lt_mul (by omega) key
  unfold fV fE
  rw[if_neg hr]
  split <;>omega
end
def iK(l:List I4)(id:Int)(k:Nat):List Nat:=(List.range k).filter fun i=>decide ((g4 l i).2.1=id)
theorem nD(l:List I4)(id:Int)(k:Nat):iK l id (k+1)=if(g4 l k).2.1=id then iK l id k++[k]else iK l id k:=by
 unfold iK
 rw[List.range_succ,List.filter_append]
 by_cases e:(g4 l k).2.1=id
 ·rw[if_pos e,List.filter_cons,if_pos (decide_eq_true e),List.filter_nil]
 ·rw[if_neg e,List.filter_cons,if_neg (by rw[decide_eq_true_iff];exact e),List.filter_nil,List.append_nil]
theorem pU(l:List I4)(id:Int)(k:Nat):(iK l id k).length≤k:=by
 have:=List.length_filter_le (fun i=>decide ((g4 l i).2.1=id)) (List.range k)
 rw[List.length_range]at this
 exact this
theorem NT{l:List I4}{id:Int}{k i:Nat}(h:i∈iK l id k):i<k:=by
 unfold iK at h
 exact List.mem_range.1 (List.mem_filter.1 h).1
theorem EC{l:List I4}{id:Int}{k j:Nat}(hj:j<(iK l id k).length):(iK l id k).getD j 0<k:=by
 rw[List.getD_eq_getElem?_getD,List.getElem?_eq_getElem hj]
 exact NT (List.getElem_mem hj)
def num(r:List (Int×Int)):List aP:=r.mapIdx fun j x=>((j:Int)+1,x.1,x.2,())
theorem D9(r:List (Int×Int))(x:Int×Int):num (r++[x])=num r++[((r.length:Int)+1,x.1,x.2,())]:=by
 unfold num;rw[List.mapIdx_concat]
theorem oC(r:List (Int×Int)):(num r).length=r.length:=by simp[num]
def dQ(l:List I4)(F:Nat→Int)(id:Int)(k:Nat):List (Int×Int):=(iK l id k).map fun i=>(F i,(g4 l i).2.2.2.1)
def fU(m:List I4)(id:Int)(k:Nat):List (Int×Int):=(iK m id k).map fun i=>((g4 m i).2.2.1,(g4 m i).2.2.2.1)
theorem rF(l:List I4)(F:Nat→Int)(id:Int)(k:Nat):(dQ l F id k).length=(iK l id k).length:=by simp[dQ]
theorem Ak(m:List I4)(id:Int)(k:Nat):(fU m id k).length=(iK m id k).length:=by simp[fU]
abbrev gk(l:List I4)(id:Int)(k:Nat):List (Int×Int×Unit):=(iK l id k).map fun(i:Nat)=>((i:Int), -1,())
abbrev mk'(m:List I4)(id:Int)(k:Nat):List (Int×Int×Unit):=(iK m id k).map fun(i:Nat)=>(-1,(i:Int),())
abbrev ow(l:List I4)(id:Int)(k:Nat):List (Int×Unit):=(iK l id k).map fun(i:Nat)=>((i:Int),())
abbrev fH(l m:List I4)(F:Nat→Int)(id:Int):List aP:=num (dQ l F id l.length++fU m id m.length)
section
variable {c:Int} {l m:List I4} (h:kZ c l m)
include h
theorem UU(id:Int)(F:List (Int×Unit))(hF:Dn (c,l,m,())=some (F,()))(hFl:F.length=l.length):
  zQ (c,l,m,id,())=some (gk l id l.length++mk' m id m.length,fH l m (fI F) id,()):=by
 have hl:=h.2.1
 have hm:=h.2.2.1
 simp only[zQ,iZ.FF,iZ.T,hF,Option.bind_some]
 have s0:∀ (k0:Nat) (hx:Int→Int→List I4→List I4→List (Int×Int×Unit)→List aP→Option (List (Int×Int×Unit)×List aP×Unit)) (k:Nat),l.length<k→
   iZ.G0 k0 hx k id 0 c l m F ([]:List (Int×Int×Unit)) ([]:List aP)=hx id c l m (gk l id l.length) (num (dQ l (fI F) id l.length)):=by
  intro k0 hx k hk
  refine run 0 l.length (fun k i=>iZ.G0 k0 hx k id (i:Nat) c l m F (gk l id i) (num (dQ l (fI F) id i))) _ (fun k i _ hi=> ?_) (fun k=> ?_) k (by omega) (by omega)
  ·show iZ.G0 k0 hx (k+1) id (i:Nat) c l m F (gk l id i) (num (dQ l (fI F) id i))=iZ.G0 k0 hx k id ((i+1:Nat):Int) c l m F (gk l id (i+1)) (num (dQ l (fI F) id (i+1)))
   have hpl:=pU l id i
   simp only[iZ.G0,iZ.R0,bZ,Int.toNat_natCast]
   rw[decide_eq_true (by omega),cond_true,if_pos (by omega),aJ ((i:Int)+1) (by omega)]
   by_cases e:(g4 l i).2.1=id
   ·rw[show((l.getD i (0,0,0,0,())).2.1==id)=true from beq_iff_eq.2 e,cond_true,if_pos (by simp only[List.length_map,List.length_cons,List.length_nil,maxRow];omega),if_pos (by omega),if_pos (by omega),if_pos (by rw[oC,rF];simp only[List.length_cons,List.length_nil,maxRow];omega)]
    have e1:gk l id (i+1)=gk l id i++[((i:Int), -1,())]:=by simp only[gk];rw[nD,if_pos e,List.map_append];rfl
    have e2:num (dQ l (fI F) id (i+1))=num (dQ l (fI F) id i)++[(((gk l id i++[((i:Int), -1,())]).length:Int),(F.getD i (0,())).1,(l.getD i (0,0,0,0,())).2.2.2.1,())]:=by
     unfold dQ
     rw[nD,if_pos e,List.map_append,List.map_cons,List.map_nil,D9]
     simp only[List.length_append,List.length_map,List.length_cons,List.length_nil]
     rfl
    rw[e1,e2]
    rfl
   ·rw[show((l.getD i (0,0,0,0,())).2.1==id)=false from beq_eq_false_iff_ne.2 e,cond_false]
    simp only[gk,dQ]
    rw[nD,if_neg e]
    rfl
  ·simp only[iZ.G0,iZ.R0]
   rw[decide_eq_false (by omega),cond_false]
 have s1:∀ (k0:Nat) (hx:List (Int×Int×Unit)→List aP→Option (List (Int×Int×Unit)×List aP×Unit)) (k:Nat),m.length<k→
   iZ.G1 k0 hx k id 0 c l m (gk l id l.length) (num (dQ l (fI F) id l.length))=hx (gk l id l.length++mk' m id m.length) (fH l m (fI F) id):=by
  intro k0 hx k hk
  suffices x:iZ.G1 k0 hx k id ((0:Nat):Int) c l m (gk l id l.length++mk' m id 0) (num (dQ l (fI F) id l.length++fU m id 0))=hx (gk l id l.length++mk' m id m.length) (fH l m (fI F) id) by
   simpa [mk',fU,iK]using x
  refine run 0 m.length (fun k i=>iZ.G1 k0 hx k id (i:Nat) c l m (gk l id l.length++mk' m id i) (num (dQ l (fI F) id l.length++fU m id i))) _ (fun k i _ hi=> ?_) (fun k=> ?_) k (by omega) (by omega)
  ·show iZ.G1 k0 hx (k+1) id (i:Nat) c l m (gk l id l.length++mk' m id i) (num (dQ l (fI F) id l.length++fU m id i))=iZ.G1 k0 hx k id ((i+1:Nat):Int) c l m (gk l id l.length++mk' m id (i+1)) (num (dQ l (fI F) id l.length++fU m id (i+1)))
   have hpl:=pU m id i
   have hpg:=pU l id l.length
   simp only[iZ.G1,iZ.R1,bZ]
   rw[decide_eq_true (by omega),cond_true,if_pos (by omega),aJ ((i:Int)+1) (by omega)]
   by_cases e:(g4 m i).2.1=id
   ·rw[show((m.getD i (0,0,0,0,())).2.1==id)=true from beq_iff_eq.2 e,cond_true,if_pos (by simp only[List.length_append,List.length_map,List.length_cons,List.length_nil,maxRow];omega),if_pos (by omega),if_pos (by omega),if_pos (by rw[oC,List.length_append,rF,Ak];simp only[List.length_cons,List.length_nil,maxRow];omega)]
    have e1:mk' m id (i+1)=mk' m id i++[(-1,(i:Int),())]:=by simp only[mk'];rw[nD,if_pos e,List.map_append];rfl
    have e2:num (dQ l (fI F) id l.length++fU m id (i+1))=num (dQ l (fI F) id l.length++fU m id i)++[((((gk l id l.length++mk' m id i)++[(-1,(i:Int),())]).length:Int),(m.getD i (0,0,0,0,())).2.2.1,(m.getD i (0,0,0,0,())).2.2.2.1,())]:=by
     have e3:fU m id (i+1)=fU m id i++[((g4 m i).2.2.1,(g4 m i).2.2.2.1)]:=by unfold fU;rw[nD,if_pos e,List.map_append];rfl
     rw[e3, ←List.append_assoc,D9]
     simp only[List.length_append,List.length_map,List.length_cons,List.length_nil,rF,Ak]
     rfl
    rw[e1,e2,List.append_assoc]
    rfl
   ·rw[show((m.getD i (0,0,0,0,())).2.1==id)=false from beq_eq_false_iff_ne.2 e,cond_false]
    simp only[mk',fU]
    rw[nD,if_neg e]
    rfl
  ·simp only[iZ.G1,iZ.R1]
   rw[decide_eq_false (by omega),cond_false]
 rw[s0 _ _ _ (by omega)]
 simp only[iZ.A0]
 rw[s1 _ _ _ (by omega)]
 rfl
theorem acU(id:Int)(F:Nat→Int)(hF:iH F)(hW:sW l m F):
  Di (c,l,m,id,())=some (fH l m F id,ow l id l.length,ow m id m.length,()):=by
 have hl:=h.2.1
 have hm:=h.2.2.1
 simp only[Di,iV.FF,iV.T]
 have s0:∀ (k0:Nat) (hx:Int→Int→List I4→List I4→List aP→List (Int×Unit)→List (Int×Unit)→Option (List aP×List (Int×Unit)×List (Int×Unit)×Unit)) (k:Nat),l.length<k→
   iV.G0 k0 hx k id l (l.length:Int) 0 c l m ([]:List aP) ([]:List (Int×Unit)) ([]:List (Int×Unit))=hx id c l m (num (dQ l F id l.length)) (ow l id l.length) []:=by
  intro k0 hx k hk
  refine run 0 l.length (fun k i=>iV.G0 k0 hx k id l (l.length:Int) (i:Nat) c l m (num (dQ l F id i)) (ow l id i) []) _ (fun k i _ hi=> ?_) (fun k=> ?_) k (by omega) (by omega)
  ·show iV.G0 k0 hx (k+1) id l _ (i:Nat) c l m (num (dQ l F id i)) (ow l id i) []=iV.G0 k0 hx k id l _ ((i+1:Nat):Int) c l m (num (dQ l F id (i+1))) (ow l id (i+1)) []
   have hpl:=pU l id i
   simp only[iV.G0,iV.R0,bZ]
   rw[decide_eq_true (by omega),cond_true,if_pos (by omega),aJ ((i:Int)+1) (by omega)]
   by_cases e:(g4 l i).2.1=id
   ·have hw:=abN h F hF hW i hi
    rw[show((l.getD i (0,0,0,0,())).2.1==id)=true from beq_iff_eq.2 e,cond_true,hw]
    simp only[Option.bind_some]
    rw[if_pos (by rw[oC,rF];simp only[List.length_cons,List.length_nil,maxRow];omega),if_pos (by simp only[List.length_map,List.length_cons,List.length_nil,maxRow];omega)]
    have e1:ow l id (i+1)=ow l id i++[((i:Int),())]:=by simp only[ow];rw[nD,if_pos e,List.map_append];rfl
    have e2:num (dQ l F id (i+1))=num (dQ l F id i)++[(af (((num (dQ l F id i)).length:Int)+1),F i,(l.getD i (0,0,0,0,())).2.2.2.1,())]:=by
     have e3:dQ l F id (i+1)=dQ l F id i++[(F i,(g4 l i).2.2.2.1)]:=by unfold dQ;rw[nD,if_pos e,List.map_append];rfl
     rw[e3,D9,oC,rF,aJ _ (by omega)]
    rw[e1,e2]
    rfl
   ·rw[show((l.getD i (0,0,0,0,())).2.1==id)=false from beq_eq_false_iff_ne.2 e,cond_false]
    simp only[ow,dQ]
    rw[nD,if_neg e]
    rfl
  ·simp only[iV.G0,iV.R0]
   rw[decide_eq_false (by omega),cond_false]
 have s1:∀ (k0:Nat) (hx:List aP→List (Int×Unit)→List (Int×Unit)→Option (List aP×List (Int×Unit)×List (Int×Unit)×Unit)) (k:Nat),m.length<k→
   iV.G1 k0 hx k id m (m.length:Int) 0 (num (dQ l F id l.length)) (ow l id l.length) []=hx (fH l m F id) (ow l id l.length) (ow m id m.length):=by
  intro k0 hx k hk
  suffices x:iV.G1 k0 hx k id m (m.length:Int) ((0:Nat):Int) (num (dQ l F id l.length++fU m id 0)) (ow l id l.length) (ow m id 0)=hx (fH l m F id) (ow l id l.length) (ow m id m.length) by
   have z1:fU m id 0=[]:=by simp[fU,iK]
   have z2:ow m id 0=[]:=by simp[ow,iK]
   rw[z1,z2,List.append_nil]at x
   exact x
  refine run 0 m.length (fun k i=>iV.G1 k0 hx k id m (m.length:Int) (i:Nat) (num (dQ l F id l.length++fU m id i)) (ow l id l.length) (ow m id i)) _ (fun k i _ hi=> ?_) (fun k=> ?_) k (by omega) (by omega)
  ·show iV.G1 k0 hx (k+1) id m _ (i:Nat) (num (dQ l F id l.length++fU m id i)) (ow l id l.length) (ow m id i)=iV.G1 k0 hx k id m _ ((i+1:Nat):Int) (num (dQ l F id l.length++fU m id (i+1))) (ow l id l.length) (ow m id (i+1))
   have hpl:=pU m id i
   have hpg:=pU l id l.length
   simp only[iV.G1,iV.R1,bZ]
   rw[decide_eq_true (by omega),cond_true,if_pos (by omega),aJ ((i:Int)+1) (by omega)]
   by_cases e:(g4 m i).2.1=id
   ·rw[show((m.getD i (0,0,0,0,())).2.1==id)=true from beq_iff_eq.2 e,cond_true,if_pos (by rw[oC,List.length_append,rF,Ak];simp only[List.length_cons,List.length_nil,maxRow];omega),if_pos (by simp only[List.length_map,List.length_cons,List.length_nil,maxRow];omega)]
    have e1:ow m id (i+1)=ow m id i++[((i:Int),())]:=by simp only[ow];rw[nD,if_pos e,List.map_append];rfl
    have e2:num (dQ l F id l.length++fU m id (i+1))=num (dQ l F id l.length++fU m id i)++[(af (((num (dQ l F id l.length++fU m id i)).length:Int)+1),(m.getD i (0,0,0,0,())).2.2.1,(m.getD i (0,0,0,0,())).2.2.2.1,())]:=by
     have e3:fU m id (i+1)=fU m id i++[((g4 m i).2.2.1,(g4 m i).2.2.2.1)]:=by unfold fU;rw[nD,if_pos e,List.map_append];rfl
     rw[e3, ←List.append_assoc,D9,oC,List.length_append,rF,Ak,aJ _ (by omega)]
    rw[e1,e2]
    rfl
   ·rw[show((m.getD i (0,0,0,0,())).2.1==id)=false from beq_eq_false_iff_ne.2 e,cond_false]
    simp only[ow,fU]
    rw[nD,if_neg e]
    rfl
  ·simp only[iV.G1,iV.R1]
   rw[decide_eq_false (by omega),cond_false]
 rw[s0 _ _ _ (by omega)]
 simp only[iV.A0]
 rw[s1 _ _ _ (by omega)]
 rfl
theorem AL(F:Nat→Int)(id:Int):(fH l m F id).length=(iK l id l.length).length+(iK m id m.length).length:=by
 rw[oC,List.length_append,rF,Ak]
theorem xZ(F:Nat→Int)(id:Int):(fH l m F id).length≤90:=by
 rw[AL h]
 have:=pU l id l.length
 have:=pU m id m.length
 have hl:=h.2.1
 have hm:=h.2.2.1
 omega
theorem EO(r:List (Int×Int))(p:Nat)(hp:p<r.length):aQ (num r) p=((p:Int)+1,r[p].1,r[p].2,()):=by
 rw[jL (by rw[oC];exact hp)]
 simp[num]
theorem ad9(F:Nat→Int)(hF:iH F)(id:Int)(x:Int×Int)(hx:x∈dQ l F id l.length++fU m id m.length):0≤x.1∧x.1≤1125899906842624∧1≤x.2∧x.2≤1073741824:=by
 rcases List.mem_append.1 hx with hx |hx
 ·obtain⟨i,hi,rfl⟩:=List.mem_map.1 hx
  have:=hF i
  have h2:=(h.2.2.2.1 i (NT hi)).2.2.2.2
  unfold jJ at h2
  omega
 ·obtain⟨i,hi,rfl⟩:=List.mem_map.1 hx
  have h2:=h.2.2.2.2 i (NT hi)
  obtain⟨_,_,_,h3,h4⟩:=h2
  unfold dM at h3
  unfold jJ at h4
  omega
theorem MZ(F:Nat→Int)(hF:iH F)(id:Int):iI (fH l m F id)∧(∀ p,p<(fH l m F id).length→iy (aQ (fH l m F id) p).1):=by
 have hle:=xZ h F id
 refine⟨⟨?_, ?_,by omega⟩, ?_⟩
 ·intro x hx
  obtain⟨p,hp,rfl⟩:=List.getElem_of_mem hx
  rw[←jL hp]
  rw[oC]at hp
  rw[EO h _ _ hp]
  have:=ad9 h F hF id _ (List.getElem_mem hp)
  unfold kG
  simp only
  omega
 ·rw[List.pairwise_iff_getElem]
  intro i j hi hj hij
  rw[←jL hi, ←jL hj]
  rw[oC]at hi hj
  rw[EO h _ _ hi,EO h _ _ hj]
  simp only
  omega
 ·intro p hp
  have hp':=hp
  rw[oC]at hp'
  rw[EO h _ _ hp']
  unfold iy
  simp only
  omega
end
def tA(l:List aP)(a:Int):Nat:=Classical.choose (VR l a)
theorem Oe(l:List aP)(a:Int):jd l a (tA l a):=Classical.choose_spec (VR l a)
def fA(l m:List I4)(F:Nat→Int)(id a:Int)(p:Nat):Int:=fV (fH l m F id) a (tA (fH l m F id) a) p
def kK(A:List (Int×Unit))(ps:List Nat)(f:Nat→Int):Nat→List (Int×Unit)
 |0=>A
 |j+1=>(kK A ps f j).set (ps.getD j 0) (f j,())
theorem ou(A:List (Int×Unit))(ps:List Nat)(f:Nat→Int):∀ j,(kK A ps f j).length=A.length
 |0=>rfl
 |j+1=>by simp only[kK];rw[List.length_set,ou A ps f j]
theorem Nl(A:List (Int×Unit))(ps:List Nat)(f:Nat→Int)(hA:∀ q,0≤fI A q∧fI A q≤1125899906842624):∀ j,(∀ i,i<j→0≤f i∧f i≤1125899906842624)→∀ q,0≤fI (kK A ps f j) q∧fI (kK A ps f j) q≤1125899906842624
 |0,_,q=>hA q
 |j+1,hf,q=>by
  have ih:=Nl A ps f hA j (fun i hi=>hf i (by omega)) q
  simp only[kK]
  unfold fI at ih ⊢
  rw[List.getD_eq_getElem?_getD,List.getElem?_set]
  by_cases e:ps.getD j 0=q
  ·rw[if_pos e]
   split
   ·exact hf j (by omega)
   ·simp
  ·rw[if_neg e, ←List.getD_eq_getElem?_getD];exact ih
section
variable {c:Int} {l m:List I4} (h:kZ c l m)
abbrev gp(l:List I4)(id:Int):List Nat:=iK l id l.length
def pG(l m:List I4)(F:Nat→Int)(id a:Int)(G:List (Int×Unit)):List (Int×Unit):=kK G (gp l id) (fA l m F id a) (gp l id).length
def pM(l m:List I4)(F:Nat→Int)(id a:Int)(M:List (Int×Unit)):List (Int×Unit):=kK M (gp m id) (fun j=>fA l m F id a ((gp l id).length+j)) (gp m id).length
include h
theorem XG(F:Nat→Int)(hF:iH F)(id a:Int)(ha:0≤a∧a≤72057594037927936)(p:Nat)(hp:p<(fH l m F id).length):0≤fA l m F id a p∧fA l m F id a p≤1125899906842624:=by
 have hg:=(MZ h F hF id).1
 have:=aev hg (by have:=xZ h F id;omega) ha _ p (Oe _ a) hp
 have hw:=qO hg p hp
 unfold fA
 omega
theorem Xq(F:Nat→Int)(hF:iH F)(id a:Int)(ha:0≤a∧a≤72057594037927936):wS (a,fH l m F id,())=some (rg (fH l m F id).length (fA l m F id a),()):=by
 obtain⟨g1,g2⟩:=MZ h F hF id
 exact acG g1 g2 (by have:=xZ h F id;omega) ha _ (Oe _ a)
theorem aem(F:Nat→Int)(hF:iH F)(id a:Int)(ha:0≤a∧a≤72057594037927936):∃ y,zY (a,fH l m F id,())=some (rg (fH l m F id).length (fA l m F id a),y):=by
 obtain⟨g1,g2⟩:=MZ h F hF id
 exact⟨_,acV g1 (by have:=xZ h F id;omega) ha _ (Oe _ a)⟩
end
end Go.Rv
end
