/- Plain facts: shares. -/
import Derived.Test.YtmgahpicfjpjaaaGreatEM26
set_option linter.unusedVariables false
set_option linter.unusedSimpArgs false
set_option linter.unusedSectionVars false
noncomputable section
namespace Go.Rv
section
variable {l:List aT} {a:Int} (h:iw l) (hn:l.length≤100) (ha:0≤a∧a≤72057594037927936)
include h hn ha
theorem agZ(T p:Nat)(hT:iZ l a T)(hp:p<l.length):0≤fU l a T p∧fU l a T p≤(aU l p).2.1:=by
 have hw:=qX h p hp
 by_cases hr:aN l p<T
 ·unfold fU
  rw[if_neg (by omega:¬ (T≤aN l p∧0<fG l a T p))]
  unfold fC
  rw[if_pos hr]
  omega
 ·have hS:=sD h hn ha T p hT hp (by omega)
  have hlt:gB l a T p<(aU l p).2.1:=by
   have hrl:=nP hp
   have hTl:T<l.length:=by omega
   have hnf:¬ jh l a T:=by rcases hT.2.2 with h1 |h1;omega;exact h1
   obtain⟨b1,b2⟩:=lX h ha T hT.1 hT.2.1
   have hA:=qV h hn T hT.1
   have hA2:=EM h T p hp (by omega)
   have hwT:=oL h T hTl
   obtain⟨q,hq,hqr,hqe⟩:=FM h hTl
   have hcross:(oA l T).2.1*(aU l p).2.2.1≤(aU l p).2.1*(oA l T).2.2.1:=by
    rcases Nat.lt_or_eq_of_le (show T≤aN l p by omega)with hlt |heq
    ·have:=PL h hq hp (by omega)
     rw[show aU l q=oA l T from hqe,xX]at this
     omega
    ·have:=sF h hq hp (by omega)
     subst this
     rw[show aU l q=oA l T from hqe]
     exact Int.le_refl _
   unfold jh at hnf
   have h1:aV l a T*(oA l T).2.2.1<(oA l T).2.1*bK l T:=by omega
   have key:aV l a T*(aU l p).2.2.1<(aU l p).2.1*bK l T:=by
    have p1:aV l a T*(oA l T).2.2.1*(aU l p).2.2.1<(oA l T).2.1*bK l T*(aU l p).2.2.1:=Int.mul_lt_mul_of_pos_right h1 (by omega)
    have p2:(oA l T).2.1*(aU l p).2.2.1*bK l T≤(aU l p).2.1*(oA l T).2.2.1*bK l T:=Int.mul_le_mul_of_nonneg_right hcross hA.1
    refine Int.lt_of_mul_lt_mul_right (a:=(oA l T).2.2.1) ?_ (by omega)
    have e1:aV l a T*(oA l T).2.2.1*(aU l p).2.2.1=aV l a T*(aU l p).2.2.1*(oA l T).2.2.1:=Int.mul_right_comm _ _ _
    have e2:(oA l T).2.1*bK l T*(aU l p).2.2.1=(oA l T).2.1*(aU l p).2.2.1*bK l T:=Int.mul_right_comm _ _ _
    have e3:(aU l p).2.1*(oA l T).2.2.1*bK l T=(aU l p).2.1*bK l T*(oA l T).2.2.1:=Int.mul_right_comm _ _ _
    rw[e1,e2]at p1
    rw[e3]at p2
    exact Int.lt_of_lt_of_le p1 p2
   unfold gB
   exact Int.ediv_lt_of_lt_mul (by omega) key
  unfold fU fC
  rw[if_neg hr]
  split <;>omega
end
def iF(l:List I4)(id:Int)(k:Nat):List Nat:=(List.range k).filter fun i=>decide ((g4 l i).2.1=id)
theorem nI(l:List I4)(id:Int)(k:Nat):iF l id (k+1)=if(g4 l k).2.1=id then iF l id k++[k]else iF l id k:=by
 unfold iF
 rw[List.range_succ,List.filter_append]
 by_cases e:(g4 l k).2.1=id
 ·rw[if_pos e,List.filter_cons,if_pos (decide_eq_true e),List.filter_nil]
 ·rw[if_neg e,List.filter_cons,if_neg (by rw[decide_eq_true_iff];exact e),List.filter_nil,List.append_nil]
theorem pX(l:List I4)(id:Int)(k:Nat):(iF l id k).length≤k:=by
 have:=List.length_filter_le (fun i=>decide ((g4 l i).2.1=id)) (List.range k)
 rw[List.length_range]at this
 exact this
theorem PN{l:List I4}{id:Int}{k i:Nat}(h:i∈iF l id k):i<k:=by
 unfold iF at h
 exact List.mem_range.1 (List.mem_filter.1 h).1
theorem EX{l:List I4}{id:Int}{k j:Nat}(hj:j<(iF l id k).length):(iF l id k).getD j 0<k:=by
 rw[List.getD_eq_getElem?_getD,List.getElem?_eq_getElem hj]
 exact PN (List.getElem_mem hj)
def num(r:List (Int×Int)):List aT:=r.mapIdx fun j x=>((j:Int)+1,x.1,x.2,())
theorem Ew(r:List (Int×Int))(x:Int×Int):num (r++[x])=num r++[((r.length:Int)+1,x.1,x.2,())]:=by
 unfold num;rw[List.mapIdx_concat]
theorem oG(r:List (Int×Int)):(num r).length=r.length:=by simp[num]
def dQ(l:List I4)(F:Nat→Int)(id:Int)(k:Nat):List (Int×Int):=(iF l id k).map fun i=>(F i,(g4 l i).2.2.2.1)
def fQ(m:List I4)(id:Int)(k:Nat):List (Int×Int):=(iF m id k).map fun i=>((g4 m i).2.2.1,(g4 m i).2.2.2.1)
theorem rP(l:List I4)(F:Nat→Int)(id:Int)(k:Nat):(dQ l F id k).length=(iF l id k).length:=by simp[dQ]
theorem AB(m:List I4)(id:Int)(k:Nat):(fQ m id k).length=(iF m id k).length:=by simp[fQ]
abbrev gk(l:List I4)(id:Int)(k:Nat):List (Int×Int×Unit):=(iF l id k).map fun(i:Nat)=>((i:Int), -1,())
abbrev mk'(m:List I4)(id:Int)(k:Nat):List (Int×Int×Unit):=(iF m id k).map fun(i:Nat)=>(-1,(i:Int),())
abbrev ow(l:List I4)(id:Int)(k:Nat):List (Int×Unit):=(iF l id k).map fun(i:Nat)=>((i:Int),())
abbrev fF(l m:List I4)(F:Nat→Int)(id:Int):List aT:=num (dQ l F id l.length++fQ m id m.length)
section
variable {c:Int} {l m:List I4} (h:kQ c l m)
include h
theorem Wi(id:Int)(F:List (Int×Unit))(hF:Dw (c,l,m,())=some (F,()))(hFl:F.length=l.length):
  zZ (c,l,m,id,())=some (gk l id l.length++mk' m id m.length,fF l m (fI F) id,()):=by
 have hl:=h.2.1
 have hm:=h.2.2.1
 simp only[zZ,iU.FF,iU.T,hF,Option.bind_some]
 have s0:∀ (k0:Nat) (hx:Int→Int→List I4→List I4→List (Int×Int×Unit)→List aT→Option (List (Int×Int×Unit)×List aT×Unit)) (k:Nat),l.length<k→
   iU.G0 k0 hx k id 0 c l m F ([]:List (Int×Int×Unit)) ([]:List aT)=hx id c l m (gk l id l.length) (num (dQ l (fI F) id l.length)):=by
  intro k0 hx k hk
  refine run 0 l.length (fun k i=>iU.G0 k0 hx k id (i:Nat) c l m F (gk l id i) (num (dQ l (fI F) id i))) _ (fun k i _ hi=> ?_) (fun k=> ?_) k (by omega) (by omega)
  ·show iU.G0 k0 hx (k+1) id (i:Nat) c l m F (gk l id i) (num (dQ l (fI F) id i))=iU.G0 k0 hx k id ((i+1:Nat):Int) c l m F (gk l id (i+1)) (num (dQ l (fI F) id (i+1)))
   have hpl:=pX l id i
   simp only[iU.G0,iU.R0,bJ,Int.toNat_natCast]
   rw[decide_eq_true (by omega),cond_true,if_pos (by omega),aH ((i:Int)+1) (by omega)]
   by_cases e:(g4 l i).2.1=id
   ·rw[show((l.getD i (0,0,0,0,())).2.1==id)=true from beq_iff_eq.2 e,cond_true,if_pos (by simp only[List.length_map,List.length_cons,List.length_nil,maxRow];omega),if_pos (by omega),if_pos (by omega),if_pos (by rw[oG,rP];simp only[List.length_cons,List.length_nil,maxRow];omega)]
    have e1:gk l id (i+1)=gk l id i++[((i:Int), -1,())]:=by simp only[gk];rw[nI,if_pos e,List.map_append];rfl
    have e2:num (dQ l (fI F) id (i+1))=num (dQ l (fI F) id i)++[(((gk l id i++[((i:Int), -1,())]).length:Int),(F.getD i (0,())).1,(l.getD i (0,0,0,0,())).2.2.2.1,())]:=by
     unfold dQ
     rw[nI,if_pos e,List.map_append,List.map_cons,List.map_nil,Ew]
     simp only[List.length_append,List.length_map,List.length_cons,List.length_nil]
     rfl
    rw[e1,e2]
    rfl
   ·rw[show((l.getD i (0,0,0,0,())).2.1==id)=false from beq_eq_false_iff_ne.2 e,cond_false]
    simp only[gk,dQ]
    rw[nI,if_neg e]
    rfl
  ·simp only[iU.G0,iU.R0]
   rw[decide_eq_false (by omega),cond_false]
 have s1:∀ (k0:Nat) (hx:List (Int×Int×Unit)→List aT→Option (List (Int×Int×Unit)×List aT×Unit)) (k:Nat),m.length<k→
   iU.G1 k0 hx k id 0 c l m (gk l id l.length) (num (dQ l (fI F) id l.length))=hx (gk l id l.length++mk' m id m.length) (fF l m (fI F) id):=by
  intro k0 hx k hk
  suffices x:iU.G1 k0 hx k id ((0:Nat):Int) c l m (gk l id l.length++mk' m id 0) (num (dQ l (fI F) id l.length++fQ m id 0))=hx (gk l id l.length++mk' m id m.length) (fF l m (fI F) id) by
   simpa [mk',fQ,iF]using x
  refine run 0 m.length (fun k i=>iU.G1 k0 hx k id (i:Nat) c l m (gk l id l.length++mk' m id i) (num (dQ l (fI F) id l.length++fQ m id i))) _ (fun k i _ hi=> ?_) (fun k=> ?_) k (by omega) (by omega)
  ·show iU.G1 k0 hx (k+1) id (i:Nat) c l m (gk l id l.length++mk' m id i) (num (dQ l (fI F) id l.length++fQ m id i))=iU.G1 k0 hx k id ((i+1:Nat):Int) c l m (gk l id l.length++mk' m id (i+1)) (num (dQ l (fI F) id l.length++fQ m id (i+1)))
   have hpl:=pX m id i
   have hpg:=pX l id l.length
   simp only[iU.G1,iU.R1,bJ]
   rw[decide_eq_true (by omega),cond_true,if_pos (by omega),aH ((i:Int)+1) (by omega)]
   by_cases e:(g4 m i).2.1=id
   ·rw[show((m.getD i (0,0,0,0,())).2.1==id)=true from beq_iff_eq.2 e,cond_true,if_pos (by simp only[List.length_append,List.length_map,List.length_cons,List.length_nil,maxRow];omega),if_pos (by omega),if_pos (by omega),if_pos (by rw[oG,List.length_append,rP,AB];simp only[List.length_cons,List.length_nil,maxRow];omega)]
    have e1:mk' m id (i+1)=mk' m id i++[(-1,(i:Int),())]:=by simp only[mk'];rw[nI,if_pos e,List.map_append];rfl
    have e2:num (dQ l (fI F) id l.length++fQ m id (i+1))=num (dQ l (fI F) id l.length++fQ m id i)++[((((gk l id l.length++mk' m id i)++[(-1,(i:Int),())]).length:Int),(m.getD i (0,0,0,0,())).2.2.1,(m.getD i (0,0,0,0,())).2.2.2.1,())]:=by
     have e3:fQ m id (i+1)=fQ m id i++[((g4 m i).2.2.1,(g4 m i).2.2.2.1)]:=by unfold fQ;rw[nI,if_pos e,List.map_append];rfl
     rw[e3, ←List.append_assoc,Ew]
     simp only[List.length_append,List.length_map,List.length_cons,List.length_nil,rP,AB]
     rfl
    rw[e1,e2,List.append_assoc]
    rfl
   ·rw[show((m.getD i (0,0,0,0,())).2.1==id)=false from beq_eq_false_iff_ne.2 e,cond_false]
    simp only[mk',fQ]
    rw[nI,if_neg e]
    rfl
  ·simp only[iU.G1,iU.R1]
   rw[decide_eq_false (by omega),cond_false]
 rw[s0 _ _ _ (by omega)]
 simp only[iU.A0]
 rw[s1 _ _ _ (by omega)]
 rfl
theorem aff(id:Int)(F:Nat→Int)(hF:iq F)(hW:tJ l m F):
  Dt (c,l,m,id,())=some (fF l m F id,ow l id l.length,ow m id m.length,()):=by
 have hl:=h.2.1
 have hm:=h.2.2.1
 simp only[Dt,iP.FF,iP.T]
 have s0:∀ (k0:Nat) (hx:Int→Int→List I4→List I4→List aT→List (Int×Unit)→List (Int×Unit)→Option (List aT×List (Int×Unit)×List (Int×Unit)×Unit)) (k:Nat),l.length<k→
   iP.G0 k0 hx k id l (l.length:Int) 0 c l m ([]:List aT) ([]:List (Int×Unit)) ([]:List (Int×Unit))=hx id c l m (num (dQ l F id l.length)) (ow l id l.length) []:=by
  intro k0 hx k hk
  refine run 0 l.length (fun k i=>iP.G0 k0 hx k id l (l.length:Int) (i:Nat) c l m (num (dQ l F id i)) (ow l id i) []) _ (fun k i _ hi=> ?_) (fun k=> ?_) k (by omega) (by omega)
  ·show iP.G0 k0 hx (k+1) id l _ (i:Nat) c l m (num (dQ l F id i)) (ow l id i) []=iP.G0 k0 hx k id l _ ((i+1:Nat):Int) c l m (num (dQ l F id (i+1))) (ow l id (i+1)) []
   have hpl:=pX l id i
   simp only[iP.G0,iP.R0,bJ]
   rw[decide_eq_true (by omega),cond_true,if_pos (by omega),aH ((i:Int)+1) (by omega)]
   by_cases e:(g4 l i).2.1=id
   ·have hw:=ad2 h F hF hW i hi
    rw[show((l.getD i (0,0,0,0,())).2.1==id)=true from beq_iff_eq.2 e,cond_true,hw]
    simp only[Option.bind_some]
    rw[if_pos (by rw[oG,rP];simp only[List.length_cons,List.length_nil,maxRow];omega),if_pos (by simp only[List.length_map,List.length_cons,List.length_nil,maxRow];omega)]
    have e1:ow l id (i+1)=ow l id i++[((i:Int),())]:=by simp only[ow];rw[nI,if_pos e,List.map_append];rfl
    have e2:num (dQ l F id (i+1))=num (dQ l F id i)++[(af (((num (dQ l F id i)).length:Int)+1),F i,(l.getD i (0,0,0,0,())).2.2.2.1,())]:=by
     have e3:dQ l F id (i+1)=dQ l F id i++[(F i,(g4 l i).2.2.2.1)]:=by unfold dQ;rw[nI,if_pos e,List.map_append];rfl
     rw[e3,Ew,oG,rP,aH _ (by omega)]
    rw[e1,e2]
    rfl
   ·rw[show((l.getD i (0,0,0,0,())).2.1==id)=false from beq_eq_false_iff_ne.2 e,cond_false]
    simp only[ow,dQ]
    rw[nI,if_neg e]
    rfl
  ·simp only[iP.G0,iP.R0]
   rw[decide_eq_false (by omega),cond_false]
 have s1:∀ (k0:Nat) (hx:List aT→List (Int×Unit)→List (Int×Unit)→Option (List aT×List (Int×Unit)×List (Int×Unit)×Unit)) (k:Nat),m.length<k→
   iP.G1 k0 hx k id m (m.length:Int) 0 (num (dQ l F id l.length)) (ow l id l.length) []=hx (fF l m F id) (ow l id l.length) (ow m id m.length):=by
  intro k0 hx k hk
  suffices x:iP.G1 k0 hx k id m (m.length:Int) ((0:Nat):Int) (num (dQ l F id l.length++fQ m id 0)) (ow l id l.length) (ow m id 0)=hx (fF l m F id) (ow l id l.length) (ow m id m.length) by
   have z1:fQ m id 0=[]:=by simp[fQ,iF]
   have z2:ow m id 0=[]:=by simp[ow,iF]
   rw[z1,z2,List.append_nil]at x
   exact x
  refine run 0 m.length (fun k i=>iP.G1 k0 hx k id m (m.length:Int) (i:Nat) (num (dQ l F id l.length++fQ m id i)) (ow l id l.length) (ow m id i)) _ (fun k i _ hi=> ?_) (fun k=> ?_) k (by omega) (by omega)
  ·show iP.G1 k0 hx (k+1) id m _ (i:Nat) (num (dQ l F id l.length++fQ m id i)) (ow l id l.length) (ow m id i)=iP.G1 k0 hx k id m _ ((i+1:Nat):Int) (num (dQ l F id l.length++fQ m id (i+1))) (ow l id l.length) (ow m id (i+1))
   have hpl:=pX m id i
   have hpg:=pX l id l.length
   simp only[iP.G1,iP.R1,bJ]
   rw[decide_eq_true (by omega),cond_true,if_pos (by omega),aH ((i:Int)+1) (by omega)]
   by_cases e:(g4 m i).2.1=id
   ·rw[show((m.getD i (0,0,0,0,())).2.1==id)=true from beq_iff_eq.2 e,cond_true,if_pos (by rw[oG,List.length_append,rP,AB];simp only[List.length_cons,List.length_nil,maxRow];omega),if_pos (by simp only[List.length_map,List.length_cons,List.length_nil,maxRow];omega)]
    have e1:ow m id (i+1)=ow m id i++[((i:Int),())]:=by simp only[ow];rw[nI,if_pos e,List.map_append];rfl
    have e2:num (dQ l F id l.length++fQ m id (i+1))=num (dQ l F id l.length++fQ m id i)++[(af (((num (dQ l F id l.length++fQ m id i)).length:Int)+1),(m.getD i (0,0,0,0,())).2.2.1,(m.getD i (0,0,0,0,())).2.2.2.1,())]:=by
     have e3:fQ m id (i+1)=fQ m id i++[((g4 m i).2.2.1,(g4 m i).2.2.2.1)]:=by unfold fQ;rw[nI,if_pos e,List.map_append];rfl
     rw[e3, ←List.append_assoc,Ew,oG,List.length_append,rP,AB,aH _ (by omega)]
    rw[e1,e2]
    rfl
   ·rw[show((m.getD i (0,0,0,0,())).2.1==id)=false from beq_eq_false_iff_ne.2 e,cond_false]
    simp only[ow,fQ]
    rw[nI,if_neg e]
    rfl
  ·simp only[iP.G1,iP.R1]
   rw[decide_eq_false (by omega),cond_false]
 rw[s0 _ _ _ (by omega)]
 simp only[iP.A0]
 rw[s1 _ _ _ (by omega)]
 rfl
theorem A7(F:Nat→Int)(id:Int):(fF l m F id).length=(iF l id l.length).length+(iF m id m.length).length:=by
 rw[oG,List.length_append,rP,AB]
theorem yj(F:Nat→Int)(id:Int):(fF l m F id).length≤90:=by
 rw[A7 h]
 have:=pX l id l.length
 have:=pX m id m.length
 have hl:=h.2.1
 have hm:=h.2.2.1
 omega
theorem Fg(r:List (Int×Int))(p:Nat)(hp:p<r.length):aU (num r) p=((p:Int)+1,r[p].1,r[p].2,()):=by
 rw[jB (by rw[oG];exact hp)]
 simp[num]
theorem agC(F:Nat→Int)(hF:iq F)(id:Int)(x:Int×Int)(hx:x∈dQ l F id l.length++fQ m id m.length):0≤x.1∧x.1≤1125899906842624∧1≤x.2∧x.2≤1073741824:=by
 rcases List.mem_append.1 hx with hx |hx
 ·obtain⟨i,hi,rfl⟩:=List.mem_map.1 hx
  have:=hF i
  have h2:=(h.2.2.2.1 i (PN hi)).2.2.2.2
  unfold jy at h2
  omega
 ·obtain⟨i,hi,rfl⟩:=List.mem_map.1 hx
  have h2:=h.2.2.2.2 i (PN hi)
  obtain⟨_,_,_,h3,h4⟩:=h2
  unfold dN at h3
  unfold jy at h4
  omega
theorem OV(F:Nat→Int)(hF:iq F)(id:Int):iw (fF l m F id)∧(∀ p,p<(fF l m F id).length→gY (aU (fF l m F id) p).1):=by
 have hle:=yj h F id
 refine⟨⟨?_, ?_,by omega⟩, ?_⟩
 ·intro x hx
  obtain⟨p,hp,rfl⟩:=List.getElem_of_mem hx
  rw[←jB hp]
  rw[oG]at hp
  rw[Fg h _ _ hp]
  have:=agC h F hF id _ (List.getElem_mem hp)
  unfold jY
  simp only
  omega
 ·rw[List.pairwise_iff_getElem]
  intro i j hi hj hij
  rw[←jB hi, ←jB hj]
  rw[oG]at hi hj
  rw[Fg h _ _ hi,Fg h _ _ hj]
  simp only
  omega
 ·intro p hp
  have hp':=hp
  rw[oG]at hp'
  rw[Fg h _ _ hp']
  unfold gY
  simp only
  omega
end
def tA(l:List aT)(a:Int):Nat:=Classical.choose (Xl l a)
theorem P8(l:List aT)(a:Int):iZ l a (tA l a):=Classical.choose_spec (Xl l a)
def fA(l m:List I4)(F:Nat→Int)(id a:Int)(p:Nat):Int:=fU (fF l m F id) a (tA (fF l m F id) a) p
def ku(A:List (Int×Unit))(ps:List Nat)(f:Nat→Int):Nat→List (Int×Unit)
 |0=>A
 |j+1=>(ku A ps f j).set (ps.getD j 0) (f j,())
theorem oD(A:List (Int×Unit))(ps:List Nat)(f:Nat→Int):∀ j,(ku A ps f j).length=A.length
 |0=>rfl
 |j+1=>by simp only[ku];rw[List.length_set,oD A ps f j]
theorem O3(A:List (Int×Unit))(ps:List Nat)(f:Nat→Int)(hA:∀ q,0≤fI A q∧fI A q≤1125899906842624):∀ j,(∀ i,i<j→0≤f i∧f i≤1125899906842624)→∀ q,0≤fI (ku A ps f j) q∧fI (ku A ps f j) q≤1125899906842624
 |0,_,q=>hA q
 |j+1,hf,q=>by
  have ih:=O3 A ps f hA j (fun i hi=>hf i (by omega)) q
  simp only[ku]
  unfold fI at ih ⊢
  rw[List.getD_eq_getElem?_getD,List.getElem?_set]
  by_cases e:ps.getD j 0=q
  ·rw[if_pos e]
   split
   ·exact hf j (by omega)
   ·simp
  ·rw[if_neg e, ←List.getD_eq_getElem?_getD];exact ih
section
variable {c:Int} {l m:List I4} (h:kQ c l m)
abbrev gp(l:List I4)(id:Int):List Nat:=iF l id l.length
def pG(l m:List I4)(F:Nat→Int)(id a:Int)(G:List (Int×Unit)):List (Int×Unit):=ku G (gp l id) (fA l m F id a) (gp l id).length
def pM(l m:List I4)(F:Nat→Int)(id a:Int)(M:List (Int×Unit)):List (Int×Unit):=ku M (gp m id) (fun j=>fA l m F id a ((gp l id).length+j)) (gp m id).length
include h
theorem YK(F:Nat→Int)(hF:iq F)(id a:Int)(ha:0≤a∧a≤72057594037927936)(p:Nat)(hp:p<(fF l m F id).length):0≤fA l m F id a p∧fA l m F id a p≤1125899906842624:=by
 have hg:=(OV h F hF id).1
 have:=agZ hg (by have:=yj h F id;omega) ha _ p (P8 _ a) hp
 have hw:=qX hg p hp
 unfold fA
 omega
theorem Yv(F:Nat→Int)(hF:iq F)(id a:Int)(ha:0≤a∧a≤72057594037927936):wV (a,fF l m F id,())=some (rg (fF l m F id).length (fA l m F id a),()):=by
 obtain⟨g1,g2⟩:=OV h F hF id
 exact aeZ g1 g2 (by have:=yj h F id;omega) ha _ (P8 _ a)
theorem agS(F:Nat→Int)(hF:iq F)(id a:Int)(ha:0≤a∧a≤72057594037927936):∃ y,Ai (a,fF l m F id,())=some (rg (fF l m F id).length (fA l m F id a),y):=by
 obtain⟨g1,g2⟩:=OV h F hF id
 exact⟨_,afg g1 (by have:=yj h F id;omega) ha _ (P8 _ a)⟩
end
end Go.Rv
end
