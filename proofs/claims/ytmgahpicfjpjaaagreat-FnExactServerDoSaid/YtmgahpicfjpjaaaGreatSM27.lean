/- Plain facts: shares. -/
import Derived.Test.YtmgahpicfjpjaaaGreatSM26
set_option linter.unusedVariables false
set_option linter.unusedSimpArgs false
set_option linter.unusedSectionVars false
noncomputable section
namespace Go.Rv
section
variable {l:List aP} {a:Int} (h:gZ l) (hn:l.length≤100) (ha:0≤a∧a≤72057594037927936)
include h hn ha
theorem af6(T p:Nat)(hT:iV l a T)(hp:p<l.length):0≤fO l a T p∧fO l a T p≤(aQ l p).2.1:=by
 have hw:=qK h p hp
 by_cases hr:aK l p<T
 ·unfold fO
  rw[if_neg (by omega:¬ (T≤aK l p∧0<fE l a T p))]
  unfold fB
  rw[if_pos hr]
  omega
 ·have hS:=rM h hn ha T p hT hp (by omega)
  have hlt:fZ l a T p<(aQ l p).2.1:=by
   have hrl:=nJ hp
   have hTl:T<l.length:=by omega
   have hnf:¬ je l a T:=by rcases hT.2.2 with h1 |h1;omega;exact h1
   obtain⟨b1,b2⟩:=lU h ha T hT.1 hT.2.1
   have hA:=qJ h hn T hT.1
   have hA2:=Ey h T p hp (by omega)
   have hwT:=oC h T hTl
   obtain⟨q,hq,hqr,hqe⟩:=Fh h hTl
   have hcross:(oA l T).2.1*(aQ l p).2.2.1≤(aQ l p).2.1*(oA l T).2.2.1:=by
    rcases Nat.lt_or_eq_of_le (show T≤aK l p by omega)with hlt |heq
    ·have:=OM h hq hp (by omega)
     rw[show aQ l q=oA l T from hqe,xI]at this
     omega
    ·have:=rO h hq hp (by omega)
     subst this
     rw[show aQ l q=oA l T from hqe]
     exact Int.le_refl _
   unfold je at hnf
   have h1:aV l a T*(oA l T).2.2.1<(oA l T).2.1*bJ l T:=by omega
   have key:aV l a T*(aQ l p).2.2.1<(aQ l p).2.1*bJ l T:=by
    have p1:aV l a T*(oA l T).2.2.1*(aQ l p).2.2.1<(oA l T).2.1*bJ l T*(aQ l p).2.2.1:=Int.mul_lt_mul_of_pos_right h1 (by omega)
    have p2:(oA l T).2.1*(aQ l p).2.2.1*bJ l T≤(aQ l p).2.1*(oA l T).2.2.1*bJ l T:=Int.mul_le_mul_of_nonneg_right hcross hA.1
    refine Int.lt_of_mul_lt_mul_right (a:=(oA l T).2.2.1) ?_ (by omega)
    have e1:aV l a T*(oA l T).2.2.1*(aQ l p).2.2.1=aV l a T*(aQ l p).2.2.1*(oA l T).2.2.1:=Int.mul_right_comm _ _ _
    have e2:(oA l T).2.1*bJ l T*(aQ l p).2.2.1=(oA l T).2.1*(aQ l p).2.2.1*bJ l T:=Int.mul_right_comm _ _ _
    have e3:(aQ l p).2.1*(oA l T).2.2.1*bJ l T=(aQ l p).2.1*bJ l T*(oA l T).2.2.1:=Int.mul_right_comm _ _ _
    rw[e1,e2]at p1
    rw[e3]at p2
    exact Int.lt_of_lt_of_le p1 p2
   unfold fZ
   exact Int.ediv_lt_of_lt_mul (by omega) key
  unfold fO fB
  rw[if_neg hr]
  split <;>omega
end
def iq(l:List I4)(id:Int)(k:Nat):List Nat:=(List.range k).filter fun i=>decide ((g4 l i).2.1=id)
theorem ny(l:List I4)(id:Int)(k:Nat):iq l id (k+1)=if(g4 l k).2.1=id then iq l id k++[k]else iq l id k:=by
 unfold iq
 rw[List.range_succ,List.filter_append]
 by_cases e:(g4 l k).2.1=id
 ·rw[if_pos e,List.filter_cons,if_pos (decide_eq_true e),List.filter_nil]
 ·rw[if_neg e,List.filter_cons,if_neg (by rw[decide_eq_true_iff];exact e),List.filter_nil,List.append_nil]
theorem pF(l:List I4)(id:Int)(k:Nat):(iq l id k).length≤k:=by
 have:=List.length_filter_le (fun i=>decide ((g4 l i).2.1=id)) (List.range k)
 rw[List.length_range]at this
 exact this
theorem OO{l:List I4}{id:Int}{k i:Nat}(h:i∈iq l id k):i<k:=by
 unfold iq at h
 exact List.mem_range.1 (List.mem_filter.1 h).1
theorem EL{l:List I4}{id:Int}{k j:Nat}(hj:j<(iq l id k).length):(iq l id k).getD j 0<k:=by
 rw[List.getD_eq_getElem?_getD,List.getElem?_eq_getElem hj]
 exact OO (List.getElem_mem hj)
def num(r:List (Int×Int)):List aP:=r.mapIdx fun j x=>((j:Int)+1,x.1,x.2,())
theorem Eh(r:List (Int×Int))(x:Int×Int):num (r++[x])=num r++[((r.length:Int)+1,x.1,x.2,())]:=by
 unfold num;rw[List.mapIdx_concat]
theorem nZ(r:List (Int×Int)):(num r).length=r.length:=by simp[num]
def dO(l:List I4)(F:Nat→Int)(id:Int)(k:Nat):List (Int×Int):=(iq l id k).map fun i=>(F i,(g4 l i).2.2.2.1)
def fM(m:List I4)(id:Int)(k:Nat):List (Int×Int):=(iq m id k).map fun i=>((g4 m i).2.2.1,(g4 m i).2.2.2.1)
theorem rq(l:List I4)(F:Nat→Int)(id:Int)(k:Nat):(dO l F id k).length=(iq l id k).length:=by simp[dO]
theorem Ap(m:List I4)(id:Int)(k:Nat):(fM m id k).length=(iq m id k).length:=by simp[fM]
abbrev gk(l:List I4)(id:Int)(k:Nat):List (Int×Int×Unit):=(iq l id k).map fun(i:Nat)=>((i:Int), -1,())
abbrev mk'(m:List I4)(id:Int)(k:Nat):List (Int×Int×Unit):=(iq m id k).map fun(i:Nat)=>(-1,(i:Int),())
abbrev ow(l:List I4)(id:Int)(k:Nat):List (Int×Unit):=(iq l id k).map fun(i:Nat)=>((i:Int),())
abbrev fD(l m:List I4)(F:Nat→Int)(id:Int):List aP:=num (dO l F id l.length++fM m id m.length)
section
variable {c:Int} {l m:List I4} (h:kP c l m)
include h
theorem Vm(id:Int)(F:List (Int×Unit))(hF:Dl (c,l,m,())=some (F,()))(hFl:F.length=l.length):
  zQ (c,l,m,id,())=some (gk l id l.length++mk' m id m.length,fD l m (fI F) id,()):=by
 have hl:=h.2.1
 have hm:=h.2.2.1
 simp only[zQ,iQ.FF,iQ.T,hF,Option.bind_some]
 have s0:∀ (k0:Nat) (hx:Int→Int→List I4→List I4→List (Int×Int×Unit)→List aP→Option (List (Int×Int×Unit)×List aP×Unit)) (k:Nat),l.length<k→
   iQ.G0 k0 hx k id 0 c l m F ([]:List (Int×Int×Unit)) ([]:List aP)=hx id c l m (gk l id l.length) (num (dO l (fI F) id l.length)):=by
  intro k0 hx k hk
  refine run 0 l.length (fun k i=>iQ.G0 k0 hx k id (i:Nat) c l m F (gk l id i) (num (dO l (fI F) id i))) _ (fun k i _ hi=> ?_) (fun k=> ?_) k (by omega) (by omega)
  ·show iQ.G0 k0 hx (k+1) id (i:Nat) c l m F (gk l id i) (num (dO l (fI F) id i))=iQ.G0 k0 hx k id ((i+1:Nat):Int) c l m F (gk l id (i+1)) (num (dO l (fI F) id (i+1)))
   have hpl:=pF l id i
   simp only[iQ.G0,iQ.R0,bP,Int.toNat_natCast]
   rw[decide_eq_true (by omega),cond_true,if_pos (by omega),aH ((i:Int)+1) (by omega)]
   by_cases e:(g4 l i).2.1=id
   ·rw[show((l.getD i (0,0,0,0,())).2.1==id)=true from beq_iff_eq.2 e,cond_true,if_pos (by simp only[List.length_map,List.length_cons,List.length_nil,maxRow];omega),if_pos (by omega),if_pos (by omega),if_pos (by rw[nZ,rq];simp only[List.length_cons,List.length_nil,maxRow];omega)]
    have e1:gk l id (i+1)=gk l id i++[((i:Int), -1,())]:=by simp only[gk];rw[ny,if_pos e,List.map_append];rfl
    have e2:num (dO l (fI F) id (i+1))=num (dO l (fI F) id i)++[(((gk l id i++[((i:Int), -1,())]).length:Int),(F.getD i (0,())).1,(l.getD i (0,0,0,0,())).2.2.2.1,())]:=by
     unfold dO
     rw[ny,if_pos e,List.map_append,List.map_cons,List.map_nil,Eh]
     simp only[List.length_append,List.length_map,List.length_cons,List.length_nil]
     rfl
    rw[e1,e2]
    rfl
   ·rw[show((l.getD i (0,0,0,0,())).2.1==id)=false from beq_eq_false_iff_ne.2 e,cond_false]
    simp only[gk,dO]
    rw[ny,if_neg e]
    rfl
  ·simp only[iQ.G0,iQ.R0]
   rw[decide_eq_false (by omega),cond_false]
 have s1:∀ (k0:Nat) (hx:List (Int×Int×Unit)→List aP→Option (List (Int×Int×Unit)×List aP×Unit)) (k:Nat),m.length<k→
   iQ.G1 k0 hx k id 0 c l m (gk l id l.length) (num (dO l (fI F) id l.length))=hx (gk l id l.length++mk' m id m.length) (fD l m (fI F) id):=by
  intro k0 hx k hk
  suffices x:iQ.G1 k0 hx k id ((0:Nat):Int) c l m (gk l id l.length++mk' m id 0) (num (dO l (fI F) id l.length++fM m id 0))=hx (gk l id l.length++mk' m id m.length) (fD l m (fI F) id) by
   simpa [mk',fM,iq]using x
  refine run 0 m.length (fun k i=>iQ.G1 k0 hx k id (i:Nat) c l m (gk l id l.length++mk' m id i) (num (dO l (fI F) id l.length++fM m id i))) _ (fun k i _ hi=> ?_) (fun k=> ?_) k (by omega) (by omega)
  ·show iQ.G1 k0 hx (k+1) id (i:Nat) c l m (gk l id l.length++mk' m id i) (num (dO l (fI F) id l.length++fM m id i))=iQ.G1 k0 hx k id ((i+1:Nat):Int) c l m (gk l id l.length++mk' m id (i+1)) (num (dO l (fI F) id l.length++fM m id (i+1)))
   have hpl:=pF m id i
   have hpg:=pF l id l.length
   simp only[iQ.G1,iQ.R1,bP]
   rw[decide_eq_true (by omega),cond_true,if_pos (by omega),aH ((i:Int)+1) (by omega)]
   by_cases e:(g4 m i).2.1=id
   ·rw[show((m.getD i (0,0,0,0,())).2.1==id)=true from beq_iff_eq.2 e,cond_true,if_pos (by simp only[List.length_append,List.length_map,List.length_cons,List.length_nil,maxRow];omega),if_pos (by omega),if_pos (by omega),if_pos (by rw[nZ,List.length_append,rq,Ap];simp only[List.length_cons,List.length_nil,maxRow];omega)]
    have e1:mk' m id (i+1)=mk' m id i++[(-1,(i:Int),())]:=by simp only[mk'];rw[ny,if_pos e,List.map_append];rfl
    have e2:num (dO l (fI F) id l.length++fM m id (i+1))=num (dO l (fI F) id l.length++fM m id i)++[((((gk l id l.length++mk' m id i)++[(-1,(i:Int),())]).length:Int),(m.getD i (0,0,0,0,())).2.2.1,(m.getD i (0,0,0,0,())).2.2.2.1,())]:=by
     have e3:fM m id (i+1)=fM m id i++[((g4 m i).2.2.1,(g4 m i).2.2.2.1)]:=by unfold fM;rw[ny,if_pos e,List.map_append];rfl
     rw[e3, ←List.append_assoc,Eh]
     simp only[List.length_append,List.length_map,List.length_cons,List.length_nil,rq,Ap]
     rfl
    rw[e1,e2,List.append_assoc]
    rfl
   ·rw[show((m.getD i (0,0,0,0,())).2.1==id)=false from beq_eq_false_iff_ne.2 e,cond_false]
    simp only[mk',fM]
    rw[ny,if_neg e]
    rfl
  ·simp only[iQ.G1,iQ.R1]
   rw[decide_eq_false (by omega),cond_false]
 rw[s0 _ _ _ (by omega)]
 simp only[iQ.A0]
 rw[s1 _ _ _ (by omega)]
 rfl
theorem aep(id:Int)(F:Nat→Int)(hF:gY F)(hW:sK l m F):
  Di (c,l,m,id,())=some (fD l m F id,ow l id l.length,ow m id m.length,()):=by
 have hl:=h.2.1
 have hm:=h.2.2.1
 simp only[Di,iL.FF,iL.T]
 have s0:∀ (k0:Nat) (hx:Int→Int→List I4→List I4→List aP→List (Int×Unit)→List (Int×Unit)→Option (List aP×List (Int×Unit)×List (Int×Unit)×Unit)) (k:Nat),l.length<k→
   iL.G0 k0 hx k id l (l.length:Int) 0 c l m ([]:List aP) ([]:List (Int×Unit)) ([]:List (Int×Unit))=hx id c l m (num (dO l F id l.length)) (ow l id l.length) []:=by
  intro k0 hx k hk
  refine run 0 l.length (fun k i=>iL.G0 k0 hx k id l (l.length:Int) (i:Nat) c l m (num (dO l F id i)) (ow l id i) []) _ (fun k i _ hi=> ?_) (fun k=> ?_) k (by omega) (by omega)
  ·show iL.G0 k0 hx (k+1) id l _ (i:Nat) c l m (num (dO l F id i)) (ow l id i) []=iL.G0 k0 hx k id l _ ((i+1:Nat):Int) c l m (num (dO l F id (i+1))) (ow l id (i+1)) []
   have hpl:=pF l id i
   simp only[iL.G0,iL.R0,bP]
   rw[decide_eq_true (by omega),cond_true,if_pos (by omega),aH ((i:Int)+1) (by omega)]
   by_cases e:(g4 l i).2.1=id
   ·have hw:=adb h F hF hW i hi
    rw[show((l.getD i (0,0,0,0,())).2.1==id)=true from beq_iff_eq.2 e,cond_true,hw]
    simp only[Option.bind_some]
    rw[if_pos (by rw[nZ,rq];simp only[List.length_cons,List.length_nil,maxRow];omega),if_pos (by simp only[List.length_map,List.length_cons,List.length_nil,maxRow];omega)]
    have e1:ow l id (i+1)=ow l id i++[((i:Int),())]:=by simp only[ow];rw[ny,if_pos e,List.map_append];rfl
    have e2:num (dO l F id (i+1))=num (dO l F id i)++[(af (((num (dO l F id i)).length:Int)+1),F i,(l.getD i (0,0,0,0,())).2.2.2.1,())]:=by
     have e3:dO l F id (i+1)=dO l F id i++[(F i,(g4 l i).2.2.2.1)]:=by unfold dO;rw[ny,if_pos e,List.map_append];rfl
     rw[e3,Eh,nZ,rq,aH _ (by omega)]
    rw[e1,e2]
    rfl
   ·rw[show((l.getD i (0,0,0,0,())).2.1==id)=false from beq_eq_false_iff_ne.2 e,cond_false]
    simp only[ow,dO]
    rw[ny,if_neg e]
    rfl
  ·simp only[iL.G0,iL.R0]
   rw[decide_eq_false (by omega),cond_false]
 have s1:∀ (k0:Nat) (hx:List aP→List (Int×Unit)→List (Int×Unit)→Option (List aP×List (Int×Unit)×List (Int×Unit)×Unit)) (k:Nat),m.length<k→
   iL.G1 k0 hx k id m (m.length:Int) 0 (num (dO l F id l.length)) (ow l id l.length) []=hx (fD l m F id) (ow l id l.length) (ow m id m.length):=by
  intro k0 hx k hk
  suffices x:iL.G1 k0 hx k id m (m.length:Int) ((0:Nat):Int) (num (dO l F id l.length++fM m id 0)) (ow l id l.length) (ow m id 0)=hx (fD l m F id) (ow l id l.length) (ow m id m.length) by
   have z1:fM m id 0=[]:=by simp[fM,iq]
   have z2:ow m id 0=[]:=by simp[ow,iq]
   rw[z1,z2,List.append_nil]at x
   exact x
  refine run 0 m.length (fun k i=>iL.G1 k0 hx k id m (m.length:Int) (i:Nat) (num (dO l F id l.length++fM m id i)) (ow l id l.length) (ow m id i)) _ (fun k i _ hi=> ?_) (fun k=> ?_) k (by omega) (by omega)
  ·show iL.G1 k0 hx (k+1) id m _ (i:Nat) (num (dO l F id l.length++fM m id i)) (ow l id l.length) (ow m id i)=iL.G1 k0 hx k id m _ ((i+1:Nat):Int) (num (dO l F id l.length++fM m id (i+1))) (ow l id l.length) (ow m id (i+1))
   have hpl:=pF m id i
   have hpg:=pF l id l.length
   simp only[iL.G1,iL.R1,bP]
   rw[decide_eq_true (by omega),cond_true,if_pos (by omega),aH ((i:Int)+1) (by omega)]
   by_cases e:(g4 m i).2.1=id
   ·rw[show((m.getD i (0,0,0,0,())).2.1==id)=true from beq_iff_eq.2 e,cond_true,if_pos (by rw[nZ,List.length_append,rq,Ap];simp only[List.length_cons,List.length_nil,maxRow];omega),if_pos (by simp only[List.length_map,List.length_cons,List.length_nil,maxRow];omega)]
    have e1:ow m id (i+1)=ow m id i++[((i:Int),())]:=by simp only[ow];rw[ny,if_pos e,List.map_append];rfl
    have e2:num (dO l F id l.length++fM m id (i+1))=num (dO l F id l.length++fM m id i)++[(af (((num (dO l F id l.length++fM m id i)).length:Int)+1),(m.getD i (0,0,0,0,())).2.2.1,(m.getD i (0,0,0,0,())).2.2.2.1,())]:=by
     have e3:fM m id (i+1)=fM m id i++[((g4 m i).2.2.1,(g4 m i).2.2.2.1)]:=by unfold fM;rw[ny,if_pos e,List.map_append];rfl
     rw[e3, ←List.append_assoc,Eh,nZ,List.length_append,rq,Ap,aH _ (by omega)]
    rw[e1,e2]
    rfl
   ·rw[show((m.getD i (0,0,0,0,())).2.1==id)=false from beq_eq_false_iff_ne.2 e,cond_false]
    simp only[ow,fM]
    rw[ny,if_neg e]
    rfl
  ·simp only[iL.G1,iL.R1]
   rw[decide_eq_false (by omega),cond_false]
 rw[s0 _ _ _ (by omega)]
 simp only[iL.A0]
 rw[s1 _ _ _ (by omega)]
 rfl
theorem AP(F:Nat→Int)(id:Int):(fD l m F id).length=(iq l id l.length).length+(iq m id m.length).length:=by
 rw[nZ,List.length_append,rq,Ap]
theorem xQ(F:Nat→Int)(id:Int):(fD l m F id).length≤90:=by
 rw[AP h]
 have:=pF l id l.length
 have:=pF m id m.length
 have hl:=h.2.1
 have hm:=h.2.2.1
 omega
theorem EU(r:List (Int×Int))(p:Nat)(hp:p<r.length):aQ (num r) p=((p:Int)+1,r[p].1,r[p].2,()):=by
 rw[jA (by rw[nZ];exact hp)]
 simp[num]
theorem afI(F:Nat→Int)(hF:gY F)(id:Int)(x:Int×Int)(hx:x∈dO l F id l.length++fM m id m.length):0≤x.1∧x.1≤1125899906842624∧1≤x.2∧x.2≤1073741824:=by
 rcases List.mem_append.1 hx with hx |hx
 ·obtain⟨i,hi,rfl⟩:=List.mem_map.1 hx
  have:=hF i
  have h2:=(h.2.2.2.1 i (OO hi)).2.2.2.2
  unfold jw at h2
  omega
 ·obtain⟨i,hi,rfl⟩:=List.mem_map.1 hx
  have h2:=h.2.2.2.2 i (OO hi)
  obtain⟨_,_,_,h3,h4⟩:=h2
  unfold dL at h3
  unfold jw at h4
  omega
theorem NZ(F:Nat→Int)(hF:gY F)(id:Int):gZ (fD l m F id)∧(∀ p,p<(fD l m F id).length→gU (aQ (fD l m F id) p).1):=by
 have hle:=xQ h F id
 refine⟨⟨?_, ?_,by omega⟩, ?_⟩
 ·intro x hx
  obtain⟨p,hp,rfl⟩:=List.getElem_of_mem hx
  rw[←jA hp]
  rw[nZ]at hp
  rw[EU h _ _ hp]
  have:=afI h F hF id _ (List.getElem_mem hp)
  unfold jX
  simp only
  omega
 ·rw[List.pairwise_iff_getElem]
  intro i j hi hj hij
  rw[←jA hi, ←jA hj]
  rw[nZ]at hi hj
  rw[EU h _ _ hi,EU h _ _ hj]
  simp only
  omega
 ·intro p hp
  have hp':=hp
  rw[nZ]at hp'
  rw[EU h _ _ hp']
  unfold gU
  simp only
  omega
end
def tA(l:List aP)(a:Int):Nat:=Classical.choose (Wi l a)
theorem O3(l:List aP)(a:Int):iV l a (tA l a):=Classical.choose_spec (Wi l a)
def fA(l m:List I4)(F:Nat→Int)(id a:Int)(p:Nat):Int:=fO (fD l m F id) a (tA (fD l m F id) a) p
def jZ(A:List (Int×Unit))(ps:List Nat)(f:Nat→Int):Nat→List (Int×Unit)
 |0=>A
 |j+1=>(jZ A ps f j).set (ps.getD j 0) (f j,())
theorem nY(A:List (Int×Unit))(ps:List Nat)(f:Nat→Int):∀ j,(jZ A ps f j).length=A.length
 |0=>rfl
 |j+1=>by simp only[jZ];rw[List.length_set,nY A ps f j]
theorem Og(A:List (Int×Unit))(ps:List Nat)(f:Nat→Int)(hA:∀ q,0≤fI A q∧fI A q≤1125899906842624):∀ j,(∀ i,i<j→0≤f i∧f i≤1125899906842624)→∀ q,0≤fI (jZ A ps f j) q∧fI (jZ A ps f j) q≤1125899906842624
 |0,_,q=>hA q
 |j+1,hf,q=>by
  have ih:=Og A ps f hA j (fun i hi=>hf i (by omega)) q
  simp only[jZ]
  unfold fI at ih ⊢
  rw[List.getD_eq_getElem?_getD,List.getElem?_set]
  by_cases e:ps.getD j 0=q
  ·rw[if_pos e]
   split
   ·exact hf j (by omega)
   ·simp
  ·rw[if_neg e, ←List.getD_eq_getElem?_getD];exact ih
section
variable {c:Int} {l m:List I4} (h:kP c l m)
abbrev gp(l:List I4)(id:Int):List Nat:=iq l id l.length
def pG(l m:List I4)(F:Nat→Int)(id a:Int)(G:List (Int×Unit)):List (Int×Unit):=jZ G (gp l id) (fA l m F id a) (gp l id).length
def pM(l m:List I4)(F:Nat→Int)(id a:Int)(M:List (Int×Unit)):List (Int×Unit):=jZ M (gp m id) (fun j=>fA l m F id a ((gp l id).length+j)) (gp m id).length
include h
theorem XZ(F:Nat→Int)(hF:gY F)(id a:Int)(ha:0≤a∧a≤72057594037927936)(p:Nat)(hp:p<(fD l m F id).length):0≤fA l m F id a p∧fA l m F id a p≤1125899906842624:=by
 have hg:=(NZ h F hF id).1
 have:=af6 hg (by have:=xQ h F id;omega) ha _ p (O3 _ a) hp
 have hw:=qK hg p hp
 unfold fA
 omega
theorem XI(F:Nat→Int)(hF:gY F)(id a:Int)(ha:0≤a∧a≤72057594037927936):wJ (a,fD l m F id,())=some (rg (fD l m F id).length (fA l m F id a),()):=by
 obtain⟨g1,g2⟩:=NZ h F hF id
 exact ad9 g1 g2 (by have:=xQ h F id;omega) ha _ (O3 _ a)
theorem afX(F:Nat→Int)(hF:gY F)(id a:Int)(ha:0≤a∧a≤72057594037927936):∃ y,Aa (a,fD l m F id,())=some (rg (fD l m F id).length (fA l m F id a),y):=by
 obtain⟨g1,g2⟩:=NZ h F hF id
 exact⟨_,aer g1 (by have:=xQ h F id;omega) ha _ (O3 _ a)⟩
end
end Go.Rv
end
