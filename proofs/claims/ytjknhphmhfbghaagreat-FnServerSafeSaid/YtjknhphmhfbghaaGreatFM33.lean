/- Plain facts: srv3. -/
import Derived.Test.YtjknhphmhfbghaaGreatFM32
set_option linter.unusedVariables false
set_option linter.unusedSimpArgs false
set_option linter.unusedSectionVars false
namespace Go.Rv
theorem afz(l:List I4)(u:Int)(hl:l.length≤1048576):Cj (l,u,())=some (bb (∃ x∈l,x.2.1=u),()):=by
 have key:∀ (k0 k i:Nat),i≤l.length→l.length - i<k→(∀ j,j<i→(g4 l j).2.1≠u)→∃ z:Int,wE.G0 k0 (wE.A0 l u) (wE.A1 l u) k l (u,()) (l.length:Int) (i:Int)=some (z,())∧(0≤z↔∃ x∈l,x.2.1=u):=by
  intro k0 k
  induction k with
  |zero=>intro i _ h;omega
  |succ k ih=>
   intro i hi hk hb
   rw[wE.G0,wE.R0]
   by_cases h:i<l.length
   ·have hw:af ((i:Int)+1)=((i+1:Nat):Int):=aI _ (by omega)
    rw[hw,decide_eq_true (by omega),cond_true,if_pos (by omega)]
    simp only[Io,Ql.T,Option.bind_some,bZ]
    by_cases hu:(g4 l i).2.1=u
    ·rw[show((l.getD i (0,0,0,0,())).2.1==u)=true by simpa using hu,cond_true]
     refine⟨i,rfl,fun _=>⟨l[i],List.getElem_mem h, ?_⟩,fun _=>by omega⟩
     simpa [g4,List.getD_eq_getElem?_getD,h]using hu
    ·rw[show((l.getD i (0,0,0,0,())).2.1==u)=false by simpa using hu,cond_false]
     refine ih (i+1) (by omega) (by omega) fun j hj=> ?_
     by_cases hji:j=i
     ·subst hji;exact hu
     ·exact hb j (by omega)
   ·rw[decide_eq_false (by omega),cond_false]
    refine⟨-1,rfl,fun h=>by omega, ?_⟩
    rintro⟨x,hx,hu⟩
    obtain⟨j,hj,rfl⟩:=List.getElem_of_mem hx
    exact absurd (by simpa [g4,List.getD_eq_getElem?_getD,hj]using hu) (hb j (by omega))
 obtain⟨z,h1,h2⟩:=key (300+l.length) (300+l.length) 0 (by omega) (by omega) (by intro j hj;omega)
 have e:G9 (l,u,())=some (z,()):=h1
 simp only[Cj,P7.T,e,Option.bind_some]
 rw[←lQ h2,yA]
theorem afy(l:List I4)(u:Int)(hl:l.length≤1048576):Ci (l,u,())=some (bb (∃ x∈l,x.2.1=u),()):=by
 have key:∀ (k0 k i:Nat),i≤l.length→l.length - i<k→(∀ j,j<i→(g4 l j).2.1≠u)→∃ z:Int,wC.G0 k0 (wC.A0 l u) (wC.A1 l u) k l (u,()) (l.length:Int) (i:Int)=some (z,())∧(0≤z↔∃ x∈l,x.2.1=u):=by
  intro k0 k
  induction k with
  |zero=>intro i _ h;omega
  |succ k ih=>
   intro i hi hk hb
   rw[wC.G0,wC.R0]
   by_cases h:i<l.length
   ·have hw:af ((i:Int)+1)=((i+1:Nat):Int):=aI _ (by omega)
    rw[hw,decide_eq_true (by omega),cond_true,if_pos (by omega)]
    simp only[Il,Qk.T,Option.bind_some,bZ]
    by_cases hu:(g4 l i).2.1=u
    ·rw[show((l.getD i (0,0,0,0,())).2.1==u)=true by simpa using hu,cond_true]
     refine⟨i,rfl,fun _=>⟨l[i],List.getElem_mem h, ?_⟩,fun _=>by omega⟩
     simpa [g4,List.getD_eq_getElem?_getD,h]using hu
    ·rw[show((l.getD i (0,0,0,0,())).2.1==u)=false by simpa using hu,cond_false]
     refine ih (i+1) (by omega) (by omega) fun j hj=> ?_
     by_cases hji:j=i
     ·subst hji;exact hu
     ·exact hb j (by omega)
   ·rw[decide_eq_false (by omega),cond_false]
    refine⟨-1,rfl,fun h=>by omega, ?_⟩
    rintro⟨x,hx,hu⟩
    obtain⟨j,hj,rfl⟩:=List.getElem_of_mem hx
    exact absurd (by simpa [g4,List.getD_eq_getElem?_getD,hj]using hu) (hb j (by omega))
 obtain⟨z,h1,h2⟩:=key (300+l.length) (300+l.length) 0 (by omega) (by omega) (by intro j hj;omega)
 have e:G8 (l,u,())=some (z,()):=h1
 simp only[Ci,P6.T,e,Option.bind_some]
 rw[←lQ h2,yA]
theorem rC{l:List I4}{u:Int}:(∀ i,i<l.length→(g4 l i).2.1≠u)↔¬ ∃ x∈l,x.2.1=u:=by
 rw[BP (P:=fun x=>x.2.1≠u)]
 exact⟨fun h ⟨x,hx,hu⟩=>h x hx hu,fun h x hx hu=>h ⟨x,hx,hu⟩⟩
theorem acW{c:Int}{l m:List I4}(h:kN c l m)(id g a b:Int)(p:Nat)(hc:Cut k4 l id p):
  (¬ bU k4 l id→wV (c,l,m,7,id,g,a,b,())=some (0,[],[],0,4,()))∧
  (bU k4 l id→((∃ x∈l,x.2.1=id)∨∃ x∈m,x.2.1=id)→wV (c,l,m,7,id,g,a,b,())=some (0,[],[],0,9,()))∧
  (bU k4 l id→¬ (∃ x∈l,x.2.1=id)→¬ (∃ x∈m,x.2.1=id)→wV (c,l,m,7,id,g,a,b,())=some (c,l.take p++l.drop (p+1),m,0,0,())):=by
 have hl:=h.ll
 have hm:=h.lm
 obtain⟨e0,e1⟩:=xq c l m id (by omega) h.rl p hc
 have L1:=fun(hx0:Int→Int→List I4→List I4→Int→Int→Int→Int→Int→Int→Int→Int→List I4→List I4→Option (Int×List I4×List I4×Int×Int×Unit)) (hx1:Int→Int→List I4→List I4→Int→Int→Int→Int→Int→Int→Int→Int→Option (Int×List I4×List I4×Int×Int×Unit)) (k0:Nat)=>
  scan l.length (fun i=>(g4 l i).2.1≠id) (fun k i=>jd.G0 k0 hx0 hx1 k (p:Int) (i:Int) c l m 7 id g a b 0 0 0) (hx1 (p:Int) c l m 7 id g a b 0 0 0) (hx0 (p:Int) c l m 7 id g a b 0 0 9 [] []) (fun k i hi _=>by
   have hw:af ((i:Int)+1)=((i+1:Nat):Int):=aI _ (by omega)
   simp only[jd.G0,jd.R0,bZ,hw,sD,Option.bind_some]
   rw[decide_eq_true (by omega),cond_true,if_pos (by omega)]
   refine⟨fun hp=> ?_,fun hp=> ?_⟩
   ·rw[show((l.getD i (0,0,0,0,())).2.1==id)=false by simpa using hp,cond_false]
   ·rw[show((l.getD i (0,0,0,0,())).2.1==id)=true by simpa using hp,cond_true]) (fun _ k=>by
   simp only[jd.G0,jd.R0]
   rw[decide_eq_false (by omega),cond_false])
 have L2:=fun(hx2:Int→Int→List I4→List I4→Int→Int→Int→List I4→List I4→Option (Int×List I4×List I4×Int×Int×Unit)) (hx3:Int→Int→List I4→List I4→Int→Int→Int→Option (Int×List I4×List I4×Int×Int×Unit)) (k0:Nat)=>
  scan m.length (fun i=>(g4 m i).2.1≠id) (fun k i=>jd.G1 k0 hx2 hx3 k (p:Int) (i:Int) c l m 7 id g a b 0 0 0) (hx3 (p:Int) c l m 0 0 0) (hx2 (p:Int) c l m 0 0 9 [] []) (fun k i hi _=>by
   have hw:af ((i:Int)+1)=((i+1:Nat):Int):=aI _ (by omega)
   simp only[jd.G1,jd.R1,bZ,hw,sD,Option.bind_some]
   rw[decide_eq_true (by omega),cond_true,if_pos (by omega)]
   refine⟨fun hp=> ?_,fun hp=> ?_⟩
   ·rw[show((m.getD i (0,0,0,0,())).2.1==id)=false by simpa using hp,cond_false]
   ·rw[show((m.getD i (0,0,0,0,())).2.1==id)=true by simpa using hp,cond_true]) (fun _ k=>by
   simp only[jd.G1,jd.R1]
   rw[decide_eq_false (by omega),cond_false])
 refine⟨fun hi=> ?_,fun hi hu=> ?_,fun hi hu hv=> ?_⟩
 ·show jd.FF _ c l m 7 id g a b=_
  simp only[jd.FF,jd.T,e1 hi,Option.bind_some,sD]
  rw[decide_eq_true (by omega),cond_true]
 ·show jd.FF _ c l m 7 id g a b=_
  simp only[jd.FF,jd.T,e0 hi,Option.bind_some]
  rw[decide_eq_false (by omega),cond_false]
  obtain⟨a1,a2⟩:=L1 _ _ _ _ 0 (by omega) (show l.length - 0<300+l.length+m.length by omega) (by intro j hj;omega)
  by_cases hx:∃ x∈l,x.2.1=id
  ·exact(a2 (fun hh=>rC.1 hh hx)).trans rfl
  ·refine(a1 (rC.2 hx)).trans ?_
   obtain⟨b1,b2⟩:=L2 _ _ _ _ 0 (by omega) (show m.length - 0<300+l.length+m.length by omega) (by intro j hj;omega)
   exact(b2 (fun hh=>rC.1 hh (hu.resolve_left hx))).trans rfl
 ·show jd.FF _ c l m 7 id g a b=_
  simp only[jd.FF,jd.T,e0 hi,Option.bind_some]
  rw[decide_eq_false (by omega),cond_false]
  obtain⟨a1,a2⟩:=L1 _ _ _ _ 0 (by omega) (show l.length - 0<300+l.length+m.length by omega) (by intro j hj;omega)
  refine(a1 (rC.2 hu)).trans ?_
  obtain⟨b1,b2⟩:=L2 _ _ _ _ 0 (by omega) (show m.length - 0<300+l.length+m.length by omega) (by intro j hj;omega)
  refine(b1 (rC.2 hv)).trans ?_
  obtain⟨x,hx,_⟩:=(hc.has h.rl).1 hi
  have hp:=(List.getElem?_eq_some_iff.1 hx).1
  have hw:af ((p:Int)+1)=((p+1:Nat):Int):=aI _ (by omega)
  simp only[jd.A3,qY c l m (by omega) (by omega),Option.bind_some,hw,Int.toNat_natCast,List.length_nil,List.nil_append]
  rw[if_pos (by omega),if_pos (by rw[List.length_take];unfold maxRow;omega),if_pos (by omega),if_pos (by rw[List.length_take,List.length_drop];unfold maxRow;omega)]
theorem afP(l:List I4)(p:Nat)(hp:p<l.length):zu (l,(p:Int),((p+1:Nat):Int),())=some (l.take p++l.drop (p+1),()):=
 if_pos ⟨Int.natCast_nonneg p,by show(p:Int)<l.length;omega,by show((p+1:Nat):Int)=(p:Int)+1;omega⟩
theorem Wx{l:List I4}{p:Nat}{x:I4}(h:x∈l.take p++l.drop (p+1)):x∈l:=by
 rcases List.mem_append.1 h with h |h
 ·exact List.mem_of_mem_take h
 ·exact List.mem_of_mem_drop h
theorem afh{c:Int}{l m:List I4}(h:kN c l m)(id g a b:Int)(hop:(bW id&&(g==0)&&(a==0)&&(b==0))=true):wo c l m 7 id g a b:=by
 have hl:=h.ll
 have hm:=h.lm
 obtain⟨p,hc,hG⟩:=xu c l m id (by omega) h.rl
 obtain⟨pm,_,hM⟩:=Ah c l m id (by omega) h.rm
 obtain⟨g1,g2,g3⟩:=acW h id g a b p hc
 have er:jT (7,id,g,a,b,())=some (true,()):=by rw[XY,hop]
 have sE:kF (c,l,m,7,id,g,a,b,())=(wV (c,l,m,7,id,g,a,b,())).bind fun y=>some (y.1,y.2.1,y.2.2.1,y.2.2.2.1,y.2.2.2.2.1,()):=by
  simp only[kF,wZ.T,vg c l m (by omega) (by omega),er,qY c l m (by omega) (by omega),Option.bind_some,dD (vP.2 h)]
  rfl
 have hw:af ((p:Int)+1)=((p+1:Nat):Int):=aI _ (by have:=hc.le;omega)
 have iM:CV (c,l,m,id,())=some (bb (¬ (∃ x∈l,x.2.1=id)∧¬ ∃ x∈m,x.2.1=id),()):=by
  simp only[CV,QB.T,afz l id (by omega),afy m id (by omega),Option.bind_some]
  grind [=fG]
 have iE:ng (c,l,m,7,id,g,a,b,())=cond (!bb (bU k4 l id)) (some (4,c,l,m,())) (cond (!bb (¬ (∃ x∈l,x.2.1=id)∧¬ ∃ x∈m,x.2.1=id)) (some (9,c,l,m,())) ((zu (l,(p:Int),((p+1:Nat):Int),())).bind fun y6=>some (0,c,y6.1,m,()))):=by
  simp only[ng,Dy.T,hG,hM,Option.bind_some,iM,hw]
  rfl
 unfold wo
 rw[sE,iE]
 by_cases hi:bU k4 l id
 ·rw[dD hi]
  by_cases hu:¬ (∃ x∈l,x.2.1=id)∧¬ ∃ x∈m,x.2.1=id
  ·obtain⟨x,hx,hxu⟩:=(hc.has h.rl).1 hi
   have hp:=(List.getElem?_eq_some_iff.1 hx).1
   rw[dD hu,g3 hi hu.1 hu.2,afP l p hp]
   have hkeep:∀ u,u≠id→bU k4 l u→bU k4 (l.take p++l.drop (p+1)) u:=by
    rintro u hne ⟨y,hy,hyu⟩
    refine⟨y, ?_,hyu⟩
    rw[←List.take_append_drop p l]at hy
    rcases List.mem_append.1 hy with hy |hy
    ·exact List.mem_append.2 (Or.inl hy)
    ·rw[List.drop_eq_getElem_cons hp]at hy
     rcases List.mem_cons.1 hy with rfl |hy
     ·have e:l[p]=x:=by rw[List.getElem?_eq_getElem hp]at hx;exact Option.some.inj hx
      exact absurd (hyu.symm.trans (by rw[e];exact hxu)) hne
     ·exact List.mem_append.2 (Or.inr hy)
   refine⟨0,c,_,rfl,by omega,fun _=>⟨⟨h.cap,by rw[List.length_append,List.length_take,List.length_drop];omega,hm, ?_,h.rm,fun x hx=> ?_,fun x hx=> ?_⟩,rfl⟩,fun h=>absurd rfl h⟩
   ·exact List.Pairwise.sublist (List.Sublist.trans (List.Sublist.append (List.Sublist.refl _) (List.drop_sublist_drop_left l (Nat.le_succ p))) (by rw[List.take_append_drop];exact List.Sublist.refl _)) h.rl
   ·obtain⟨q1,q2,q3,q4⟩:=h.gl x (Wx hx)
    exact⟨q1,q2.imp (fun h=>h) (fun hh=>⟨hkeep _ (fun e=>hu.1 ⟨x,Wx hx,e⟩) hh.1,hh.2⟩),q3,q4⟩
   ·obtain⟨q1,q2,q3,q4⟩:=h.gm x hx
    exact⟨q1,q2.imp (fun h=>h) (fun hh=>hkeep _ (fun e=>hu.2 ⟨x,hx,e⟩) hh),q3,q4⟩
  ·rw[eU hu,g2 hi (by rcases Classical.em (∃ x∈l,x.2.1=id)with h |h;exact Or.inl h;exact Or.inr (Classical.byContradiction fun hh=>hu ⟨h,hh⟩))]
   exact⟨9,c,l,rfl,by omega,fun h=>by omega,fun _=>⟨rfl,rfl,rfl⟩⟩
 ·rw[eU hi,g1 hi]
  exact⟨4,c,l,rfl,by omega,fun h=>by omega,fun _=>⟨rfl,rfl,rfl⟩⟩
end Go.Rv
