/- Plain facts: learn-learn. -/
import Derived.Test.YtjknhphmhfbghaaGreatGM38
set_option linter.unusedVariables false
set_option linter.unusedSimpArgs false
set_option linter.unusedSectionVars false
namespace Go.Rv
theorem doX{s0 s1 s2 s3:Int}{l m:List I4}{n:List I3}(h:iw s0 s1 s2 s3 l m n)(k id g a b:Int)(hop:oN k id g a b=true):
  ∃ (am un c t1 t2 t3:Int) (l' m':List I4) (n':List I3),Om s0 s1 s2 s3 l n k id g a b am un c t1 t2 t3 l' m' n'∧
   ((c=0∧iw s0 t1 t2 t3 l' m' n'∧jF (s0,s1,s2,s3,l,m,n,k,id,g,a,b,())=some (s0,t1,t2,t3,l',m',n',am,un,0,())∧uz (s0,s1,s2,s3,l,m,n,k,id,g,a,b,())=some (s0,t1,t2,t3,l',m',n',am,un,0,()))∨
    (c≠0∧jF (s0,s1,s2,s3,l,m,n,k,id,g,a,b,())=some (0,0,0,0,[],[],[],0,0,c,())∧uz (s0,s1,s2,s3,l,m,n,k,id,g,a,b,())=some (0,0,0,0,[],[],[],0,0,c,()))):=by
 have hI:uz (s0,s1,s2,s3,l,m,n,k,id,g,a,b,())=uI.T s0 s1 s2 s3 l m n k id g a b:=rfl
 obtain⟨b1,b2,b3⟩:=h.small
 obtain⟨am,un,c,t1,t2,t3,l',m',n',e1,e2,e3,e4,ex⟩:=Og h k id g a b hop
 refine⟨am,un,c,t1,t2,t3,l',m',n',ex, ?_⟩
 rw[hI,uI.T,Ac s0 s1 s2 s3 l m n (by omega) (by omega) (by omega),NY,dA (sK.2 h),hop,XH s0 s1 s2 s3 l m n (by omega) (by omega) (by omega)]
 simp only[Option.bind_some,Bool.not_true,cond_false,e1]
 by_cases hc:c=0
 ·subst hc
  obtain⟨r1,r2⟩:=e3 rfl
  exact Or.inl ⟨rfl,r1,r2,rfl⟩
 ·obtain⟨-, -, -, -, -, -, -, -, r⟩:=e4 hc
  exact Or.inr ⟨hc,r,by rw[bne_iff_ne.2 hc];rfl⟩
theorem abZ(R:Type)(k0:Nat)(hx:Int→Int→Int→Int→Int→Int→Int→Int→Int→Int→Int→Int→Int→Int→Int→Int→Int→List I4→List I4→List I3→List I4→List I4→List I3→Option R)(s s2 s3 s4 o id o3 o4 o5 x x2 x3 x4 x5 x6 x7:Int)(o42 o52:List I4)(o6:List I3)(o7 o8:List I4)(o9:List I3)
  (m:List I4) (A:List (Int×Unit)) (hA:A.length=m.length) (hm:m.length≤60) (hr:gY k4 m) (p:Nat) (z:I4) (hp:m[p]? =some z) (hz:z.1=id) (k:Nat) (hk:m.length<k):
  gQ.G0 k0 hx k (-1) 0 s s2 s3 s4 o id o3 o4 o5 x x2 x3 x4 x5 x6 x7 (pr m A) o42 o52 o6 o7 o8 o9=hx (fI A p) s s2 s3 s4 o id o3 o4 o5 x x2 x3 x4 x5 x6 x7 o42 o52 o6 o7 o8 o9:=by
 have hpl:=(List.getElem?_eq_some_iff.1 hp).1
 have hpx:=(List.getElem?_eq_some_iff.1 hp).2
 have key:=run 0 m.length (fun k i=>gQ.G0 k0 hx k (if p<i then fI A p else -1) (i:Nat) s s2 s3 s4 o id o3 o4 o5 x x2 x3 x4 x5 x6 x7 (pr m A) o42 o52 o6 o7 o8 o9) (hx (fI A p) s s2 s3 s4 o id o3 o4 o5 x x2 x3 x4 x5 x6 x7 o42 o52 o6 o7 o8 o9) (fun k i _ hi=> ?_) (fun k=> ?_) k (by omega) (by omega)
 ·simpa using key
 ·have hw:af ((i:Int)+1)=((i+1:Nat):Int):=aJ _ (by omega)
  have hc:(0:Int)≤(i:Int)∧(i:Int)<((pr m A).length:Int):=by rw[oH];omega
  have hg:(pr m A).getD i (0,0,())=((g4 m i).1,fI A i,()):=xY m A _ i (by omega)
  show gQ.G0 k0 hx (k+1) (if p<i then fI A p else -1) (i:Nat) s s2 s3 s4 o id o3 o4 o5 x x2 x3 x4 x5 x6 x7 (pr m A) o42 o52 o6 o7 o8 o9=gQ.G0 k0 hx k (if p<i+1 then fI A p else -1) ((i+1:Nat):Int) s s2 s3 s4 o id o3 o4 o5 x x2 x3 x4 x5 x6 x7 (pr m A) o42 o52 o6 o7 o8 o9
  rw[gQ.G0,gQ.R0]
  simp only[Int.toNat_natCast,if_pos hc,decide_eq_true hc.2,cond_true,hg,hw]
  by_cases hip:i=p
  ·subst hip
   have e:(g4 m i).1=id:=by
    rw[←hz, ←hpx]
    simp[g4,List.getD_eq_getElem?_getD,hpl]
   rw[show((g4 m i).1==id)=true by simpa using e,cond_true,if_pos (Nat.lt_succ_self i)]
  ·have e:(g4 m i).1≠id:=by
    have e2:(g4 m i).1=m[i].1:=by simp[g4,List.getD_eq_getElem?_getD,hi]
    rw[e2, ←hz, ←hpx]
    intro h
    rcases Nat.lt_or_gt_of_ne hip with h1 |h1
    ·have:m[i].1<m[p].1:=List.pairwise_iff_getElem.1 hr i p hi hpl h1
     omega
    ·have:m[p].1<m[i].1:=List.pairwise_iff_getElem.1 hr p i hpl hi h1
     omega
   rw[show((g4 m i).1==id)=false by simpa using e,cond_false]
   have:(p<i)↔(p<i+1):=by omega
   simp only[this]
 ·simp only[gQ.G0,gQ.R0]
  rw[oH,hA,decide_eq_false (by omega),cond_false,if_pos hpl]
theorem acd(k0:Nat)(code:List (Int×Unit))(o id o3 o4 o5 x x2 x3 x4 am un x7:Int)(o22 o32:List I4)(n:List I3)(hn:n.length≤60)(hr:gY k3 n)(p:Nat)(hp:n[p]? =some (id,am,un,()))(k:Nat)(hk:n.length<k):
  gQ.G1 k0 (gQ.A1 code) (gQ.A2 code) k 0 o id o3 o4 o5 x x2 x3 x4 am un x7 o22 o32 n=some (true,()):=by
 have hpl:=(List.getElem?_eq_some_iff.1 hp).1
 have hpx:=(List.getElem?_eq_some_iff.1 hp).2
 refine run 0 p (fun k i=>gQ.G1 k0 (gQ.A1 code) (gQ.A2 code) k (i:Nat) o id o3 o4 o5 x x2 x3 x4 am un x7 o22 o32 n) _ (fun k i _ hi=> ?_) (fun k=> ?_) k (by omega) (by omega)
 ·have hil:i<n.length:=by omega
  have hw:af ((i:Int)+1)=((i+1:Nat):Int):=aJ _ (by omega)
  have hg:n.getD i (0,0,0,())=n[i]:=by rw[List.getD_eq_getElem?_getD,List.getElem?_eq_getElem hil];rfl
  have hlt:n[i].1<n[p].1:=List.pairwise_iff_getElem.1 hr i p hil hpl hi
  rw[hpx]at hlt
  show gQ.G1 k0 _ _ (k+1) (i:Nat) o id o3 o4 o5 x x2 x3 x4 am un x7 o22 o32 n=gQ.G1 k0 _ _ k ((i+1:Nat):Int) o id o3 o4 o5 x x2 x3 x4 am un x7 o22 o32 n
  rw[gQ.G1,gQ.R1,decide_eq_true (by omega),cond_true,if_pos (by omega),Int.toNat_natCast,hg,beq_false_of_ne (Int.ne_of_lt hlt),cond_false,hw]
 ·have hg:n.getD p (0,0,0,())=(id,am,un,()):=by rw[List.getD_eq_getElem?_getD,hp];rfl
  show gQ.G1 k0 _ _ (k+1) (p:Nat) o id o3 o4 o5 x x2 x3 x4 am un x7 o22 o32 n=_
  rw[gQ.G1,gQ.R1,decide_eq_true (by omega),cond_true,if_pos (by omega),Int.toNat_natCast,hg]
  simp only[beq_self_eq_true,cond_true]
  rw[if_pos (by omega)]
  rfl
theorem ace(code:List (Int×Unit)):Kq (code,())=some (true,()):=by
 obtain⟨K,hK,hK2⟩:∃ K,K=300+code.length∧200<K:=⟨_,rfl,by omega⟩
 show gQ.FF (300+code.length) code=_
 rw[←hK,gQ.FF,gQ.T]
 by_cases hc:(code.length:Int)>1048576
 ·rw[decide_eq_true hc];rfl
 rw[decide_eq_false hc,cond_false]
 obtain⟨s0,s1,s2,s3,l,m,n,k,id,g,a,b,e,b1,b2,b3⟩:=aeo code (by omega)
 rw[e]
 simp only[Option.bind_some]
 by_cases hk:k=1
 rotate_left
 ·rw[bne_iff_ne.2 hk];rfl
 subst hk
 rw[show((1:Int) != 1)=false from rfl,cond_false]
 have hS:jF (s0,s1,s2,s3,l,m,n,1,id,g,a,b,())=fF.FF (300+l.length+m.length+n.length) s0 s1 s2 s3 l m n 1 id g a b:=rfl
 by_cases h:oz s0 s1 s2 s3 l m n
 rotate_left
 ·rw[hS,fF.FF,fF.T,uQ s0 s1 s2 s3 l m n (by omega) (by omega) (by omega),eH h];rfl
 cases hop:oN 1 id g a b with
 |false=>rw[hS,fF.FF,fF.T,uQ s0 s1 s2 s3 l m n (by omega) (by omega) (by omega),EL,dA h,hop];rfl
 |true=>
 have hq:=sK.1 h
 obtain⟨am,un,c,t1,t2,t3,l',m',n',hx,⟨rfl,hq2,e1,e2⟩ | ⟨hc,e1,e2⟩⟩:=doX hq 1 id g a b hop
 rotate_left
 ·rw[e1];simp only[Option.bind_some,bne_iff_ne.2 hc,cond_true]
 obtain⟨hun,rfl,rfl,rfl,rfl,p,G,A,f1,hA,hAb,hp,ham,hn⟩:=(hx.1 rfl).2 rfl
 obtain⟨q1,q2,q3⟩:=hq2.small
 obtain⟨r1,r2,r3⟩:=hq.small
 have hln:=hq.len
 have hbn:=hq.born
 have hFS:CW (t3,l',m',())=some (pr m' A,()):=by
  simp only[CW,QZ.T,Vt t3 l' m' (by omega) (by omega),dA (sF.2 hq2.farm),f1,Option.bind_some,Bool.not_true,cond_false]
 have hw:af (t2+s0)=t2+s0:=aJ _ (by omega)
 rw[e1,e2]
 simp only[Option.bind_some,bne_self_eq_false,cond_false,Ac s0 t1 t2 t3 l' m' n' (by omega) (by omega) (by omega),dA (sK.2 hq2),Bool.not_true,hw,hun,hFS]
 rw[abZ _ K _ s0 t1 t2 t3 1 id g a b s0 t1 t2 t3 am (t2+s0) 0 l' m n l' m' n' m' A hA q2 hq2.farm.rm p _ hp rfl K (by omega)]
 have hls:=hq.Xj
 have hLb:=xu hls t2 id n.length (Nat.le_refl _)
 have hcap:=hq.farm.cap
 unfold dM at hcap
 have hO:CJ (n,t2,id,())=some (eG n t2 id n.length,()):=by
  simp only[CJ,QB.T,Uf n (by omega),dA hls,LG n hls t2 id,Option.bind_some,Bool.not_true,cond_false]
 have hMx:∀ x y:Int,DY (x,y,())=some (mx x y,()):=fun x y=>by
  simp only[DY,Ud.T,mx]
  by_cases hh:x>y
  ·rw[decide_eq_true hh,cond_true];simp;omega
  ·rw[decide_eq_false hh,cond_false];simp;omega
 have hMn:∀ x y:Int,DX (x,y,())=some (mn x y,()):=fun x y=>by
  simp only[DX,Uc.T,mn]
  by_cases hh:x<y
  ·rw[decide_eq_true hh,cond_true];simp;omega
  ·rw[decide_eq_false hh,cond_false];simp;omega
 rw[gQ.A0,if_pos (by unfold maxRow;simp only[List.length_nil];omega),List.nil_append,hO]
 simp only[Option.bind_some]
 rw[decide_eq_false (by have:=(hAb p).1;omega),cond_false,aJ _ (by omega),hMx]
 simp only[Option.bind_some,hMn, ←ham,bne_self_eq_false,cond_false]
 obtain⟨pl,hpl⟩:∃ q:Nat,n'[q]? =some (id,am,t2+s0,()):=by
  rcases hn with ⟨⟨x,hx1, -⟩,rfl⟩ | ⟨-, hpn,rfl⟩
  ·exact⟨p,by rw[List.getElem?_set,if_pos rfl,if_pos (List.getElem?_eq_some_iff.1 hx1).1,hun]⟩
  ·exact⟨p,by rw[Wu n p _ hpn,hun]⟩
 exact acd K code 1 id g a b s0 t1 t2 t3 am (t2+s0) 0 l' m' n' q3 hq2.yO pl hpl K (by omega)
theorem abI:∀ x:ah.V (cu [.v false [.sl [CT.int .u8]]]),ah.ok (cu [.v false [.sl [CT.int .u8]]]) x→Kq x=some (true,()):=by
 rintro⟨code,⟨⟩⟩ _
 exact ace code
end Go.Rv
