/- Plain facts: srv4, srv5. -/
import Derived.Test.YtjknhphmhfbghaaGreatFM33
set_option linter.unusedVariables false
set_option linter.unusedSimpArgs false
set_option linter.unusedSectionVars false
namespace Go.Rv
theorem NT{l:List I4}{p:Nat}{y:I4}(x:I4)(hx:l[p]? =some y)(he:x.1=y.1)(u:Int):bU k4 (l.set p x) u↔bU k4 l u:=by
 have hp:=(List.getElem?_eq_some_iff.1 hx).1
 have e:(l.set p x).map k4=l.map k4:=by
  apply List.ext_getElem?
  intro i
  rw[List.getElem?_map,List.getElem?_map,List.getElem?_set]
  by_cases hi:p=i
  ·subst hi
   rw[if_pos rfl,if_pos hp,hx]
   simp[k4,he]
  ·rw[if_neg hi]
 have m1:∀ l':List I4,bU k4 l' u↔u∈l'.map k4:=fun l'=>by simp[bU,List.mem_map]
 rw[m1,m1,e]
theorem V8{l:List I4}{p:Nat}{y:I4}(x:I4)(hx:l[p]? =some y)(he:x.1=y.1)(hr:iF k4 l):iF k4 (l.set p x):=by
 have hp:=(List.getElem?_eq_some_iff.1 hx).1
 have e:(l.set p x).map k4=l.map k4:=by
  apply List.ext_getElem?
  intro i
  rw[List.getElem?_map,List.getElem?_map,List.getElem?_set]
  by_cases hi:p=i
  ·subst hi
   rw[if_pos rfl,if_pos hp,hx]
   simp[k4,he]
  ·rw[if_neg hi]
 have h1:(l.map k4).Pairwise (· < ·):=List.pairwise_map.2 hr
 rw[←e]at h1
 exact List.pairwise_map.1 h1
theorem getD_some{l:List I4}{p:Nat}{y z:I4}(hx:l[p]? =some y):l.getD p z=y:=by rw[List.getD_eq_getElem?_getD,hx];rfl
theorem afg{c:Int}{l m:List I4}(h:kN c l m)(id g a b:Int)(hop:(((id==0)||bW id)&&(g==0)&&fQ a&&(b==0))=true):wo c l m 8 id g a b:=by
 have er:jT (8,id,g,a,b,())=some (true,()):=by rw[XW,hop]
 simp only[Bool.and_eq_true,Bool.or_eq_true,beq_iff_eq,FO,Bv]at hop
 obtain⟨⟨⟨o1,o2⟩,o3⟩,o4⟩:=hop
 have hl:=h.ll
 have hm:=h.lm
 obtain⟨p,hc,hG⟩:=xu c l m id (by omega) h.rl
 obtain⟨pm,_,hM⟩:=Ah c l m id (by omega) h.rm
 obtain⟨e0,e1⟩:=xq c l m id (by omega) h.rl p hc
 unfold wo
 simp only[kF,wZ.T,vg c l m (by omega) (by omega),er,qY c l m (by omega) (by omega),Option.bind_some,dD (vP.2 h),ng,Dy.T,hG,hM,sD]
 by_cases h0:id=0
 ·subst h0
  exact⟨0,a,l,rfl,by omega,fun _=>⟨⟨o3,hl,hm,h.rl,h.rm,h.gl,h.gm⟩,rfl⟩,fun h=>absurd rfl h⟩
 ·rw[beq_false_of_ne h0]
  by_cases hi:bU k4 l id
  ·obtain⟨x,hx,hxu⟩:=(hc.has h.rl).1 hi
   have hp:=(List.getElem?_eq_some_iff.1 hx).1
   rw[dD hi,e0 hi]
   simp only[Option.bind_some,Int.toNat_natCast,getD_some hx]
   have hp1:(0:Int)≤(p:Int)∧(p:Int)<(l.length:Int):=by omega
   have hp2:decide ((p:Int)<0)=false:=decide_eq_false (by omega)
   simp only[if_pos hp1,hp2]
   have hxl:x∈l:=List.mem_of_getElem? hx
   obtain⟨q1,q2,q3,q4⟩:=h.gl x hxl
   refine⟨0,c,_,rfl,by omega,fun _=>⟨⟨h.cap,by rw[List.length_set];exact hl,hm,V8 _ hx rfl h.rl,h.rm,fun y hy=> ?_,fun y hy=> ?_⟩,rfl⟩,fun h=>absurd rfl h⟩
   ·rcases List.mem_or_eq_of_mem_set hy with hy |rfl
    ·obtain⟨r1,r2,r3,r4⟩:=h.gl y hy
     exact⟨r1,r2.imp (fun h=>h) (fun hh=>⟨(NT (x.1,x.2.1,a,x.2.2.2.1,()) hx rfl _).2 hh.1,hh.2⟩),r3,r4⟩
    ·exact⟨q1,q2.imp (fun h=>h) (fun hh=>⟨(NT (x.1,x.2.1,a,x.2.2.2.1,()) hx rfl _).2 hh.1,hh.2⟩),o3,q4⟩
   ·obtain⟨r1,r2,r3,r4⟩:=h.gm y hy
    exact⟨r1,r2.imp (fun h=>h) (fun hh=>(NT (x.1,x.2.1,a,x.2.2.2.1,()) hx rfl _).2 hh),r3,r4⟩
  ·rw[eU hi,e1 hi]
   exact⟨4,c,l,rfl,by omega,fun h=>by omega,fun _=>⟨rfl,rfl,rfl⟩⟩
def jl(u:Int)(x:I3):Bool→List I3→List I3→Bool×List I3
 |d,o,[]=>(d,o)
 |d,o,y::r=>if d=false∧y.1≥u then(if y.1=u then jl u x true (o++[x]) r else jl u x true ((o++[x])++[y]) r)else(if y.1=u then jl u x d o r else jl u x d (o++[y]) r)
theorem Oa(u:Int)(x:I3):∀ (r o:List I3),(∀ y∈r,y.1≠u)→jl u x true o r=(true,o++r)
 | [],o,_=>by simp[jl]
 |y::r,o,h=>by
  rw[jl,if_neg (by simp),if_neg (h y (by simp)),Oa u x r _ fun z hz=>h z (List.mem_cons_of_mem _ hz)]
  simp
theorem XJ(u:Int)(x:I3):∀ (a r o:List I3),(∀ y∈a,y.1<u)→jl u x false o (a++r)=jl u x false (o++a) r
 | [],r,o,_=>by simp
 |y::a,r,o,h=>by
  have h1:=h y (by simp)
  rw[List.cons_append,jl,if_neg (by omega),if_neg (by omega),XJ u x a r (o++[y]) fun z hz=>h z (List.mem_cons_of_mem _ hz)]
  simp
theorem Bf(u:Int)(x:I3):∀ (r o:List I3) (d:Bool),(jl u x d o r).2.length≤o.length+2*r.length
 | [],o,d=>by simp[jl]
 |y::r,o,d=>by
  have h1:=Bf u x r (o++[x]) true
  have h2:=Bf u x r ((o++[x])++[y]) true
  have h3:=Bf u x r o d
  have h4:=Bf u x r (o++[y]) d
  simp only[List.length_append,List.length_cons,List.length_nil]at h1 h2 h3 h4 ⊢
  rw[jl]
  split <;>split <;>omega
theorem aeI(u:Int)(x:I3)(l:List I3)(p:Nat)(hr:iF k3 l)(hc:Cut k3 l u p):
  (bU k3 l u→jl u x false [] l=(true,l.set p x))∧(¬ bU k3 l u→((jl u x false [] l).1=true∧(jl u x false [] l).2=insL l p x)∨((jl u x false [] l).1=false∧(jl u x false [] l).2++[x]=insL l p x)):=by
 have e:jl u x false [] l=jl u x false (l.take p) (l.drop p):=by
  have:=XJ u x (l.take p) (l.drop p) [] hc.lo
  rwa [List.take_append_drop,List.nil_append]at this
 rw[e]
 constructor
 ·intro hi
  obtain⟨y,hy,hyu⟩:=(hc.has hr).1 hi
  have hp:=(List.getElem?_eq_some_iff.1 hy).1
  have hd:l.drop p=y::l.drop (p+1):=by
   rw[List.drop_eq_getElem_cons hp]
   congr 1
   rw[List.getElem?_eq_getElem hp]at hy
   exact Option.some.inj hy
  have hr':iF k3 (y::l.drop (p+1)):=by rw[←hd];exact List.Pairwise.sublist (List.drop_sublist p l) hr
  have hyu':y.1=u:=hyu
  rw[hd,jl,if_pos ⟨rfl,by omega⟩,if_pos hyu',Oa]
  ·rw[List.set_eq_take_append_cons_drop,if_pos hp]
   simp
  ·intro z hz
   have h1:y.1<z.1:=(List.pairwise_cons.1 hr').1 z hz
   omega
 ·intro hn
  have hg:=hc.gt hn
  unfold insL
  cases hd:l.drop p with
  |nil=>exact Or.inr ⟨rfl,rfl⟩
  |cons y r=>
   have h1:u<y.1:=hg y (by rw[hd];simp)
   rw[jl,if_pos ⟨rfl,by omega⟩,if_neg (by omega),Oa]
   ·exact Or.inl ⟨rfl,by simp⟩
   ·intro z hz
    have:u<z.1:=hg z (by rw[hd];exact List.mem_cons_of_mem _ hz)
    omega
theorem adJ(a r:List I3)(y:I3):rd (0,0,0,()) (a++y::r) (a.length:Int)=y:=by
 rw[bZ,List.getD_eq_getElem?_getD,List.getElem?_append_right (Nat.le_refl _),Nat.sub_self]
 rfl
theorem adP(R:Type)(k0:Nat)(hx:Bool→Int→Int→Int→List I3→List I3→Option R)(l:List I3)(u a b:Int)(same:List I3)(hm:l.length≤60):∀ (r pre out:List I3) (d:Bool) (k:Nat),l=pre++r→out.length≤2*pre.length→r.length<k→
  kJ.G0 k0 hx k l d (pre.length:Int) u a b same out=hx (jl u (u,a,b,()) d out r).1 u a b same (jl u (u,a,b,()) d out r).2:=by
 intro r
 induction r with
 |nil=>
  intro pre out d k hd ho hk
  cases k with
  |zero=>simp at hk
  |succ k=>
   rw[List.append_nil]at hd
   subst hd
   rw[kJ.G0,kJ.R0,decide_eq_false (by omega),cond_false]
   rfl
 |cons y r ih=>
  intro pre out d k hd ho hk
  cases k with
  |zero=>simp at hk
  |succ k=>
   have hlen:l.length=pre.length+(r.length+1):=by rw[hd];simp
   have hrd:rd (0,0,0,()) l (pre.length:Int)=y:=by rw[hd];exact adJ pre r y
   have hw:af ((pre.length:Int)+1)=(((pre++[y]).length:Nat):Int):=(aI _ (by omega)).trans (by simp)
   have hc:(0:Int)≤(pre.length:Int)∧(pre.length:Int)<(l.length:Int):=by omega
   have hk':r.length<k:=by simp only[List.length_cons]at hk;omega
   have hm1:∀ n:Nat,n≤200→n≤maxRow:=fun n hn=>by unfold maxRow;omega
   rw[kJ.G0,kJ.R0]
   simp only[hrd,hw,if_pos hc,decide_eq_true hc.2,cond_true]
   have I:=fun(o':List I3) (d':Bool) (ho':o'.length≤2*(pre.length+1))=>ih (pre++[y]) o' d' k (by rw[hd];simp) (by simp only[List.length_append,List.length_cons,List.length_nil];omega) hk'
   have b1:out.length+1≤maxRow:=hm1 _ (by omega)
   have b2:(out++[(u,a,b,())]).length+1≤maxRow:=hm1 _ (by simp only[List.length_append,List.length_cons,List.length_nil];omega)
   have l1:(out++[(u,a,b,())]).length≤2*(pre.length+1):=by simp only[List.length_append,List.length_cons,List.length_nil];omega
   have l2:((out++[(u,a,b,())])++[y]).length≤2*(pre.length+1):=by simp only[List.length_append,List.length_cons,List.length_nil];omega
   have l3:(out++[y]).length≤2*(pre.length+1):=by simp only[List.length_append,List.length_cons,List.length_nil];omega
   simp only[List.length_cons,List.length_nil,Nat.zero_add,if_pos b1,if_pos b2]
   by_cases hd1:d=false∧y.1≥u
   ·obtain⟨rfl,hge⟩:=hd1
    simp only[Bool.not_false,cond_true,decide_eq_true hge]
    by_cases hu:y.1=u
    ·have e:jl u (u,a,b,()) false out (y::r)=jl u (u,a,b,()) true (out++[(u,a,b,())]) r:=by rw[jl,if_pos ⟨rfl,hge⟩,if_pos hu]
     rw[e,show(y.1 != u)=false by simpa using hu,cond_false]
     exact I _ _ l1
    ·have e:jl u (u,a,b,()) false out (y::r)=jl u (u,a,b,()) true ((out++[(u,a,b,())])++[y]) r:=by rw[jl,if_pos ⟨rfl,hge⟩,if_neg hu]
     rw[e,show(y.1 != u)=true by simpa using hu,cond_true]
     exact I _ _ l2
   ·have e:jl u (u,a,b,()) d out (y::r)=if y.1=u then jl u (u,a,b,()) d out r else jl u (u,a,b,()) d (out++[y]) r:=by rw[jl,if_neg hd1]
    rw[e]
    have ho2:out.length≤2*(pre.length+1):=by omega
    have tail:cond (y.1 != u) (kJ.G0 k0 hx k l d (((pre++[y]).length:Nat):Int) u a b same (out++[(y.1,y.2.1,y.2.2.1,())])) (kJ.G0 k0 hx k l d (((pre++[y]).length:Nat):Int) u a b same out)=
      hx (if y.1=u then jl u (u,a,b,()) d out r else jl u (u,a,b,()) d (out++[y]) r).1 u a b same (if y.1=u then jl u (u,a,b,()) d out r else jl u (u,a,b,()) d (out++[y]) r).2:=by
     by_cases hu:y.1=u
     ·rw[if_pos hu,show(y.1 != u)=false by simpa using hu,cond_false]
      exact I _ _ ho2
     ·rw[if_neg hu,show(y.1 != u)=true by simpa using hu,cond_true]
      exact I _ _ l3
    cases d with
    |true=>exact tail
    |false=>
     have hlt:¬ y.1≥u:=fun h=>hd1 ⟨rfl,h⟩
     simp only[Bool.not_false,cond_true,decide_eq_false hlt,cond_false]
     exact tail
theorem Oz(l:List I3)(h:l.length≤1048576):CB (l,())=some (l,()):=by
 show Hr.T l=_
 have b:([]:List I3).length+l.length≤maxRow:=by unfold maxRow;simp only[List.length_nil];omega
 have e:(if([]:List I3).length+l.length≤maxRow then some ((([]:List I3)++l),())else none)=some (l,()):=by rw[if_pos b];rfl
 unfold Hr.T
 rw[e]
 by_cases h0:l.length=0
 ·have:=List.eq_nil_of_length_eq_zero h0
  subst this
  rw[if_pos rfl]
  exact if_pos rfl
 ·rw[if_neg h0]
theorem aeR(l:List I4)(h:l.length≤1048576):Hq (l,())=some (l,()):=by
 show Ht.T l=_
 have b:([]:List I4).length+l.length≤maxRow:=by unfold maxRow;simp only[List.length_nil];omega
 have e:(if([]:List I4).length+l.length≤maxRow then some ((([]:List I4)++l),())else none)=some (l,()):=by rw[if_pos b];rfl
 unfold Ht.T
 rw[e]
 by_cases h0:l.length=0
 ·have:=List.eq_nil_of_length_eq_zero h0
  subst this
  rw[if_pos rfl]
  exact if_pos rfl
 ·rw[if_neg h0]
theorem cloneM(l:List I4)(h:l.length≤1048576):Hf (l,())=some (l,()):=by
 show Hl.T l=_
 have b:([]:List I4).length+l.length≤maxRow:=by unfold maxRow;simp only[List.length_nil];omega
 have e:(if([]:List I4).length+l.length≤maxRow then some ((([]:List I4)++l),())else none)=some (l,()):=by rw[if_pos b];rfl
 unfold Hl.T
 rw[e]
 by_cases h0:l.length=0
 ·have:=List.eq_nil_of_length_eq_zero h0
  subst this
  rw[if_pos rfl]
  exact if_pos rfl
 ·rw[if_neg h0]
theorem ae8(l:List I3)(p:Nat)(x:I3)(hp:p≤l.length)(hl:l.length≤1048576):Cm (l,(p:Int),[x],())=some (insL l p x,()):=
 if_pos ⟨Int.natCast_nonneg p,by show(p:Int)≤l.length;omega,hl⟩
theorem N9{l:List I3}:kZ l↔l.length≤60∧(∀ x∈l,nO x)∧iF k3 l:=by
 unfold kZ yV
 rw[←O3 (P:=nO), ←X3]
 constructor
 ·rintro⟨h1,h2⟩
  exact⟨h1,fun i hi=>(h2 i hi).1,fun i hi=>(h2 i hi).2⟩
 ·rintro⟨h1,h2,h3⟩
  exact⟨h1,fun i hi=>⟨h2 i hi,h3 i hi⟩⟩
theorem WH{l:List I3}(h:kZ l)(u a b:Int):∃ p,Cut k3 l u p∧(bU k3 l u→qC (l,u,a,b,())=some (l.set p (u,a,b,()),()))∧(¬ bU k3 l u→qC (l,u,a,b,())=some (insL l p (u,a,b,()),())):=by
 obtain⟨h1,h2,h3⟩:=N9.1 h
 obtain⟨p,hc,hA⟩:=abN l u (by omega) h3
 refine⟨p,hc,fun hi=> ?_,fun hi=> ?_⟩
 ·obtain⟨x,hx,_⟩:=(hc.has h3).1 hi
  have hp:=(List.getElem?_eq_some_iff.1 hx).1
  simp only[qC,La.T,Oz l (by omega),hA,Option.bind_some,dD hi,cond_true,Int.toNat_natCast]
  rw[if_pos (by omega)]
 ·have hp:=hc.le
  simp only[qC,La.T,Oz l (by omega),hA,Option.bind_some,eU hi,cond_false,ae8 l p _ hp (by omega)]
theorem V5{l:List I3}(h:kZ l)(u a b:Int)(hx:nO (u,a,b,()))(p:Nat)(hc:Cut k3 l u p):(bU k3 l u→zW (l,u,a,b,())=some (l.set p (u,a,b,()),()))∧(¬ bU k3 l u→l.length<60→zW (l,u,a,b,())=some (insL l p (u,a,b,()),())):=by
 obtain⟨h1,h2,h3⟩:=N9.1 h
 have loop:=adP (List I3×Unit) (300+l.length) (kJ.A0 l u a b) l u a b (([]:List I3)++l) h1 l [] [] false (300+l.length) rfl (by simp) (by omega)
 have e:zW (l,u,a,b,())=kJ.A0 l u a b (jl u (u,a,b,()) false [] l).1 u a b (([]:List I3)++l) (jl u (u,a,b,()) false [] l).2:=by
  show kJ.FF _ l u a b=_
  simp only[kJ.FF,kJ.T,Ea l (by omega),Ur,Option.bind_some,dD h,dD hx]
  rw[decide_eq_false (by omega),cond_false,if_pos (by unfold maxRow;simp only[List.length_nil];omega)]
  exact loop
 obtain⟨j1,j2⟩:=aeI u (u,a,b,()) l p h3 hc
 have hlen:=Bf u (u,a,b,()) l [] false
 simp only[List.length_nil]at hlen
 rw[e]
 refine⟨fun hi=> ?_,fun hi h60=> ?_⟩
 ·rw[j1 hi,kJ.A0]
  simp only[Bool.not_true,cond_false,List.length_set]
  rw[decide_eq_false (by omega),cond_false]
 ·have hil:=AO l p (u,a,b,()) hc.le
  rcases j2 hi with ⟨k1,k2⟩ | ⟨k1,k2⟩
  ·rw[k1,k2,kJ.A0]
   simp only[Bool.not_true,cond_false]
   rw[hil,decide_eq_false (by omega),cond_false]
  ·rw[k1,kJ.A0]
   simp only[Bool.not_false,cond_true,List.length_cons,List.length_nil,Nat.zero_add]
   rw[if_pos (by unfold maxRow;omega),k2,hil,decide_eq_false (by omega),cond_false]
theorem Vb{l:List I3}(h:kZ l)(now id c:Int)(hc:dP c):Dp (l,now,id,c,())=some (mx 0 (c - eP l now id l.length),()):=by
 have hb:=Ar h now id l.length (Nat.le_refl _)
 have hl:=h.1
 unfold dP at hc
 simp only[Dp,RG.T,Ea l (by omega),xJ,abS l h now id,Option.bind_some,dD h,dD (show dP c from hc),rF,LC.T]
 rw[aI _ (by omega)]
 simp only[Bool.not_true,cond_false,mx]
 by_cases hh:0>c - eP l now id l.length
 ·rw[decide_eq_true hh,cond_true,if_neg (by omega)];rfl
 ·rw[decide_eq_false hh,cond_false]
  by_cases h2:c - eP l now id l.length>0
  ·rw[if_pos h2];rfl
  ·rw[if_neg h2]
   have:c - eP l now id l.length=0:=by omega
   rw[this];rfl
theorem XF{c:Int}{l m:List I4}(h:lD c l m)(F:Nat→Int)(hF:iJ F)(id a:Int)(ha:0≤a∧a≤72057594037927936)(M:List (Int×Unit))(hM:∀ q,0≤fI M q∧fI M q≤1125899906842624)(q:Nat):0≤fI (pM l m F id a M) q∧fI (pM l m F id a M) q≤1125899906842624:=
 NK M _ _ hM _ (fun i hi=>XL h F hF id a ha _ (by rw[A8 h];show(gp l id).length+i<(gp l id).length+(gp m id).length;have:i<(gp m id).length:=hi;omega)) q
theorem Xc{c:Int}{l m:List I4}(h:lD c l m)(F:Nat→Int)(hF:iJ F):∀ k q,0≤fI (stA c l m F k).2 q∧fI (stA c l m F k).2 q≤1125899906842624
 |0=>fun q=>by
  have hc:=h.1
  unfold dP at hc
  exact XF h F hF 0 c (by omega) _ (fun q=>by rw[Xx];omega) q
 |k+1=>fun q=>by
  have h3:=(Bd h F hF k).2.2 k
  exact XF h F hF _ _ (by omega) _ (Xc h F hF k) q
theorem V7{c:Int}{l m:List I4}(h:kN c l m):∃ (G:List (Int×Int×Unit)) (A:List (Int×Unit)),qx (c,l,m,())=some (G,pr m A,())∧wJ (c,l,m,())=some (pr m A,())∧A.length=m.length∧∀ q,0≤fI A q∧fI A q≤1125899906842624:=by
 have hP:=vP.2 h
 obtain⟨F,hF,hW,hA⟩:=adF hP
 obtain⟨h1,h2,h3⟩:=Bd hP F hF l.length
 refine⟨_,_,ab3 hP F hF hW, ?_,h2, ?_⟩
 ·have hl:=h.ll
  have hm2:=h.lm
  show ni.FF _ c l m=_
  simp only[ni.FF,ni.T,vg c l m (by omega) (by omega),Option.bind_some,dD hP,Bool.not_true,cond_false,hA]
  rw[ac3,h2]
  refine run 0 m.length (fun k i=>ni.G0 (300+l.length+m.length) (ni.A0 c l m) k (i:Nat) c l m ((List.range i).map fun j=>((g4 m j).1,fI (stA c l m F l.length).2 j,())) (stA c l m F l.length).2) _ (fun k i _ hi=> ?_) (fun k=> ?_) _ (by omega) (by omega)
  ·show ni.G0 _ _ (k+1) (i:Nat) c l m _ _=ni.G0 _ _ k ((i+1:Nat):Int) c l m ((List.range (i+1)).map _) _
   simp only[ni.G0,ni.R0,bZ,Int.toNat_natCast]
   rw[decide_eq_true (by omega),cond_true,if_pos (by omega),if_pos (by omega),if_pos (by simp only[List.length_map,List.length_range,List.length_cons,List.length_nil,maxRow];omega),aI _ (by omega),List.range_succ,List.map_append]
   rfl
  ·simp only[ni.G0,ni.R0]
   rw[decide_eq_false (by omega),cond_false]
   rfl
 ·exact Xc hP F hF l.length
end Go.Rv
