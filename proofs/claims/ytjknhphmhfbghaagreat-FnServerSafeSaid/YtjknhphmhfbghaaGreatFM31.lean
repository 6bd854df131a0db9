/- Plain facts: srv1. -/
import Derived.Test.YtjknhphmhfbghaaGreatFM30
set_option linter.unusedVariables false
set_option linter.unusedSimpArgs false
set_option linter.unusedSectionVars false
namespace Go.Rv
theorem UM{l:List I4}{u:Int}(hr:iF k4 l)(q:Nat)(h3:q<l.length)(h4:(g4 l q).1=u):Cut k4 l u q:=by
 have e:l[q].1=u:=by simpa [g4,List.getD_eq_getElem?_getD,h3]using h4
 refine⟨by omega,fun x hx=> ?_,fun x hx=> ?_⟩
 ·obtain⟨i,hi,rfl⟩:=List.mem_take_iff_getElem.1 hx
  have:=List.pairwise_iff_getElem.1 hr i q (by omega) h3 (by omega)
  exact e▸this
 ·obtain⟨i,hi,rfl⟩:=List.mem_drop_iff_getElem.1 hx
  by_cases h0:i=0
  ·subst h0
   exact Int.le_of_eq e.symm
  ·have h6:l[q].1<l[q+i].1:=List.pairwise_iff_getElem.1 hr q (q+i) h3 (by omega) (by omega)
   show u≤l[q+i].1
   omega
theorem xq(c:Int)(l m:List I4)(u:Int)(hl:l.length≤1048576)(hr:iF k4 l)(p:Nat)(hp:Cut k4 l u p):(bU k4 l u→jU (c,l,m,u,())=some ((p:Int),()))∧(¬ bU k4 l u→jU (c,l,m,u,())=some (-1,())):=by
 obtain⟨q,h1,h2⟩:=MB c l m u hl
 rw[h1]
 rw[oP]at h2
 rcases h2 with ⟨h2,rfl⟩ | ⟨q,rfl,h3,h4,h5⟩
 ·exact⟨fun h=>absurd h h2,fun _=>rfl⟩
 ·exact⟨fun _=>by rw[hp.uniq (UM hr q h3 h4)],fun h=>absurd (oP.1 ⟨q,h3,h4⟩) h⟩
theorem abR(c:Int)(l m:List I4)(u:Int)(hl:m.length≤1048576):∃ p:Int,qB (c,l,m,u,())=some (p,())∧((¬ iV m m.length u∧p= -1)∨∃ q:Nat,p=q∧q<m.length∧(g4 m q).1=u∧∀ j,j<q→(g4 m j).1≠u):=by
 have key:∀ (k0 k i:Nat),i≤m.length→m.length - i<k→(∀ j,j<i→(g4 m j).1≠u)→∃ p:Int,wS.G0 k0 (fun t=>wS.A0 c l m u t) (fun _=>wS.A1 c l m u ()) k u i c l m=some (p,())∧((¬ iV m m.length u∧p= -1)∨∃ q:Nat,p=q∧q<m.length∧(g4 m q).1=u∧∀ j,j<q→(g4 m j).1≠u):=by
  intro k0 k
  induction k with
  |zero=>intro i _ h;omega
  |succ k ih=>
   intro i hi hk hb
   rw[wS.G0,wS.R0]
   by_cases h:i<m.length
   ·have hw:af ((i:Int)+1)=((i+1:Nat):Int):=aI _ (by omega)
    rw[hw,decide_eq_true (by omega),cond_true,if_pos (by omega)]
    by_cases hu:(rd (0,0,0,0,()) m (i:Int)).1=u
    ·rw[show((rd (0,0,0,0,()) m (i:Int)).1==u)=true by simpa using hu]
     exact⟨i,rfl,Or.inr ⟨i,rfl,h,hu,hb⟩⟩
    ·rw[show((rd (0,0,0,0,()) m (i:Int)).1==u)=false by simpa using hu]
     refine ih (i+1) (by omega) (by omega) fun j hj=> ?_
     by_cases hji:j=i
     ·subst hji;exact hu
     ·exact hb j (by omega)
   ·rw[decide_eq_false (by omega),cond_false]
    refine⟨-1,rfl,Or.inl ⟨?_,rfl⟩⟩
    rintro⟨p,hp,hpu⟩
    exact hb p (by omega) hpu
 exact key _ _ 0 (by omega) (by show _<300+l.length+m.length;omega) (by intro j hj;omega)
theorem Lm(c:Int)(l m:List I4)(u:Int)(hl:m.length≤1048576)(hr:iF k4 m)(p:Nat)(hp:Cut k4 m u p):(bU k4 m u→qB (c,l,m,u,())=some ((p:Int),()))∧(¬ bU k4 m u→qB (c,l,m,u,())=some (-1,())):=by
 obtain⟨q,h1,h2⟩:=abR c l m u hl
 rw[h1]
 rw[oP]at h2
 rcases h2 with ⟨h2,rfl⟩ | ⟨q,rfl,h3,h4,h5⟩
 ·exact⟨fun h=>absurd h h2,fun _=>rfl⟩
 ·exact⟨fun _=>by rw[hp.uniq (UM hr q h3 h4)],fun h=>absurd (oP.1 ⟨q,h3,h4⟩) h⟩
theorem LY{l:List I4}(h:iF k4 l):qK l l.length:=uZ l l.length (BJ.2 h)
theorem xu(c:Int)(l m:List I4)(u:Int)(hl:l.length≤1048576)(hr:iF k4 l):∃ p,Cut k4 l u p∧qA (c,l,m,u,())=some ((p:Int),bb (bU k4 l u),()):=by
 obtain⟨p,h1,h2,h3,h4,_⟩:=bsearch l u hl (LY hr)
 refine⟨p,Xy h2 h3 h4, ?_⟩
 simp only[qA,KD.T,h1,Option.bind_some]
 rw[lQ oP]
theorem Ah(c:Int)(l m:List I4)(u:Int)(hl:m.length≤1048576)(hr:iF k4 m):∃ p,Cut k4 m u p∧oZ (c,l,m,u,())=some ((p:Int),bb (bU k4 m u),()):=by
 obtain⟨p,h1,h2,h3,h4,_⟩:=adt m u hl (LY hr)
 refine⟨p,Xy h2 h3 h4, ?_⟩
 simp only[oZ,QL.T,h1,Option.bind_some]
 rw[lQ oP]
theorem aed{l:List I3}{u:Int}{p:Nat}(h0:p≤l.length)(h1:∀ q,q<p→(g3 l q).1<u)(h2:∀ q,p≤q→q<l.length→u≤(g3 l q).1):Cut k3 l u p:=by
 refine⟨h0,fun x hx=> ?_,fun x hx=> ?_⟩
 ·obtain⟨i,hi,rfl⟩:=List.mem_take_iff_getElem.1 hx
  have:=h1 i (by omega)
  simpa [g3,List.getD_eq_getElem?_getD,show i<l.length by omega]using this
 ·obtain⟨i,hi,rfl⟩:=List.mem_drop_iff_getElem.1 hx
  have:=h2 (p+i) (by omega) (by omega)
  simpa [g3,List.getD_eq_getElem?_getD,show p+i<l.length by omega]using this
theorem ae9{l:List I3}{u:Int}:FD l l.length u↔bU k3 l u:=by
 constructor
 ·rintro⟨p,hp,hu⟩
  refine⟨l[p],List.getElem_mem hp, ?_⟩
  simpa [g3,List.getD_eq_getElem?_getD,hp]using hu
 ·rintro⟨x,hx,hu⟩
  obtain⟨i,hi,rfl⟩:=List.getElem_of_mem hx
  exact⟨i,hi,by simpa [g3,List.getD_eq_getElem?_getD,hi]using hu⟩
theorem abN(l:List I3)(u:Int)(hl:l.length≤1048576)(hr:iF k3 l):∃ p,Cut k3 l u p∧DL (l,u,())=some ((p:Int),bb (bU k3 l u),()):=by
 have hr':Wj l l.length:=fun b hb a ha=>by
  have:=List.pairwise_iff_getElem.1 hr a b (by omega) hb ha
  simpa [g3,List.getD_eq_getElem?_getD,hb,show a<l.length by omega]using this
 obtain⟨p,h1,h2,h3,h4,_⟩:=adu l u hl hr'
 refine⟨p,aed h2 h3 h4, ?_⟩
 simp only[DL,S9.T,h1,Option.bind_some]
 rw[lQ ae9]
def insL{α:Type}(l:List α)(p:Nat)(x:α):List α:=l.take p++x::l.drop p
theorem AO{α:Type}(l:List α)(p:Nat)(x:α)(hp:p≤l.length):(insL l p x).length=l.length+1:=by
 simp only[insL,List.length_append,List.length_take,List.length_cons,List.length_drop];omega
theorem Ew{α:Type}(l:List α)(p:Nat)(x y:α):y∈insL l p x↔y=x∨y∈l:=by
 unfold insL
 rw[List.mem_append,List.mem_cons]
 constructor
 ·rintro(h |h |h)
  ·exact Or.inr (List.mem_of_mem_take h)
  ·exact Or.inl h
  ·exact Or.inr (List.mem_of_mem_drop h)
 ·rintro(h |h)
  ·exact Or.inr (Or.inl h)
  ·rw[←List.take_append_drop p l]at h
   rcases List.mem_append.1 h with h |h
   ·exact Or.inl h
   ·exact Or.inr (Or.inr h)
theorem Vy{α:Type}{f:α→Int}{l:List α}{p:Nat}{x:α}(hr:iF f l)(hc:Cut f l (f x) p)(hn:¬ bU f l (f x)):iF f (insL l p x):=by
 have h1:=hc.gt hn
 refine List.pairwise_append.2 ⟨List.Pairwise.sublist (List.take_sublist p l) hr,List.pairwise_cons.2 ⟨h1,List.Pairwise.sublist (List.drop_sublist p l) hr⟩,fun a ha b hb=> ?_⟩
 have h2:=hc.lo a ha
 rcases List.mem_cons.1 hb with rfl |hb
 ·exact h2
 ·exact Int.lt_trans h2 (h1 b hb)
def jn(u:Int)(x:I4):Bool→List I4→List I4→Bool×List I4
 |d,o,[]=>(d,o)
 |d,o,y::r=>if d=false∧y.1>u then jn u x true ((o++[x])++[y]) r else jn u x d (o++[y]) r
theorem WB(u:Int)(x:I4):∀ (r o:List I4),jn u x true o r=(true,o++r)
 | [],o=>by simp[jn]
 |y::r,o=>by
  rw[jn,if_neg (by simp),WB u x r]
  simp
theorem XI(u:Int)(x:I4):∀ (a r o:List I4),(∀ y∈a,y.1<u)→jn u x false o (a++r)=jn u x false (o++a) r
 | [],r,o,_=>by simp
 |y::a,r,o,h=>by
  have h1:=h y (by simp)
  rw[List.cons_append,jn,if_neg (by omega),XI u x a r (o++[y]) fun z hz=>h z (List.mem_cons_of_mem _ hz)]
  simp
theorem Xp(u:Int)(x:I4)(l:List I4)(p:Nat)(hc:Cut k4 l u p)(hn:¬ bU k4 l u):((jn u x false [] l).1=true∧(jn u x false [] l).2=insL l p x)∨((jn u x false [] l).1=false∧(jn u x false [] l).2++[x]=insL l p x):=by
 have hg:=hc.gt hn
 have e:jn u x false [] l=jn u x false (l.take p) (l.drop p):=by
  have:=XI u x (l.take p) (l.drop p) [] hc.lo
  rwa [List.take_append_drop,List.nil_append]at this
 rw[e]
 unfold insL
 cases hd:l.drop p with
 |nil=>exact Or.inr ⟨rfl,rfl⟩
 |cons y r=>
  have h1:u<y.1:=hg y (by rw[hd];simp)
  rw[jn,if_pos ⟨rfl,h1⟩,WB]
  exact Or.inl ⟨rfl,by simp⟩
theorem Ou(u:Int)(x:I4):∀ (r o:List I4) (d:Bool),(jn u x d o r).2.length≤o.length+2*r.length
 | [],o,d=>by simp[jn]
 |y::r,o,d=>by
  rw[jn]
  split
  ·have:=Ou u x r ((o++[x])++[y]) true
   simp only[List.length_append,List.length_cons,List.length_nil]at this ⊢
   omega
  ·have:=Ou u x r (o++[y]) d
   simp only[List.length_append,List.length_cons,List.length_nil]at this ⊢
   omega
theorem Xh(a r:List I4)(y:I4):rd (0,0,0,0,()) (a++y::r) (a.length:Int)=y:=by
 rw[bZ,List.getD_eq_getElem?_getD,List.getElem?_append_right (Nat.le_refl _),Nat.sub_self]
 rfl
theorem ac8(R:Type)(k0:Nat)(hx:Bool→Int→Int→Int→Int→Int→Int→Int→Int→Int→List I4→List I4→Option R)(f:Int)(l m:List I4)(e0 id g a b t1 t2 t3 o:Int)(o4:List I4)(hm:m.length≤60):∀ (r pre out:List I4) (d:Bool) (k:Nat),m=pre++r→out.length≤2*pre.length→r.length<k→
  kV.G0 k0 hx k d (pre.length:Int) f l m e0 id g a b t1 t2 t3 o o4 out=hx (jn id (id,g,a,b,()) d out r).1 e0 id g a b t1 t2 t3 o o4 (jn id (id,g,a,b,()) d out r).2:=by
 intro r
 induction r with
 |nil=>
  intro pre out d k hd ho hk
  cases k with
  |zero=>simp at hk
  |succ k=>
   rw[List.append_nil]at hd
   subst hd
   rw[kV.G0,kV.R0,decide_eq_false (by omega),cond_false]
   rfl
 |cons y r ih=>
  intro pre out d k hd ho hk
  cases k with
  |zero=>simp at hk
  |succ k=>
   have hlen:m.length=pre.length+(r.length+1):=by rw[hd];simp
   have hrd:rd (0,0,0,0,()) m (pre.length:Int)=y:=by rw[hd];exact Xh pre r y
   have hw:af ((pre.length:Int)+1)=(((pre++[y]).length:Nat):Int):=(aI _ (by omega)).trans (by simp)
   have hc:(0:Int)≤(pre.length:Int)∧(pre.length:Int)<(m.length:Int):=by omega
   have hk':r.length<k:=by simp only[List.length_cons]at hk;omega
   have hm1:∀ n:Nat,n≤200→n≤maxRow:=fun n hn=>by unfold maxRow;omega
   rw[kV.G0,kV.R0]
   simp only[hrd,hw,if_pos hc,decide_eq_true hc.2,cond_true]
   have ih1:=ih (pre++[y]) ((out++[(id,g,a,b,())])++[y]) true k (by rw[hd];simp) (by simp only[List.length_append,List.length_cons,List.length_nil];omega) hk'
   have ih2:=ih (pre++[y]) (out++[y]) d k (by rw[hd];simp) (by simp only[List.length_append,List.length_cons,List.length_nil];omega) hk'
   have b1:out.length+1≤maxRow:=hm1 _ (by omega)
   have b2:(out++[(id,g,a,b,())]).length+1≤maxRow:=hm1 _ (by simp only[List.length_append,List.length_cons,List.length_nil];omega)
   cases d with
   |true=>
    have e:jn id (id,g,a,b,()) true out (y::r)=jn id (id,g,a,b,()) true (out++[y]) r:=by rw[jn,if_neg (by simp)]
    rw[e]
    simp only[Bool.not_true,cond_false,List.length_cons,List.length_nil,Nat.zero_add]
    rw[if_pos b1]
    exact ih2
   |false=>
    simp only[Bool.not_false,cond_true]
    by_cases h:y.1>id
    ·have e:jn id (id,g,a,b,()) false out (y::r)=jn id (id,g,a,b,()) true ((out++[(id,g,a,b,())])++[y]) r:=by rw[jn,if_pos ⟨rfl,h⟩]
     rw[e,decide_eq_true h,cond_true]
     simp only[List.length_cons,List.length_nil,Nat.zero_add]
     rw[if_pos b1,if_pos b2]
     exact ih1
    ·have e:jn id (id,g,a,b,()) false out (y::r)=jn id (id,g,a,b,()) false (out++[y]) r:=by rw[jn,if_neg (fun hh=>h hh.2)]
     rw[e,decide_eq_false h,cond_false]
     simp only[List.length_cons,List.length_nil,Nat.zero_add]
     rw[if_pos b1]
     exact ih2
end Go.Rv
