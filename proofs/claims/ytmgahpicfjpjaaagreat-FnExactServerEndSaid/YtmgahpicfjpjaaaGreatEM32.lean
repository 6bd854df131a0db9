/- Plain facts: ops0-txt, srv2. -/
import Derived.Test.YtmgahpicfjpjaaaGreatEM31
set_option linter.unusedVariables false
set_option linter.unusedSimpArgs false
set_option linter.unusedSectionVars false
namespace Go.Rv
def bY(n:Int):Bool:=decide (n≥1)&&decide (n≤1000000)
def fJ(n:Int):Bool:=decide (n≥0)&&decide (n≤1125899906842624)
def iO(n:Int):Bool:=decide (n≥1)&&decide (n≤1073741824)
theorem FQ(a b:Bool):cond a (some (b,())) (some (false,()))=some (a&&b,()):=by cases a <;>rfl
theorem BU(n:Int):lq (n,())=some (bY n,()):=FQ _ _
theorem Bq(n:Int):dY (n,())=some (fJ n,()):=FQ _ _
theorem BR(n:Int):fZ (n,())=some (iO n,()):=FQ _ _
theorem Qy(n a b:Int):nH (n,a,b,())=some (decide (a≤n)&&decide (n≤b),()):=FQ _ _
theorem BZ(n:Int):gu (n,())=some (bY n,()):=by show EL.T n=_;rw[EL.T,Qy];rfl
theorem BD(n:Int):je (n,())=some (fJ n,()):=by show Eo.T n=_;rw[Eo.T,Qy];rfl
theorem BX(n:Int):jU (n,())=some (iO n,()):=by show D6.T n=_;rw[D6.T,Qy];rfl
def nV(k i g a b:Int):Bool:=
 if k=1 then bY i&&((g==0)||bY g)&&fJ a&&iO b
 else if k=2 then bY i&&(g==0)&&(a==0)&&(b==0)
 else if k=3 then((i==0)||bY i)&&(g==0)&&fJ a&&(b==0)
 else if k=4 then(i==0)&&(g==0)&&(a==0)&&(b==0)
 else if k=5 then(i==0)&&(g==0)&&(a==0)&&(b==0)
 else if k=6 then bY i&&((g==0)||bY g)&&fJ a&&iO b&&decide (g<i)
 else if k=7 then bY i&&(g==0)&&(a==0)&&(b==0)
 else false
theorem YT(i g a b:Int):o9 (3,i,g,a,b,())=some (8,i,g,a,b,()):=rfl
theorem YS(i g a b:Int):o9 (6,i,g,a,b,())=some (6,i,g,a,b,()):=rfl
theorem YR(i g a b:Int):o9 (7,i,g,a,b,())=some (7,i,g,a,b,()):=rfl
theorem Zd(i g a b:Int):mY (3,i,g,a,b,())=some (8,i,g,a,b,()):=rfl
theorem Zc(i g a b:Int):mY (6,i,g,a,b,())=some (6,i,g,a,b,()):=rfl
theorem Zb(i g a b:Int):mY (7,i,g,a,b,())=some (7,i,g,a,b,()):=rfl
theorem ahL(k i g a b:Int)(h3:k≠3)(h6:k≠6)(h7:k≠7):mY (k,i,g,a,b,())=some (0,i,g,a,b,()):=by
 show Nr.T k i g a b=_
 rw[Nr.T,beq_false_of_ne h3,beq_false_of_ne h6,beq_false_of_ne h7];rfl
theorem YU(i g a b:Int):jF (8,i,g,a,b,())=some (((i==0)||bY i)&&(g==0)&&fJ a&&(b==0),()):=by
 simp only[jF,zW.T,BU,Bq,BR,Option.bind_some,bne]
 cases bY i <;>cases i==0 <;>cases g==0 <;>cases bY g <;>cases fJ a <;>cases iO b <;>cases a==0 <;>cases b==0 <;>rfl
theorem YW(i g a b:Int):jF (6,i,g,a,b,())=some (bY i&&((g==0)||bY g)&&fJ a&&iO b,()):=by
 simp only[jF,zW.T,BU,Bq,BR,Option.bind_some,bne]
 cases bY i <;>cases i==0 <;>cases g==0 <;>cases bY g <;>cases fJ a <;>cases iO b <;>cases a==0 <;>cases b==0 <;>rfl
theorem YV(i g a b:Int):jF (7,i,g,a,b,())=some (bY i&&(g==0)&&(a==0)&&(b==0),()):=by
 simp only[jF,zW.T,BU,Bq,BR,Option.bind_some,bne]
 cases bY i <;>cases i==0 <;>cases g==0 <;>cases bY g <;>cases fJ a <;>cases iO b <;>cases a==0 <;>cases b==0 <;>rfl
theorem ahM(i g a b:Int):oV (8,i,g,a,b,())=some (((i==0)||bY i)&&(g==0)&&fJ a&&(b==0),()):=by
 simp only[oV,zY.T,BZ,BD,BX,Option.bind_some,bne]
 cases bY i <;>cases i==0 <;>cases g==0 <;>cases bY g <;>cases fJ a <;>cases iO b <;>cases a==0 <;>cases b==0 <;>rfl
theorem ahO(i g a b:Int):oV (6,i,g,a,b,())=some (bY i&&((g==0)||bY g)&&fJ a&&iO b,()):=by
 simp only[oV,zY.T,BZ,BD,BX,Option.bind_some,bne]
 cases bY i <;>cases i==0 <;>cases g==0 <;>cases bY g <;>cases fJ a <;>cases iO b <;>cases a==0 <;>cases b==0 <;>rfl
theorem ahN(i g a b:Int):oV (7,i,g,a,b,())=some (bY i&&(g==0)&&(a==0)&&(b==0),()):=by
 simp only[oV,zY.T,BZ,BD,BX,Option.bind_some,bne]
 cases bY i <;>cases i==0 <;>cases g==0 <;>cases bY g <;>cases fJ a <;>cases iO b <;>cases a==0 <;>cases b==0 <;>rfl
theorem ahP(i g a b:Int):oV (0,i,g,a,b,())=some (false,()):=by
 simp only[oV,zY.T,BZ,BD,BX,Option.bind_some,bne]
 cases bY i <;>cases i==0 <;>cases g==0 <;>cases bY g <;>cases fJ a <;>cases iO b <;>cases a==0 <;>cases b==0 <;>rfl
theorem Ya(k i g a b:Int):Ej (k,i,g,a,b,())=some (nV k i g a b,()):=by
 simp only[Ej,Vd.T,BU,Bq,BR,Option.bind_some]
 unfold nV
 by_cases k1:k=1
 ·subst k1
  cases bY i <;>cases g==0 <;>cases bY g <;>cases fJ a <;>rfl
 by_cases k2:k=2
 ·subst k2
  cases bY i <;>cases g==0 <;>cases a==0 <;>cases b==0 <;>rfl
 by_cases k3:k=3
 ·subst k3
  simp only[bne,beq_self_eq_true,YT,YU,Option.bind_some]
  cases bY i <;>cases i==0 <;>cases g==0 <;>cases bY g <;>cases fJ a <;>cases b==0 <;>rfl
 by_cases k4:k=4
 ·subst k4
  cases i==0 <;>cases g==0 <;>cases a==0 <;>cases b==0 <;>rfl
 by_cases k5:k=5
 ·subst k5
  cases i==0 <;>cases g==0 <;>cases a==0 <;>cases b==0 <;>rfl
 by_cases k6:k=6
 ·subst k6
  simp only[bne,beq_self_eq_true,YS,YW,Option.bind_some]
  cases bY i <;>cases g==0 <;>cases bY g <;>cases fJ a <;>cases iO b <;>cases decide (g<i) <;>rfl
 by_cases k7:k=7
 ·subst k7
  simp only[bne,beq_self_eq_true,YR,YV,Option.bind_some]
  cases bY i <;>cases g==0 <;>cases bY g <;>cases a==0 <;>cases b==0 <;>rfl
 rw[if_neg k1,if_neg k2,if_neg k3,if_neg k4,if_neg k5,if_neg k6,if_neg k7]
 rw[beq_false_of_ne k1,beq_false_of_ne k2,beq_false_of_ne k3,beq_false_of_ne k4,beq_false_of_ne k5,beq_false_of_ne k6,beq_false_of_ne k7]
 rfl
theorem Yq(k i g a b:Int):Ac (k,i,g,a,b,())=some (nV k i g a b,()):=by
 simp only[Ac,Uy.T,BZ,BD,BX,Option.bind_some,Nl,UQ.T]
 unfold nV
 by_cases k1:k=1
 ·subst k1
  cases bY i <;>cases g==0 <;>cases bY g <;>cases fJ a <;>rfl
 by_cases k2:k=2
 ·subst k2
  simp only[beq_self_eq_true]
  cases bY i <;>cases g==0 <;>cases a==0 <;>cases b==0 <;>rfl
 by_cases k3:k=3
 ·subst k3
  simp only[bne,beq_self_eq_true,Zd,ahM,Option.bind_some]
  cases bY i <;>cases i==0 <;>cases g==0 <;>cases bY g <;>cases fJ a <;>cases b==0 <;>rfl
 by_cases k4:k=4
 ·subst k4
  simp only[beq_self_eq_true]
  cases i==0 <;>cases g==0 <;>cases a==0 <;>cases b==0 <;>rfl
 by_cases k5:k=5
 ·subst k5
  simp only[beq_self_eq_true]
  cases i==0 <;>cases g==0 <;>cases a==0 <;>cases b==0 <;>rfl
 by_cases k6:k=6
 ·subst k6
  simp only[bne,beq_self_eq_true,Zc,ahO,Option.bind_some]
  cases bY i <;>cases g==0 <;>cases bY g <;>cases fJ a <;>cases iO b <;>cases decide (g<i) <;>rfl
 by_cases k7:k=7
 ·subst k7
  simp only[bne,beq_self_eq_true,Zb,ahN,Option.bind_some]
  cases bY i <;>cases g==0 <;>cases bY g <;>cases a==0 <;>cases b==0 <;>rfl
 rw[if_neg k1,if_neg k2,if_neg k3,if_neg k4,if_neg k5,if_neg k6,if_neg k7]
 rw[beq_false_of_ne k1,beq_false_of_ne k2,beq_false_of_ne k4,beq_false_of_ne k5]
 rw[ahL k i g a b k3 k6 k7,Option.bind_some,ahP]
 rfl
theorem aez(R:Type)(k0:Nat)(hx:Bool→Int→Int→Int→Int→Int→Int→Int→Int→Int→List I4→List I4→Option R)(f:Int)(l m:List I4)(e0 id g a b t1 t2 t3 o:Int)(o5:List I4)(hm:l.length≤60):∀ (r pre out:List I4) (d:Bool) (k:Nat),l=pre++r→out.length≤2*pre.length→r.length<k→
  iQ.G0 k0 hx k d (pre.length:Int) f l m e0 id g a b t1 t2 t3 o out o5=hx (jn id (id,g,a,b,()) d out r).1 e0 id g a b t1 t2 t3 o (jn id (id,g,a,b,()) d out r).2 o5:=by
 intro r
 induction r with
 |nil=>
  intro pre out d k hd ho hk
  cases k with
  |zero=>simp at hk
  |succ k=>
   rw[List.append_nil]at hd
   subst hd
   rw[iQ.G0,iQ.R0,decide_eq_false (by omega),cond_false]
   rfl
 |cons y r ih=>
  intro pre out d k hd ho hk
  cases k with
  |zero=>simp at hk
  |succ k=>
   have hlen:l.length=pre.length+(r.length+1):=by rw[hd];simp
   have hrd:rd (0,0,0,0,()) l (pre.length:Int)=y:=by rw[hd];exact Yf pre r y
   have hw:af ((pre.length:Int)+1)=(((pre++[y]).length:Nat):Int):=(aH _ (by omega)).trans (by simp)
   have hc:(0:Int)≤(pre.length:Int)∧(pre.length:Int)<(l.length:Int):=by omega
   have hk':r.length<k:=by simp only[List.length_cons]at hk;omega
   have hm1:∀ n:Nat,n≤200→n≤maxRow:=fun n hn=>by unfold maxRow;omega
   rw[iQ.G0,iQ.R0]
   simp only[hrd,hw,if_pos hc,decide_eq_true hc.2,cond_true]
   have ih1:=ih (pre++[y]) ((out++[(id,g,a,b,())])++[y]) true k (by rw[hd];simp) (by simp only[List.length_append,List.length_cons,List.length_nil];omega) hk'
   have ih2:=ih (pre++[y]) (out++[y]) d k (by rw[hd];simp) (by simp only[List.length_append,List.length_cons,List.length_nil];omega) hk'
   have b1:out.length+1≤maxRow:=hm1 _ (by omega)
   have b2:(out++[(id,g,a,b,())]).length+1≤maxRow:=hm1 _ (by simp only[List.length_append,List.length_cons,List.length_nil];omega)
   cases d with
   |true=>
    have e:jn id (id,g,a,b,()) true out (y::r)=jn id (id,g,a,b,()) true (out++[y]) r:=by rw[jn,if_neg (by simp)]
    rw[e]
    simp only[Bool.not_true,cond_false,List.length_cons,List.length_nil,Nat.zero_add]
    rw[if_pos b1]
    exact ih2
   |false=>
    simp only[Bool.not_false,cond_true]
    by_cases h:y.1>id
    ·have e:jn id (id,g,a,b,()) false out (y::r)=jn id (id,g,a,b,()) true ((out++[(id,g,a,b,())])++[y]) r:=by rw[jn,if_pos ⟨rfl,h⟩]
     rw[e,decide_eq_true h,cond_true]
     simp only[List.length_cons,List.length_nil,Nat.zero_add]
     rw[if_pos b1,if_pos b2]
     exact ih1
    ·have e:jn id (id,g,a,b,()) false out (y::r)=jn id (id,g,a,b,()) false (out++[y]) r:=by rw[jn,if_neg (fun hh=>h hh.2)]
     rw[e,decide_eq_false h,cond_false]
     simp only[List.length_cons,List.length_nil,Nat.zero_add]
     rw[if_pos b1]
     exact ih2
theorem qY(c:Int)(l m:List I4)(hl:l.length≤1048576)(hm:m.length≤1048576):pq (c,l,m,())=some (c,l,m,()):=by
 simp only[pq,Uj.T,List.length_nil,Nat.zero_add,List.nil_append]
 rw[if_pos (by unfold maxRow;omega),if_pos (by unfold maxRow;omega)]
theorem su(k:Int):ji (k,())=some (0,[],[],0,k,()):=rfl
theorem XJ(u:Int)(x:I4)(r:List I4)(h:r.length≤60)(n:Nat)(hn:n≤1):(jn u x false [] r).2.length+n≤maxRow:=by
 have:=PU u x r [] false
 simp only[List.length_nil]at this
 unfold maxRow
 omega
theorem Wj{c:Int}{l m:List I4}(h:jZ c l m)(id g a b:Int)(p:Nat)(hc:Cut k4 m id p)(hn:¬ bT k4 m id)(hg:g=0∨bT k4 l g):
  (m.length<60→DT (c,l,m,1,id,g,a,b,())=some (c,l,insL m p (id,g,a,b,()),0,0,()))∧(60≤m.length→DT (c,l,m,1,id,g,a,b,())=some (0,[],[],0,6,())):=by
 have hl:=h.ll
 have hm:=h.lm
 have e1:=(Np c l m id (by omega) h.rm p hc).2 hn
 have hgr:g≠0→∃ q:Nat,jG (c,l,m,g,())=some ((q:Int),()):=fun h0=>by
  obtain⟨q,hq,_⟩:=xu c l m g (by omega) h.rl
  exact⟨q,(xq c l m g (by omega) h.rl q hq).1 (hg.resolve_left h0)⟩
 have loop:=afc (Int×List I4×List I4×Int×Int×Unit) (300+l.length+m.length) (kF.A0 c l m 1 id g a b) c l m 1 id g a b 0 0 0 c l (by omega) m [] [] false (300+l.length+m.length) rfl (by simp) (by omega)
 have fin:kF.A0 c l m 1 id g a b (jn id (id,g,a,b,()) false [] m).1 1 id g a b 0 0 0 c l (jn id (id,g,a,b,()) false [] m).2=some (c,l,insL m p (id,g,a,b,()),0,0,()):=by
  rcases Yn id (id,g,a,b,()) m p hc hn with ⟨j1,j2⟩ | ⟨j1,j2⟩
  ·rw[j1,j2];rfl
  ·rw[kF.A0,j1]
   simp only[Bool.not_false,cond_true,List.length_cons,List.length_nil,Nat.zero_add]
   rw[if_pos (XJ id _ m hm 1 (Nat.le_refl _)),j2]
 constructor
 ·intro h60
  show kF.FF _ c l m 1 id g a b=_
  simp only[kF.FF,kF.T,e1,Option.bind_some,qY c l m (by omega) (by omega)]
  rw[decide_eq_false (by omega),cond_false,decide_eq_false (by omega),cond_false]
  by_cases h0:g=0
  ·subst h0
   exact loop.trans fin
  ·obtain⟨q,hq⟩:=hgr h0
   rw[bne_iff_ne.2 h0,cond_true,hq,Option.bind_some,decide_eq_false (by omega),cond_false]
   exact loop.trans fin
 ·intro h60
  show kF.FF _ c l m 1 id g a b=_
  simp only[kF.FF,kF.T,e1,Option.bind_some,su]
  rw[decide_eq_false (by omega),cond_false,decide_eq_true (by omega),cond_true]
  by_cases h0:g=0
  ·subst h0
   rfl
  ·obtain⟨q,hq⟩:=hgr h0
   rw[bne_iff_ne.2 h0,cond_true,hq,Option.bind_some,decide_eq_false (by omega),cond_false]
theorem afH{c:Int}{l m:List I4}(h:jZ c l m)(id g a b:Int)(hlt:g<id)(p:Nat)(hc:Cut k4 l id p):
  (bT k4 l id→uJ (c,l,m,6,id,g,a,b,())=some (0,[],[],0,5,()))∧
  (¬ bT k4 l id→g≠0→¬ bT k4 l g→uJ (c,l,m,6,id,g,a,b,())=some (0,[],[],0,4,()))∧
  (¬ bT k4 l id→(g=0∨bT k4 l g)→30≤l.length→uJ (c,l,m,6,id,g,a,b,())=some (0,[],[],0,6,()))∧
  (¬ bT k4 l id→(g=0∨bT k4 l g)→l.length<30→uJ (c,l,m,6,id,g,a,b,())=some (c,insL l p (id,g,a,b,()),m,0,0,())):=by
 have hl:=h.ll
 have hm:=h.lm
 obtain⟨e0,e1⟩:=xq c l m id (by omega) h.rl p hc
 obtain⟨q,hq,_⟩:=xu c l m g (by omega) h.rl
 obtain⟨q0,q1⟩:=xq c l m g (by omega) h.rl q hq
 refine⟨fun hi=> ?_,fun hi h0 hg=> ?_,fun hi hg h30=> ?_,fun hi hg h30=> ?_⟩
 ·show iQ.FF _ c l m 6 id g a b=_
  simp only[iQ.FF,iQ.T,e0 hi,Option.bind_some,su]
  rw[decide_eq_false (by omega),cond_false,decide_eq_true (by omega),cond_true]
 ·show iQ.FF _ c l m 6 id g a b=_
  simp only[iQ.FF,iQ.T,e1 hi,q1 hg,Option.bind_some,su]
  rw[decide_eq_false (by omega),cond_false,decide_eq_false (by omega),cond_false,bne_iff_ne.2 h0,cond_true,decide_eq_true (by omega),cond_true]
 ·show iQ.FF _ c l m 6 id g a b=_
  simp only[iQ.FF,iQ.T,e1 hi,Option.bind_some,su]
  rw[decide_eq_false (by omega),cond_false,decide_eq_false (by omega),cond_false,decide_eq_true (by omega),cond_true]
  by_cases h0:g=0
  ·subst h0
   rfl
  ·rw[bne_iff_ne.2 h0,cond_true,q0 (hg.resolve_left h0),Option.bind_some,decide_eq_false (by omega),cond_false]
 ·have loop:=aez (Int×List I4×List I4×Int×Int×Unit) (300+l.length+m.length) (iQ.A0 c l m 6 id g a b) c l m 6 id g a b 0 0 0 c m (by omega) l [] [] false (300+l.length+m.length) rfl (by simp) (by omega)
  have fin:iQ.A0 c l m 6 id g a b (jn id (id,g,a,b,()) false [] l).1 6 id g a b 0 0 0 c (jn id (id,g,a,b,()) false [] l).2 m=some (c,insL l p (id,g,a,b,()),m,0,0,()):=by
   rcases Yn id (id,g,a,b,()) l p hc hi with ⟨j1,j2⟩ | ⟨j1,j2⟩
   ·rw[j1,j2];rfl
   ·rw[iQ.A0,j1]
    simp only[Bool.not_false,cond_true,List.length_cons,List.length_nil,Nat.zero_add]
    rw[if_pos (XJ id _ l (by omega) 1 (Nat.le_refl _)),j2]
  show iQ.FF _ c l m 6 id g a b=_
  simp only[iQ.FF,iQ.T,e1 hi,Option.bind_some,qY c l m (by omega) (by omega)]
  rw[decide_eq_false (by omega),cond_false,decide_eq_false (by omega),cond_false,decide_eq_false (by omega),cond_false]
  by_cases h0:g=0
  ·subst h0
   exact loop.trans fin
  ·rw[bne_iff_ne.2 h0,cond_true,q0 (hg.resolve_left h0),Option.bind_some,decide_eq_false (by omega),cond_false]
   exact loop.trans fin
theorem ahI(l:List I4)(p:Nat)(x:I4)(hp:p≤l.length)(hl:l.length≤1048576):mD (l,(p:Int),[x],())=some (insL l p x,()):=
 if_pos ⟨Int.natCast_nonneg p,by show(p:Int)≤l.length;omega,hl⟩
theorem ahH(l:List I4)(p:Nat)(x:I4)(hp:p≤l.length)(hl:l.length≤1048576):lQ (l,(p:Int),[x],())=some (insL l p x,()):=
 if_pos ⟨Int.natCast_nonneg p,by show(p:Int)≤l.length;omega,hl⟩
def wz(c:Int)(l m:List I4)(k id g a b:Int):Prop:=∃ (code c':Int) (l':List I4),mM (c,l,m,k,id,g,a,b,())=some (code,c',l',m,())∧0≤code∧
 (code=0→jZ c' l' m∧jT (c,l,m,k,id,g,a,b,())=some (c',l',m,0,0,()))∧(code≠0→c'=c∧l'=l∧jT (c,l,m,k,id,g,a,b,())=some (0,[],[],0,code,()))
theorem F9{n:Int}:bY n=true↔gY n:=by unfold bY gY;simp
theorem FC{n:Int}:fJ n=true↔dN n:=by unfold fJ dN;simp
theorem Qw{n:Int}:iO n=true↔jy n:=by unfold iO jy;simp
theorem Qj{c:Int}{l m:List I4}(h:jZ c l m)(g:Int):mF (c,l,m,g,())=some (bb (g=0∨bT k4 l g),()):=by
 rw[P6 c l m g (by have:=h.ll;omega) (NR h.rl)]
 rw[lC (or_congr Iff.rfl oN)]
theorem OZ{l:List I4}{p:Nat}{x:I4}{u:Int}(h:bT k4 l u):bT k4 (insL l p x) u:=by
 obtain⟨y,hy,hu⟩:=h
 exact⟨y,(EP l p x y).2 (Or.inr hy),hu⟩
theorem ahq{c:Int}{l m:List I4}(h:jZ c l m)(id g a b:Int)(hop:(bY id&&((g==0)||bY g)&&fJ a&&iO b&&decide (g<id))=true):wz c l m 6 id g a b:=by
 simp only[Bool.and_eq_true,Bool.or_eq_true,beq_iff_eq,decide_eq_true_eq,F9,FC,Qw]at hop
 obtain⟨⟨⟨⟨o1,o2⟩,o3⟩,o4⟩,o5⟩:=hop
 have hl:=h.ll
 have hm:=h.lm
 obtain⟨p,hc,hG⟩:=xu c l m id (by omega) h.rl
 obtain⟨pm,_,hM⟩:=Af c l m id (by omega) h.rm
 obtain⟨g1,g2,g3,g4⟩:=afH h id g a b o5 p hc
 have er:jF (6,id,g,a,b,())=some (true,()):=by
  rw[YW]
  congr 2
  simp only[Bool.and_eq_true,Bool.or_eq_true,beq_iff_eq,F9,FC,Qw]
  exact⟨⟨⟨o1,o2⟩,o3⟩,o4⟩
 have sE:jT (c,l,m,6,id,g,a,b,())=(uJ (c,l,m,6,id,g,a,b,())).bind fun y=>some (y.1,y.2.1,y.2.2.1,y.2.2.2.1,y.2.2.2.2.1,()):=by
  simp only[jT,wY.T,vw c l m (by omega) (by omega),er,qY c l m (by omega) (by omega),Option.bind_some,dH (vS.2 h)]
  rfl
 have iE:mM (c,l,m,6,id,g,a,b,())=(wK (c,l,m,6,id,g,a,b,())).bind fun y=>some (y.1,y.2.1,y.2.2.1,y.2.2.2.1,()):=by
  simp only[mM,DL.T,hG,hM,Option.bind_some]
  rfl
 have iC:wK (c,l,m,6,id,g,a,b,())=cond (bb (bT k4 l id)) (some (5,c,l,m,())) (cond (!bb (g=0∨bT k4 l g)) (some (4,c,l,m,())) (cond ((l.length:Int)==30) (some (6,c,l,m,())) ((mD (l,(p:Int),[(id,g,a,b,())],())).bind fun y=>some (0,c,y.1,m,())))):=by
  simp only[wK,SV.T,hG,hM,Qj h,Option.bind_some]
  rfl
 unfold wz
 rw[sE,iE,iC]
 by_cases hi:bT k4 l id
 ·rw[dH hi,g1 hi]
  exact⟨5,c,l,rfl,by omega,fun h=>by omega,fun _=>⟨rfl,rfl,rfl⟩⟩
 rw[eY hi]
 by_cases hg:g=0∨bT k4 l g
 ·rw[dH hg]
  by_cases h30:30≤l.length
  ·have:l.length=30:=by omega
   rw[g3 hi hg h30,this]
   exact⟨6,c,l,rfl,by omega,fun h=>by omega,fun _=>⟨rfl,rfl,rfl⟩⟩
  ·rw[g4 hi hg (by omega),beq_false_of_ne (by omega),ahI l p _ hc.le (by omega)]
   refine⟨0,c,_,rfl,by omega,fun _=>⟨⟨h.cap,by rw[AL _ _ _ hc.le];omega,hm,WJ h.rl hc hi,h.rm,fun x hx=> ?_,fun x hx=> ?_⟩,rfl⟩,fun h=>absurd rfl h⟩
   ·rcases(EP l p _ x).1 hx with rfl |hx
    ·refine⟨o1, ?_,o3,o4⟩
     rcases hg with hg |hg
     ·exact Or.inl hg
     ·exact Or.inr ⟨OZ hg,o5⟩
    ·obtain⟨q1,q2,q3,q4⟩:=h.gl x hx
     exact⟨q1,q2.imp (fun h=>h) (fun h=>⟨OZ h.1,h.2⟩),q3,q4⟩
   ·obtain⟨q1,q2,q3,q4⟩:=h.gm x hx
    exact⟨q1,q2.imp (fun h=>h) OZ,q3,q4⟩
 ·rw[eY hg]
  have hg':g≠0∧¬ bT k4 l g:=not_or.1 hg
  rw[g2 hi hg'.1 hg'.2]
  exact⟨4,c,l,rfl,by omega,fun h=>by omega,fun _=>⟨rfl,rfl,rfl⟩⟩
end Go.Rv
