/- Plain facts: ops0-txt, srv2. -/
import Derived.Test.YtjknhphmhfbghaaGreatFM31
set_option linter.unusedVariables false
set_option linter.unusedSimpArgs false
set_option linter.unusedSectionVars false
namespace Go.Rv
def bW(n:Int):Bool:=decide (n≥1)&&decide (n≤1000000)
def fQ(n:Int):Bool:=decide (n≥0)&&decide (n≤1125899906842624)
def iY(n:Int):Bool:=decide (n≥1)&&decide (n≤1073741824)
theorem Fj(a b:Bool):cond a (some (b,())) (some (false,()))=some (a&&b,()):=by cases a <;>rfl
theorem BV(n:Int):lM (n,())=some (bW n,()):=Fj _ _
theorem yC(n:Int):eG (n,())=some (fQ n,()):=Fj _ _
theorem BU(n:Int):gG (n,())=some (iY n,()):=Fj _ _
theorem FP(n a b:Int):mr (n,a,b,())=some (decide (a≤n)&&decide (n≤b),()):=Fj _ _
theorem BZ(n:Int):gI (n,())=some (bW n,()):=by show Ep.T n=_;rw[Ep.T,FP];rfl
theorem yG(n:Int):jc (n,())=some (fQ n,()):=by show D9.T n=_;rw[D9.T,FP];rfl
theorem BX(n:Int):kG (n,())=some (iY n,()):=by show DT.T n=_;rw[DT.T,FP];rfl
def oU(k i g a b:Int):Bool:=
 if k=1 then bW i&&((g==0)||bW g)&&fQ a&&iY b
 else if k=2 then bW i&&(g==0)&&(a==0)&&(b==0)
 else if k=3 then((i==0)||bW i)&&(g==0)&&fQ a&&(b==0)
 else if k=4 then(i==0)&&(g==0)&&(a==0)&&(b==0)
 else if k=5 then(i==0)&&(g==0)&&(a==0)&&(b==0)
 else if k=6 then bW i&&((g==0)||bW g)&&fQ a&&iY b&&decide (g<i)
 else if k=7 then bW i&&(g==0)&&(a==0)&&(b==0)
 else false
theorem XV(i g a b:Int):pI (3,i,g,a,b,())=some (8,i,g,a,b,()):=rfl
theorem XU(i g a b:Int):pI (6,i,g,a,b,())=some (6,i,g,a,b,()):=rfl
theorem XT(i g a b:Int):pI (7,i,g,a,b,())=some (7,i,g,a,b,()):=rfl
theorem X7(i g a b:Int):nC (3,i,g,a,b,())=some (8,i,g,a,b,()):=rfl
theorem X6(i g a b:Int):nC (6,i,g,a,b,())=some (6,i,g,a,b,()):=rfl
theorem X5(i g a b:Int):nC (7,i,g,a,b,())=some (7,i,g,a,b,()):=rfl
theorem afA(k i g a b:Int)(h3:k≠3)(h6:k≠6)(h7:k≠7):nC (k,i,g,a,b,())=some (0,i,g,a,b,()):=by
 show Lr.T k i g a b=_
 rw[Lr.T,beq_false_of_ne h3,beq_false_of_ne h6,beq_false_of_ne h7];rfl
theorem XW(i g a b:Int):jT (8,i,g,a,b,())=some (((i==0)||bW i)&&(g==0)&&fQ a&&(b==0),()):=by
 simp only[jT,zY.T,BV,yC,BU,Option.bind_some,bne]
 cases bW i <;>cases i==0 <;>cases g==0 <;>cases bW g <;>cases fQ a <;>cases iY b <;>cases a==0 <;>cases b==0 <;>rfl
theorem XZ(i g a b:Int):jT (6,i,g,a,b,())=some (bW i&&((g==0)||bW g)&&fQ a&&iY b,()):=by
 simp only[jT,zY.T,BV,yC,BU,Option.bind_some,bne]
 cases bW i <;>cases i==0 <;>cases g==0 <;>cases bW g <;>cases fQ a <;>cases iY b <;>cases a==0 <;>cases b==0 <;>rfl
theorem XY(i g a b:Int):jT (7,i,g,a,b,())=some (bW i&&(g==0)&&(a==0)&&(b==0),()):=by
 simp only[jT,zY.T,BV,yC,BU,Option.bind_some,bne]
 cases bW i <;>cases i==0 <;>cases g==0 <;>cases bW g <;>cases fQ a <;>cases iY b <;>cases a==0 <;>cases b==0 <;>rfl
theorem afB(i g a b:Int):pq (8,i,g,a,b,())=some (((i==0)||bW i)&&(g==0)&&fQ a&&(b==0),()):=by
 simp only[pq,Ac.T,BZ,yG,BX,Option.bind_some,bne]
 cases bW i <;>cases i==0 <;>cases g==0 <;>cases bW g <;>cases fQ a <;>cases iY b <;>cases a==0 <;>cases b==0 <;>rfl
theorem afD(i g a b:Int):pq (6,i,g,a,b,())=some (bW i&&((g==0)||bW g)&&fQ a&&iY b,()):=by
 simp only[pq,Ac.T,BZ,yG,BX,Option.bind_some,bne]
 cases bW i <;>cases i==0 <;>cases g==0 <;>cases bW g <;>cases fQ a <;>cases iY b <;>cases a==0 <;>cases b==0 <;>rfl
theorem afC(i g a b:Int):pq (7,i,g,a,b,())=some (bW i&&(g==0)&&(a==0)&&(b==0),()):=by
 simp only[pq,Ac.T,BZ,yG,BX,Option.bind_some,bne]
 cases bW i <;>cases i==0 <;>cases g==0 <;>cases bW g <;>cases fQ a <;>cases iY b <;>cases a==0 <;>cases b==0 <;>rfl
theorem afE(i g a b:Int):pq (0,i,g,a,b,())=some (false,()):=by
 simp only[pq,Ac.T,BZ,yG,BX,Option.bind_some,bne]
 cases bW i <;>cases i==0 <;>cases g==0 <;>cases bW g <;>cases fQ a <;>cases iY b <;>cases a==0 <;>cases b==0 <;>rfl
theorem Ol(k i g a b:Int):D6 (k,i,g,a,b,())=some (oU k i g a b,()):=by
 simp only[D6,TU.T,BV,yC,BU,Option.bind_some]
 unfold oU
 by_cases k1:k=1
 ·subst k1
  cases bW i <;>cases g==0 <;>cases bW g <;>cases fQ a <;>rfl
 by_cases k2:k=2
 ·subst k2
  cases bW i <;>cases g==0 <;>cases a==0 <;>cases b==0 <;>rfl
 by_cases k3:k=3
 ·subst k3
  simp only[bne,beq_self_eq_true,XV,XW,Option.bind_some]
  cases bW i <;>cases i==0 <;>cases g==0 <;>cases bW g <;>cases fQ a <;>cases b==0 <;>rfl
 by_cases k4:k=4
 ·subst k4
  cases i==0 <;>cases g==0 <;>cases a==0 <;>cases b==0 <;>rfl
 by_cases k5:k=5
 ·subst k5
  cases i==0 <;>cases g==0 <;>cases a==0 <;>cases b==0 <;>rfl
 by_cases k6:k=6
 ·subst k6
  simp only[bne,beq_self_eq_true,XU,XZ,Option.bind_some]
  cases bW i <;>cases g==0 <;>cases bW g <;>cases fQ a <;>cases iY b <;>cases decide (g<i) <;>rfl
 by_cases k7:k=7
 ·subst k7
  simp only[bne,beq_self_eq_true,XT,XY,Option.bind_some]
  cases bW i <;>cases g==0 <;>cases bW g <;>cases a==0 <;>cases b==0 <;>rfl
 rw[if_neg k1,if_neg k2,if_neg k3,if_neg k4,if_neg k5,if_neg k6,if_neg k7]
 rw[beq_false_of_ne k1,beq_false_of_ne k2,beq_false_of_ne k3,beq_false_of_ne k4,beq_false_of_ne k5,beq_false_of_ne k6,beq_false_of_ne k7]
 rfl
theorem EU(k i g a b:Int):DR (k,i,g,a,b,())=some (oU k i g a b,()):=by
 simp only[DR,Ti.T,BZ,yG,BX,Option.bind_some,Ll,TI.T]
 unfold oU
 by_cases k1:k=1
 ·subst k1
  cases bW i <;>cases g==0 <;>cases bW g <;>cases fQ a <;>rfl
 by_cases k2:k=2
 ·subst k2
  simp only[beq_self_eq_true]
  cases bW i <;>cases g==0 <;>cases a==0 <;>cases b==0 <;>rfl
 by_cases k3:k=3
 ·subst k3
  simp only[bne,beq_self_eq_true,X7,afB,Option.bind_some]
  cases bW i <;>cases i==0 <;>cases g==0 <;>cases bW g <;>cases fQ a <;>cases b==0 <;>rfl
 by_cases k4:k=4
 ·subst k4
  simp only[beq_self_eq_true]
  cases i==0 <;>cases g==0 <;>cases a==0 <;>cases b==0 <;>rfl
 by_cases k5:k=5
 ·subst k5
  simp only[beq_self_eq_true]
  cases i==0 <;>cases g==0 <;>cases a==0 <;>cases b==0 <;>rfl
 by_cases k6:k=6
 ·subst k6
  simp only[bne,beq_self_eq_true,X6,afD,Option.bind_some]
  cases bW i <;>cases g==0 <;>cases bW g <;>cases fQ a <;>cases iY b <;>cases decide (g<i) <;>rfl
 by_cases k7:k=7
 ·subst k7
  simp only[bne,beq_self_eq_true,X5,afC,Option.bind_some]
  cases bW i <;>cases g==0 <;>cases bW g <;>cases a==0 <;>cases b==0 <;>rfl
 rw[if_neg k1,if_neg k2,if_neg k3,if_neg k4,if_neg k5,if_neg k6,if_neg k7]
 rw[beq_false_of_ne k1,beq_false_of_ne k2,beq_false_of_ne k4,beq_false_of_ne k5]
 rw[afA k i g a b k3 k6 k7,Option.bind_some,afE]
 rfl
theorem acC(R:Type)(k0:Nat)(hx:Bool→Int→Int→Int→Int→Int→Int→Int→Int→Int→List I4→List I4→Option R)(f:Int)(l m:List I4)(e0 id g a b t1 t2 t3 o:Int)(o5:List I4)(hm:l.length≤60):∀ (r pre out:List I4) (d:Bool) (k:Nat),l=pre++r→out.length≤2*pre.length→r.length<k→
  jb.G0 k0 hx k d (pre.length:Int) f l m e0 id g a b t1 t2 t3 o out o5=hx (jn id (id,g,a,b,()) d out r).1 e0 id g a b t1 t2 t3 o (jn id (id,g,a,b,()) d out r).2 o5:=by
 intro r
 induction r with
 |nil=>
  intro pre out d k hd ho hk
  cases k with
  |zero=>simp at hk
  |succ k=>
   rw[List.append_nil]at hd
   subst hd
   rw[jb.G0,jb.R0,decide_eq_false (by omega),cond_false]
   rfl
 |cons y r ih=>
  intro pre out d k hd ho hk
  cases k with
  |zero=>simp at hk
  |succ k=>
   have hlen:l.length=pre.length+(r.length+1):=by rw[hd];simp
   have hrd:rd (0,0,0,0,()) l (pre.length:Int)=y:=by rw[hd];exact Xh pre r y
   have hw:af ((pre.length:Int)+1)=(((pre++[y]).length:Nat):Int):=(aI _ (by omega)).trans (by simp)
   have hc:(0:Int)≤(pre.length:Int)∧(pre.length:Int)<(l.length:Int):=by omega
   have hk':r.length<k:=by simp only[List.length_cons]at hk;omega
   have hm1:∀ n:Nat,n≤200→n≤maxRow:=fun n hn=>by unfold maxRow;omega
   rw[jb.G0,jb.R0]
   simp only[hrd,hw,if_pos hc,decide_eq_true hc.2,cond_true]
   have ih1:=ih (pre++[y]) ((out++[(id,g,a,b,())])++[y]) true k (by rw[hd];simp) (by simp only[List.length_append,List.length_cons,List.length_nil];omega) hk'
   have ih2:=ih (pre++[y]) (out++[y]) d k (by rw[hd];simp) (by simp only[List.length_append,List.length_cons,List.length_nil];omega) hk'
   have b1:out.length+1≤maxRow:=hm1 _ (by omega)
   have b2:(out++[(id,g,a,b,())]).length+1≤maxRow:=hm1 _ (by simp only[List.length_append,List.length_cons,List.length_nil];omega)
   cases d with
   |true=>
    have e:jn id (id,g,a,b,()) true out (y::r)=jn id (id,g,a,b,()) true (out++[y]) r:=by rw[jn,if_neg (by simp)]
    rw[e]
    simp only[Bool.not_true,cond_false,List.length_cons,List.length_nil,Nat.zero_add]
    rw[if_pos b1]
    exact ih2
   |false=>
    simp only[Bool.not_false,cond_true]
    by_cases h:y.1>id
    ·have e:jn id (id,g,a,b,()) false out (y::r)=jn id (id,g,a,b,()) true ((out++[(id,g,a,b,())])++[y]) r:=by rw[jn,if_pos ⟨rfl,h⟩]
     rw[e,decide_eq_true h,cond_true]
     simp only[List.length_cons,List.length_nil,Nat.zero_add]
     rw[if_pos b1,if_pos b2]
     exact ih1
    ·have e:jn id (id,g,a,b,()) false out (y::r)=jn id (id,g,a,b,()) false (out++[y]) r:=by rw[jn,if_neg (fun hh=>h hh.2)]
     rw[e,decide_eq_false h,cond_false]
     simp only[List.length_cons,List.length_nil,Nat.zero_add]
     rw[if_pos b1]
     exact ih2
theorem qY(c:Int)(l m:List I4)(hl:l.length≤1048576)(hm:m.length≤1048576):pJ (c,l,m,())=some (c,l,m,()):=by
 simp only[pJ,SL.T,List.length_nil,Nat.zero_add,List.nil_append]
 rw[if_pos (by unfold maxRow;omega),if_pos (by unfold maxRow;omega)]
theorem sD(k:Int):jB (k,())=some (0,[],[],0,k,()):=rfl
theorem WC(u:Int)(x:I4)(r:List I4)(h:r.length≤60)(n:Nat)(hn:n≤1):(jn u x false [] r).2.length+n≤maxRow:=by
 have:=Ou u x r [] false
 simp only[List.length_nil]at this
 unfold maxRow
 omega
theorem Vf{c:Int}{l m:List I4}(h:kN c l m)(id g a b:Int)(p:Nat)(hc:Cut k4 m id p)(hn:¬ bU k4 m id)(hg:g=0∨bU k4 l g):
  (m.length<60→DF (c,l,m,1,id,g,a,b,())=some (c,l,insL m p (id,g,a,b,()),0,0,()))∧(60≤m.length→DF (c,l,m,1,id,g,a,b,())=some (0,[],[],0,6,())):=by
 have hl:=h.ll
 have hm:=h.lm
 have e1:=(Lm c l m id (by omega) h.rm p hc).2 hn
 have hgr:g≠0→∃ q:Nat,jU (c,l,m,g,())=some ((q:Int),()):=fun h0=>by
  obtain⟨q,hq,_⟩:=xu c l m g (by omega) h.rl
  exact⟨q,(xq c l m g (by omega) h.rl q hq).1 (hg.resolve_left h0)⟩
 have loop:=ac8 (Int×List I4×List I4×Int×Int×Unit) (300+l.length+m.length) (kV.A0 c l m 1 id g a b) c l m 1 id g a b 0 0 0 c l (by omega) m [] [] false (300+l.length+m.length) rfl (by simp) (by omega)
 have fin:kV.A0 c l m 1 id g a b (jn id (id,g,a,b,()) false [] m).1 1 id g a b 0 0 0 c l (jn id (id,g,a,b,()) false [] m).2=some (c,l,insL m p (id,g,a,b,()),0,0,()):=by
  rcases Xp id (id,g,a,b,()) m p hc hn with ⟨j1,j2⟩ | ⟨j1,j2⟩
  ·rw[j1,j2];rfl
  ·rw[kV.A0,j1]
   simp only[Bool.not_false,cond_true,List.length_cons,List.length_nil,Nat.zero_add]
   rw[if_pos (WC id _ m hm 1 (Nat.le_refl _)),j2]
 constructor
 ·intro h60
  show kV.FF _ c l m 1 id g a b=_
  simp only[kV.FF,kV.T,e1,Option.bind_some,qY c l m (by omega) (by omega)]
  rw[decide_eq_false (by omega),cond_false,decide_eq_false (by omega),cond_false]
  by_cases h0:g=0
  ·subst h0
   exact loop.trans fin
  ·obtain⟨q,hq⟩:=hgr h0
   rw[bne_iff_ne.2 h0,cond_true,hq,Option.bind_some,decide_eq_false (by omega),cond_false]
   exact loop.trans fin
 ·intro h60
  show kV.FF _ c l m 1 id g a b=_
  simp only[kV.FF,kV.T,e1,Option.bind_some,sD]
  rw[decide_eq_false (by omega),cond_false,decide_eq_true (by omega),cond_true]
  by_cases h0:g=0
  ·subst h0
   rfl
  ·obtain⟨q,hq⟩:=hgr h0
   rw[bne_iff_ne.2 h0,cond_true,hq,Option.bind_some,decide_eq_false (by omega),cond_false]
theorem adE{c:Int}{l m:List I4}(h:kN c l m)(id g a b:Int)(hlt:g<id)(p:Nat)(hc:Cut k4 l id p):
  (bU k4 l id→uJ (c,l,m,6,id,g,a,b,())=some (0,[],[],0,5,()))∧
  (¬ bU k4 l id→g≠0→¬ bU k4 l g→uJ (c,l,m,6,id,g,a,b,())=some (0,[],[],0,4,()))∧
  (¬ bU k4 l id→(g=0∨bU k4 l g)→30≤l.length→uJ (c,l,m,6,id,g,a,b,())=some (0,[],[],0,6,()))∧
  (¬ bU k4 l id→(g=0∨bU k4 l g)→l.length<30→uJ (c,l,m,6,id,g,a,b,())=some (c,insL l p (id,g,a,b,()),m,0,0,())):=by
 have hl:=h.ll
 have hm:=h.lm
 obtain⟨e0,e1⟩:=xq c l m id (by omega) h.rl p hc
 obtain⟨q,hq,_⟩:=xu c l m g (by omega) h.rl
 obtain⟨q0,q1⟩:=xq c l m g (by omega) h.rl q hq
 refine⟨fun hi=> ?_,fun hi h0 hg=> ?_,fun hi hg h30=> ?_,fun hi hg h30=> ?_⟩
 ·show jb.FF _ c l m 6 id g a b=_
  simp only[jb.FF,jb.T,e0 hi,Option.bind_some,sD]
  rw[decide_eq_false (by omega),cond_false,decide_eq_true (by omega),cond_true]
 ·show jb.FF _ c l m 6 id g a b=_
  simp only[jb.FF,jb.T,e1 hi,q1 hg,Option.bind_some,sD]
  rw[decide_eq_false (by omega),cond_false,decide_eq_false (by omega),cond_false,bne_iff_ne.2 h0,cond_true,decide_eq_true (by omega),cond_true]
 ·show jb.FF _ c l m 6 id g a b=_
  simp only[jb.FF,jb.T,e1 hi,Option.bind_some,sD]
  rw[decide_eq_false (by omega),cond_false,decide_eq_false (by omega),cond_false,decide_eq_true (by omega),cond_true]
  by_cases h0:g=0
  ·subst h0
   rfl
  ·rw[bne_iff_ne.2 h0,cond_true,q0 (hg.resolve_left h0),Option.bind_some,decide_eq_false (by omega),cond_false]
 ·have loop:=acC (Int×List I4×List I4×Int×Int×Unit) (300+l.length+m.length) (jb.A0 c l m 6 id g a b) c l m 6 id g a b 0 0 0 c m (by omega) l [] [] false (300+l.length+m.length) rfl (by simp) (by omega)
  have fin:jb.A0 c l m 6 id g a b (jn id (id,g,a,b,()) false [] l).1 6 id g a b 0 0 0 c (jn id (id,g,a,b,()) false [] l).2 m=some (c,insL l p (id,g,a,b,()),m,0,0,()):=by
   rcases Xp id (id,g,a,b,()) l p hc hi with ⟨j1,j2⟩ | ⟨j1,j2⟩
   ·rw[j1,j2];rfl
   ·rw[jb.A0,j1]
    simp only[Bool.not_false,cond_true,List.length_cons,List.length_nil,Nat.zero_add]
    rw[if_pos (WC id _ l (by omega) 1 (Nat.le_refl _)),j2]
  show jb.FF _ c l m 6 id g a b=_
  simp only[jb.FF,jb.T,e1 hi,Option.bind_some,qY c l m (by omega) (by omega)]
  rw[decide_eq_false (by omega),cond_false,decide_eq_false (by omega),cond_false,decide_eq_false (by omega),cond_false]
  by_cases h0:g=0
  ·subst h0
   exact loop.trans fin
  ·rw[bne_iff_ne.2 h0,cond_true,q0 (hg.resolve_left h0),Option.bind_some,decide_eq_false (by omega),cond_false]
   exact loop.trans fin
theorem afx(l:List I4)(p:Nat)(x:I4)(hp:p≤l.length)(hl:l.length≤1048576):mV (l,(p:Int),[x],())=some (insL l p x,()):=
 if_pos ⟨Int.natCast_nonneg p,by show(p:Int)≤l.length;omega,hl⟩
theorem afw(l:List I4)(p:Nat)(x:I4)(hp:p≤l.length)(hl:l.length≤1048576):l7 (l,(p:Int),[x],())=some (insL l p x,()):=
 if_pos ⟨Int.natCast_nonneg p,by show(p:Int)≤l.length;omega,hl⟩
def wo(c:Int)(l m:List I4)(k id g a b:Int):Prop:=∃ (code c':Int) (l':List I4),ng (c,l,m,k,id,g,a,b,())=some (code,c',l',m,())∧0≤code∧
 (code=0→kN c' l' m∧kF (c,l,m,k,id,g,a,b,())=some (c',l',m,0,0,()))∧(code≠0→c'=c∧l'=l∧kF (c,l,m,k,id,g,a,b,())=some (0,[],[],0,code,()))
theorem FO{n:Int}:bW n=true↔iG n:=by unfold bW iG;simp
theorem Bv{n:Int}:fQ n=true↔dP n:=by unfold fQ dP;simp
theorem O8{n:Int}:iY n=true↔jL n:=by unfold iY jL;simp
theorem OU{c:Int}{l m:List I4}(h:kN c l m)(g:Int):mY (c,l,m,g,())=some (bb (g=0∨bU k4 l g),()):=by
 rw[OB c l m g (by have:=h.ll;omega) (LY h.rl)]
 rw[lQ (or_congr Iff.rfl oP)]
theorem NH{l:List I4}{p:Nat}{x:I4}{u:Int}(h:bU k4 l u):bU k4 (insL l p x) u:=by
 obtain⟨y,hy,hu⟩:=h
 exact⟨y,(Ew l p x y).2 (Or.inr hy),hu⟩
theorem afi{c:Int}{l m:List I4}(h:kN c l m)(id g a b:Int)(hop:(bW id&&((g==0)||bW g)&&fQ a&&iY b&&decide (g<id))=true):wo c l m 6 id g a b:=by
 simp only[Bool.and_eq_true,Bool.or_eq_true,beq_iff_eq,decide_eq_true_eq,FO,Bv,O8]at hop
 obtain⟨⟨⟨⟨o1,o2⟩,o3⟩,o4⟩,o5⟩:=hop
 have hl:=h.ll
 have hm:=h.lm
 obtain⟨p,hc,hG⟩:=xu c l m id (by omega) h.rl
 obtain⟨pm,_,hM⟩:=Ah c l m id (by omega) h.rm
 obtain⟨g1,g2,g3,g4⟩:=adE h id g a b o5 p hc
 have er:jT (6,id,g,a,b,())=some (true,()):=by
  rw[XZ]
  congr 2
  simp only[Bool.and_eq_true,Bool.or_eq_true,beq_iff_eq,FO,Bv,O8]
  exact⟨⟨⟨o1,o2⟩,o3⟩,o4⟩
 have sE:kF (c,l,m,6,id,g,a,b,())=(uJ (c,l,m,6,id,g,a,b,())).bind fun y=>some (y.1,y.2.1,y.2.2.1,y.2.2.2.1,y.2.2.2.2.1,()):=by
  simp only[kF,wZ.T,vg c l m (by omega) (by omega),er,qY c l m (by omega) (by omega),Option.bind_some,dD (vP.2 h)]
  rfl
 have iE:ng (c,l,m,6,id,g,a,b,())=(wK (c,l,m,6,id,g,a,b,())).bind fun y=>some (y.1,y.2.1,y.2.2.1,y.2.2.2.1,()):=by
  simp only[ng,Dy.T,hG,hM,Option.bind_some]
  rfl
 have iC:wK (c,l,m,6,id,g,a,b,())=cond (bb (bU k4 l id)) (some (5,c,l,m,())) (cond (!bb (g=0∨bU k4 l g)) (some (4,c,l,m,())) (cond ((l.length:Int)==30) (some (6,c,l,m,())) ((mV (l,(p:Int),[(id,g,a,b,())],())).bind fun y=>some (0,c,y.1,m,())))):=by
  simp only[wK,Rk.T,hG,hM,OU h,Option.bind_some]
  rfl
 unfold wo
 rw[sE,iE,iC]
 by_cases hi:bU k4 l id
 ·rw[dD hi,g1 hi]
  exact⟨5,c,l,rfl,by omega,fun h=>by omega,fun _=>⟨rfl,rfl,rfl⟩⟩
 rw[eU hi]
 by_cases hg:g=0∨bU k4 l g
 ·rw[dD hg]
  by_cases h30:30≤l.length
  ·have:l.length=30:=by omega
   rw[g3 hi hg h30,this]
   exact⟨6,c,l,rfl,by omega,fun h=>by omega,fun _=>⟨rfl,rfl,rfl⟩⟩
  ·rw[g4 hi hg (by omega),beq_false_of_ne (by omega),afx l p _ hc.le (by omega)]
   refine⟨0,c,_,rfl,by omega,fun _=>⟨⟨h.cap,by rw[AO _ _ _ hc.le];omega,hm,Vy h.rl hc hi,h.rm,fun x hx=> ?_,fun x hx=> ?_⟩,rfl⟩,fun h=>absurd rfl h⟩
   ·rcases(Ew l p _ x).1 hx with rfl |hx
    ·refine⟨o1, ?_,o3,o4⟩
     rcases hg with hg |hg
     ·exact Or.inl hg
     ·exact Or.inr ⟨NH hg,o5⟩
    ·obtain⟨q1,q2,q3,q4⟩:=h.gl x hx
     exact⟨q1,q2.imp (fun h=>h) (fun h=>⟨NH h.1,h.2⟩),q3,q4⟩
   ·obtain⟨q1,q2,q3,q4⟩:=h.gm x hx
    exact⟨q1,q2.imp (fun h=>h) NH,q3,q4⟩
 ·rw[eU hg]
  have hg':g≠0∧¬ bU k4 l g:=not_or.1 hg
  rw[g2 hi hg'.1 hg'.2]
  exact⟨4,c,l,rfl,by omega,fun h=>by omega,fun _=>⟨rfl,rfl,rfl⟩⟩
end Go.Rv
