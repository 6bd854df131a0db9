/- Plain facts: ops0-txt, srv2. -/
import Derived.Test.YtmgahpicfjpjaaaGreatSM31
set_option linter.unusedVariables false
set_option linter.unusedSimpArgs false
set_option linter.unusedSectionVars false
namespace Go.Rv
def bU(n:Int):Bool:=decide (n≥1)&&decide (n≤1000000)
def fG(n:Int):Bool:=decide (n≥0)&&decide (n≤1125899906842624)
def iJ(n:Int):Bool:=decide (n≥1)&&decide (n≤1073741824)
theorem Fv(a b:Bool):cond a (some (b,())) (some (false,()))=some (a&&b,()):=by cases a <;>rfl
theorem BL(n:Int):kZ (n,())=some (bU n,()):=Fv _ _
theorem Be(n:Int):dX (n,())=some (fG n,()):=Fv _ _
theorem BK(n:Int):fQ (n,())=some (iJ n,()):=Fv _ _
theorem PK(n a b:Int):ni (n,a,b,())=some (decide (a≤n)&&decide (n≤b),()):=Fv _ _
theorem BP(n:Int):fU (n,())=some (bU n,()):=by show Ew.T n=_;rw[Ew.T,PK];rfl
theorem Bl(n:Int):jb (n,())=some (fG n,()):=by show Ed.T n=_;rw[Ed.T,PK];rfl
theorem BO(n:Int):jT (n,())=some (iJ n,()):=by show DV.T n=_;rw[DV.T,PK];rfl
def vG(k i g a b:Int):Bool:=
 if k=1 then bU i&&((g==0)||bU g)&&fG a&&iJ b
 else if k=2 then bU i&&(g==0)&&(a==0)&&(b==0)
 else if k=3 then((i==0)||bU i)&&(g==0)&&fG a&&(b==0)
 else if k=4 then(i==0)&&(g==0)&&(a==0)&&(b==0)
 else if k=5 then(i==0)&&(g==0)&&(a==0)&&(b==0)
 else if k=6 then bU i&&((g==0)||bU g)&&fG a&&iJ b&&decide (g<i)
 else if k=7 then bU i&&(g==0)&&(a==0)&&(b==0)
 else false
theorem Ya(i g a b:Int):oN (3,i,g,a,b,())=some (8,i,g,a,b,()):=rfl
theorem X9(i g a b:Int):oN (6,i,g,a,b,())=some (6,i,g,a,b,()):=rfl
theorem X8(i g a b:Int):oN (7,i,g,a,b,())=some (7,i,g,a,b,()):=rfl
theorem Yi(i g a b:Int):mQ (3,i,g,a,b,())=some (8,i,g,a,b,()):=rfl
theorem Yh(i g a b:Int):mQ (6,i,g,a,b,())=some (6,i,g,a,b,()):=rfl
theorem Yg(i g a b:Int):mQ (7,i,g,a,b,())=some (7,i,g,a,b,()):=rfl
theorem agO(k i g a b:Int)(h3:k≠3)(h6:k≠6)(h7:k≠7):mQ (k,i,g,a,b,())=some (0,i,g,a,b,()):=by
 show L6.T k i g a b=_
 rw[L6.T,beq_false_of_ne h3,beq_false_of_ne h6,beq_false_of_ne h7];rfl
theorem Yb(i g a b:Int):jE (8,i,g,a,b,())=some (((i==0)||bU i)&&(g==0)&&fG a&&(b==0),()):=by
 simp only[jE,zL.T,BL,Be,BK,Option.bind_some,bne]
 cases bU i <;>cases i==0 <;>cases g==0 <;>cases bU g <;>cases fG a <;>cases iJ b <;>cases a==0 <;>cases b==0 <;>rfl
theorem Yd(i g a b:Int):jE (6,i,g,a,b,())=some (bU i&&((g==0)||bU g)&&fG a&&iJ b,()):=by
 simp only[jE,zL.T,BL,Be,BK,Option.bind_some,bne]
 cases bU i <;>cases i==0 <;>cases g==0 <;>cases bU g <;>cases fG a <;>cases iJ b <;>cases a==0 <;>cases b==0 <;>rfl
theorem Yc(i g a b:Int):jE (7,i,g,a,b,())=some (bU i&&(g==0)&&(a==0)&&(b==0),()):=by
 simp only[jE,zL.T,BL,Be,BK,Option.bind_some,bne]
 cases bU i <;>cases i==0 <;>cases g==0 <;>cases bU g <;>cases fG a <;>cases iJ b <;>cases a==0 <;>cases b==0 <;>rfl
theorem agP(i g a b:Int):oK (8,i,g,a,b,())=some (((i==0)||bU i)&&(g==0)&&fG a&&(b==0),()):=by
 simp only[oK,zN.T,BP,Bl,BO,Option.bind_some,bne]
 cases bU i <;>cases i==0 <;>cases g==0 <;>cases bU g <;>cases fG a <;>cases iJ b <;>cases a==0 <;>cases b==0 <;>rfl
theorem agR(i g a b:Int):oK (6,i,g,a,b,())=some (bU i&&((g==0)||bU g)&&fG a&&iJ b,()):=by
 simp only[oK,zN.T,BP,Bl,BO,Option.bind_some,bne]
 cases bU i <;>cases i==0 <;>cases g==0 <;>cases bU g <;>cases fG a <;>cases iJ b <;>cases a==0 <;>cases b==0 <;>rfl
theorem agQ(i g a b:Int):oK (7,i,g,a,b,())=some (bU i&&(g==0)&&(a==0)&&(b==0),()):=by
 simp only[oK,zN.T,BP,Bl,BO,Option.bind_some,bne]
 cases bU i <;>cases i==0 <;>cases g==0 <;>cases bU g <;>cases fG a <;>cases iJ b <;>cases a==0 <;>cases b==0 <;>rfl
theorem agS(i g a b:Int):oK (0,i,g,a,b,())=some (false,()):=by
 simp only[oK,zN.T,BP,Bl,BO,Option.bind_some,bne]
 cases bU i <;>cases i==0 <;>cases g==0 <;>cases bU g <;>cases fG a <;>cases iJ b <;>cases a==0 <;>cases b==0 <;>rfl
theorem Xm(k i g a b:Int):Eb (k,i,g,a,b,())=some (vG k i g a b,()):=by
 simp only[Eb,Ug.T,BL,Be,BK,Option.bind_some]
 unfold vG
 by_cases k1:k=1
 ·subst k1
  cases bU i <;>cases g==0 <;>cases bU g <;>cases fG a <;>rfl
 by_cases k2:k=2
 ·subst k2
  cases bU i <;>cases g==0 <;>cases a==0 <;>cases b==0 <;>rfl
 by_cases k3:k=3
 ·subst k3
  simp only[bne,beq_self_eq_true,Ya,Yb,Option.bind_some]
  cases bU i <;>cases i==0 <;>cases g==0 <;>cases bU g <;>cases fG a <;>cases b==0 <;>rfl
 by_cases k4:k=4
 ·subst k4
  cases i==0 <;>cases g==0 <;>cases a==0 <;>cases b==0 <;>rfl
 by_cases k5:k=5
 ·subst k5
  cases i==0 <;>cases g==0 <;>cases a==0 <;>cases b==0 <;>rfl
 by_cases k6:k=6
 ·subst k6
  simp only[bne,beq_self_eq_true,X9,Yd,Option.bind_some]
  cases bU i <;>cases g==0 <;>cases bU g <;>cases fG a <;>cases iJ b <;>cases decide (g<i) <;>rfl
 by_cases k7:k=7
 ·subst k7
  simp only[bne,beq_self_eq_true,X8,Yc,Option.bind_some]
  cases bU i <;>cases g==0 <;>cases bU g <;>cases a==0 <;>cases b==0 <;>rfl
 rw[if_neg k1,if_neg k2,if_neg k3,if_neg k4,if_neg k5,if_neg k6,if_neg k7]
 rw[beq_false_of_ne k1,beq_false_of_ne k2,beq_false_of_ne k3,beq_false_of_ne k4,beq_false_of_ne k5,beq_false_of_ne k6,beq_false_of_ne k7]
 rfl
theorem XE(k i g a b:Int):DU (k,i,g,a,b,())=some (vG k i g a b,()):=by
 simp only[DU,Tz.T,BP,Bl,BO,Option.bind_some,LX,TV.T]
 unfold vG
 by_cases k1:k=1
 ·subst k1
  cases bU i <;>cases g==0 <;>cases bU g <;>cases fG a <;>rfl
 by_cases k2:k=2
 ·subst k2
  simp only[beq_self_eq_true]
  cases bU i <;>cases g==0 <;>cases a==0 <;>cases b==0 <;>rfl
 by_cases k3:k=3
 ·subst k3
  simp only[bne,beq_self_eq_true,Yi,agP,Option.bind_some]
  cases bU i <;>cases i==0 <;>cases g==0 <;>cases bU g <;>cases fG a <;>cases b==0 <;>rfl
 by_cases k4:k=4
 ·subst k4
  simp only[beq_self_eq_true]
  cases i==0 <;>cases g==0 <;>cases a==0 <;>cases b==0 <;>rfl
 by_cases k5:k=5
 ·subst k5
  simp only[beq_self_eq_true]
  cases i==0 <;>cases g==0 <;>cases a==0 <;>cases b==0 <;>rfl
 by_cases k6:k=6
 ·subst k6
  simp only[bne,beq_self_eq_true,Yh,agR,Option.bind_some]
  cases bU i <;>cases g==0 <;>cases bU g <;>cases fG a <;>cases iJ b <;>cases decide (g<i) <;>rfl
 by_cases k7:k=7
 ·subst k7
  simp only[bne,beq_self_eq_true,Yg,agQ,Option.bind_some]
  cases bU i <;>cases g==0 <;>cases bU g <;>cases a==0 <;>cases b==0 <;>rfl
 rw[if_neg k1,if_neg k2,if_neg k3,if_neg k4,if_neg k5,if_neg k6,if_neg k7]
 rw[beq_false_of_ne k1,beq_false_of_ne k2,beq_false_of_ne k4,beq_false_of_ne k5]
 rw[agO k i g a b k3 k6 k7,Option.bind_some,agS]
 rfl
theorem adI(R:Type)(k0:Nat)(hx:Bool→Int→Int→Int→Int→Int→Int→Int→Int→Int→List I4→List I4→Option R)(f:Int)(l m:List I4)(e0 id g a b t1 t2 t3 o:Int)(o5:List I4)(hm:l.length≤60):∀ (r pre out:List I4) (d:Bool) (k:Nat),l=pre++r→out.length≤2*pre.length→r.length<k→
  iO.G0 k0 hx k d (pre.length:Int) f l m e0 id g a b t1 t2 t3 o out o5=hx (jn id (id,g,a,b,()) d out r).1 e0 id g a b t1 t2 t3 o (jn id (id,g,a,b,()) d out r).2 o5:=by
 intro r
 induction r with
 |nil=>
  intro pre out d k hd ho hk
  cases k with
  |zero=>simp at hk
  |succ k=>
   rw[List.append_nil]at hd
   subst hd
   rw[iO.G0,iO.R0,decide_eq_false (by omega),cond_false]
   rfl
 |cons y r ih=>
  intro pre out d k hd ho hk
  cases k with
  |zero=>simp at hk
  |succ k=>
   have hlen:l.length=pre.length+(r.length+1):=by rw[hd];simp
   have hrd:rd (0,0,0,0,()) l (pre.length:Int)=y:=by rw[hd];exact Xr pre r y
   have hw:af ((pre.length:Int)+1)=(((pre++[y]).length:Nat):Int):=(aH _ (by omega)).trans (by simp)
   have hc:(0:Int)≤(pre.length:Int)∧(pre.length:Int)<(l.length:Int):=by omega
   have hk':r.length<k:=by simp only[List.length_cons]at hk;omega
   have hm1:∀ n:Nat,n≤200→n≤maxRow:=fun n hn=>by unfold maxRow;omega
   rw[iO.G0,iO.R0]
   simp only[hrd,hw,if_pos hc,decide_eq_true hc.2,cond_true]
   have ih1:=ih (pre++[y]) ((out++[(id,g,a,b,())])++[y]) true k (by rw[hd];simp) (by simp only[List.length_append,List.length_cons,List.length_nil];omega) hk'
   have ih2:=ih (pre++[y]) (out++[y]) d k (by rw[hd];simp) (by simp only[List.length_append,List.length_cons,List.length_nil];omega) hk'
   have b1:out.length+1≤maxRow:=hm1 _ (by omega)
   have b2:(out++[(id,g,a,b,())]).length+1≤maxRow:=hm1 _ (by simp only[List.length_append,List.length_cons,List.length_nil];omega)
   cases d with
   |true=>
    have e:jn id (id,g,a,b,()) true out (y::r)=jn id (id,g,a,b,()) true (out++[y]) r:=by rw[jn,if_neg (by simp)]
    rw[e]
    simp only[Bool.not_true,cond_false,List.length_cons,List.length_nil,Nat.zero_add]
    rw[if_pos b1]
    exact ih2
   |false=>
    simp only[Bool.not_false,cond_true]
    by_cases h:y.1>id
    ·have e:jn id (id,g,a,b,()) false out (y::r)=jn id (id,g,a,b,()) true ((out++[(id,g,a,b,())])++[y]) r:=by rw[jn,if_pos ⟨rfl,h⟩]
     rw[e,decide_eq_true h,cond_true]
     simp only[List.length_cons,List.length_nil,Nat.zero_add]
     rw[if_pos b1,if_pos b2]
     exact ih1
    ·have e:jn id (id,g,a,b,()) false out (y::r)=jn id (id,g,a,b,()) false (out++[y]) r:=by rw[jn,if_neg (fun hh=>h hh.2)]
     rw[e,decide_eq_false h,cond_false]
     simp only[List.length_cons,List.length_nil,Nat.zero_add]
     rw[if_pos b1]
     exact ih2
theorem qL(c:Int)(l m:List I4)(hl:l.length≤1048576)(hm:m.length≤1048576):oO (c,l,m,())=some (c,l,m,()):=by
 simp only[oO,SY.T,List.length_nil,Nat.zero_add,List.nil_append]
 rw[if_pos (by unfold maxRow;omega),if_pos (by unfold maxRow;omega)]
theorem rJ(k:Int):jg (k,())=some (0,[],[],0,k,()):=rfl
theorem WO(u:Int)(x:I4)(r:List I4)(h:r.length≤60)(n:Nat)(hn:n≤1):(jn u x false [] r).2.length+n≤maxRow:=by
 have:=OU u x r [] false
 simp only[List.length_nil]at this
 unfold maxRow
 omega
theorem Vo{c:Int}{l m:List I4}(h:jY c l m)(id g a b:Int)(p:Nat)(hc:Cut k4 m id p)(hn:¬ bQ k4 m id)(hg:g=0∨bQ k4 l g):
  (m.length<60→DF (c,l,m,1,id,g,a,b,())=some (c,l,insL m p (id,g,a,b,()),0,0,()))∧(60≤m.length→DF (c,l,m,1,id,g,a,b,())=some (0,[],[],0,6,())):=by
 have hl:=h.ll
 have hm:=h.lm
 have e1:=(LY c l m id (by omega) h.rm p hc).2 hn
 have hgr:g≠0→∃ q:Nat,jF (c,l,m,g,())=some ((q:Int),()):=fun h0=>by
  obtain⟨q,hq,_⟩:=wS c l m g (by omega) h.rl
  exact⟨q,(wR c l m g (by omega) h.rl q hq).1 (hg.resolve_left h0)⟩
 have loop:=aem (Int×List I4×List I4×Int×Int×Unit) (300+l.length+m.length) (kE.A0 c l m 1 id g a b) c l m 1 id g a b 0 0 0 c l (by omega) m [] [] false (300+l.length+m.length) rfl (by simp) (by omega)
 have fin:kE.A0 c l m 1 id g a b (jn id (id,g,a,b,()) false [] m).1 1 id g a b 0 0 0 c l (jn id (id,g,a,b,()) false [] m).2=some (c,l,insL m p (id,g,a,b,()),0,0,()):=by
  rcases XB id (id,g,a,b,()) m p hc hn with ⟨j1,j2⟩ | ⟨j1,j2⟩
  ·rw[j1,j2];rfl
  ·rw[kE.A0,j1]
   simp only[Bool.not_false,cond_true,List.length_cons,List.length_nil,Nat.zero_add]
   rw[if_pos (WO id _ m hm 1 (Nat.le_refl _)),j2]
 constructor
 ·intro h60
  show kE.FF _ c l m 1 id g a b=_
  simp only[kE.FF,kE.T,e1,Option.bind_some,qL c l m (by omega) (by omega)]
  rw[decide_eq_false (by omega),cond_false,decide_eq_false (by omega),cond_false]
  by_cases h0:g=0
  ·subst h0
   exact loop.trans fin
  ·obtain⟨q,hq⟩:=hgr h0
   rw[bne_iff_ne.2 h0,cond_true,hq,Option.bind_some,decide_eq_false (by omega),cond_false]
   exact loop.trans fin
 ·intro h60
  show kE.FF _ c l m 1 id g a b=_
  simp only[kE.FF,kE.T,e1,Option.bind_some,rJ]
  rw[decide_eq_false (by omega),cond_false,decide_eq_true (by omega),cond_true]
  by_cases h0:g=0
  ·subst h0
   rfl
  ·obtain⟨q,hq⟩:=hgr h0
   rw[bne_iff_ne.2 h0,cond_true,hq,Option.bind_some,decide_eq_false (by omega),cond_false]
theorem aeT{c:Int}{l m:List I4}(h:jY c l m)(id g a b:Int)(hlt:g<id)(p:Nat)(hc:Cut k4 l id p):
  (bQ k4 l id→uo (c,l,m,6,id,g,a,b,())=some (0,[],[],0,5,()))∧
  (¬ bQ k4 l id→g≠0→¬ bQ k4 l g→uo (c,l,m,6,id,g,a,b,())=some (0,[],[],0,4,()))∧
  (¬ bQ k4 l id→(g=0∨bQ k4 l g)→30≤l.length→uo (c,l,m,6,id,g,a,b,())=some (0,[],[],0,6,()))∧
  (¬ bQ k4 l id→(g=0∨bQ k4 l g)→l.length<30→uo (c,l,m,6,id,g,a,b,())=some (c,insL l p (id,g,a,b,()),m,0,0,())):=by
 have hl:=h.ll
 have hm:=h.lm
 obtain⟨e0,e1⟩:=wR c l m id (by omega) h.rl p hc
 obtain⟨q,hq,_⟩:=wS c l m g (by omega) h.rl
 obtain⟨q0,q1⟩:=wR c l m g (by omega) h.rl q hq
 refine⟨fun hi=> ?_,fun hi h0 hg=> ?_,fun hi hg h30=> ?_,fun hi hg h30=> ?_⟩
 ·show iO.FF _ c l m 6 id g a b=_
  simp only[iO.FF,iO.T,e0 hi,Option.bind_some,rJ]
  rw[decide_eq_false (by omega),cond_false,decide_eq_true (by omega),cond_true]
 ·show iO.FF _ c l m 6 id g a b=_
  simp only[iO.FF,iO.T,e1 hi,q1 hg,Option.bind_some,rJ]
  rw[decide_eq_false (by omega),cond_false,decide_eq_false (by omega),cond_false,bne_iff_ne.2 h0,cond_true,decide_eq_true (by omega),cond_true]
 ·show iO.FF _ c l m 6 id g a b=_
  simp only[iO.FF,iO.T,e1 hi,Option.bind_some,rJ]
  rw[decide_eq_false (by omega),cond_false,decide_eq_false (by omega),cond_false,decide_eq_true (by omega),cond_true]
  by_cases h0:g=0
  ·subst h0
   rfl
  ·rw[bne_iff_ne.2 h0,cond_true,q0 (hg.resolve_left h0),Option.bind_some,decide_eq_false (by omega),cond_false]
 ·have loop:=adI (Int×List I4×List I4×Int×Int×Unit) (300+l.length+m.length) (iO.A0 c l m 6 id g a b) c l m 6 id g a b 0 0 0 c m (by omega) l [] [] false (300+l.length+m.length) rfl (by simp) (by omega)
  have fin:iO.A0 c l m 6 id g a b (jn id (id,g,a,b,()) false [] l).1 6 id g a b 0 0 0 c (jn id (id,g,a,b,()) false [] l).2 m=some (c,insL l p (id,g,a,b,()),m,0,0,()):=by
   rcases XB id (id,g,a,b,()) l p hc hi with ⟨j1,j2⟩ | ⟨j1,j2⟩
   ·rw[j1,j2];rfl
   ·rw[iO.A0,j1]
    simp only[Bool.not_false,cond_true,List.length_cons,List.length_nil,Nat.zero_add]
    rw[if_pos (WO id _ l (by omega) 1 (Nat.le_refl _)),j2]
  show iO.FF _ c l m 6 id g a b=_
  simp only[iO.FF,iO.T,e1 hi,Option.bind_some,qL c l m (by omega) (by omega)]
  rw[decide_eq_false (by omega),cond_false,decide_eq_false (by omega),cond_false,decide_eq_false (by omega),cond_false]
  by_cases h0:g=0
  ·subst h0
   exact loop.trans fin
  ·rw[bne_iff_ne.2 h0,cond_true,q0 (hg.resolve_left h0),Option.bind_some,decide_eq_false (by omega),cond_false]
   exact loop.trans fin
theorem agK(l:List I4)(p:Nat)(x:I4)(hp:p≤l.length)(hl:l.length≤1048576):l9 (l,(p:Int),[x],())=some (insL l p x,()):=
 if_pos ⟨Int.natCast_nonneg p,by show(p:Int)≤l.length;omega,hl⟩
theorem agJ(l:List I4)(p:Nat)(x:I4)(hp:p≤l.length)(hl:l.length≤1048576):lM (l,(p:Int),[x],())=some (insL l p x,()):=
 if_pos ⟨Int.natCast_nonneg p,by show(p:Int)≤l.length;omega,hl⟩
def vO(c:Int)(l m:List I4)(k id g a b:Int):Prop:=∃ (code c':Int) (l':List I4),mF (c,l,m,k,id,g,a,b,())=some (code,c',l',m,())∧0≤code∧
 (code=0→jY c' l' m∧jS (c,l,m,k,id,g,a,b,())=some (c',l',m,0,0,()))∧(code≠0→c'=c∧l'=l∧jS (c,l,m,k,id,g,a,b,())=some (0,[],[],0,code,()))
theorem FN{n:Int}:bU n=true↔gU n:=by unfold bU gU;simp
theorem Fa{n:Int}:fG n=true↔dL n:=by unfold fG dL;simp
theorem PG{n:Int}:iJ n=true↔jw n:=by unfold iJ jw;simp
theorem Ph{c:Int}{l m:List I4}(h:jY c l m)(g:Int):mg (c,l,m,g,())=some (bb (g=0∨bQ k4 l g),()):=by
 rw[O0 c l m g (by have:=h.ll;omega) (MN h.rl)]
 rw[lq (or_congr Iff.rfl oG)]
theorem Oa{l:List I4}{p:Nat}{x:I4}{u:Int}(h:bQ k4 l u):bQ k4 (insL l p x) u:=by
 obtain⟨y,hy,hu⟩:=h
 exact⟨y,(ED l p x y).2 (Or.inr hy),hu⟩
theorem agt{c:Int}{l m:List I4}(h:jY c l m)(id g a b:Int)(hop:(bU id&&((g==0)||bU g)&&fG a&&iJ b&&decide (g<id))=true):vO c l m 6 id g a b:=by
 simp only[Bool.and_eq_true,Bool.or_eq_true,beq_iff_eq,decide_eq_true_eq,FN,Fa,PG]at hop
 obtain⟨⟨⟨⟨o1,o2⟩,o3⟩,o4⟩,o5⟩:=hop
 have hl:=h.ll
 have hm:=h.lm
 obtain⟨p,hc,hG⟩:=wS c l m id (by omega) h.rl
 obtain⟨pm,_,hM⟩:=zW c l m id (by omega) h.rm
 obtain⟨g1,g2,g3,g4⟩:=aeT h id g a b o5 p hc
 have er:jE (6,id,g,a,b,())=some (true,()):=by
  rw[Yd]
  congr 2
  simp only[Bool.and_eq_true,Bool.or_eq_true,beq_iff_eq,FN,Fa,PG]
  exact⟨⟨⟨o1,o2⟩,o3⟩,o4⟩
 have sE:jS (c,l,m,6,id,g,a,b,())=(uo (c,l,m,6,id,g,a,b,())).bind fun y=>some (y.1,y.2.1,y.2.2.1,y.2.2.2.1,y.2.2.2.2.1,()):=by
  simp only[jS,wM.T,uQ c l m (by omega) (by omega),er,qL c l m (by omega) (by omega),Option.bind_some,dF (vC.2 h)]
  rfl
 have iE:mF (c,l,m,6,id,g,a,b,())=(wo (c,l,m,6,id,g,a,b,())).bind fun y=>some (y.1,y.2.1,y.2.2.1,y.2.2.2.1,()):=by
  simp only[mF,Dy.T,hG,hM,Option.bind_some]
  rfl
 have iC:wo (c,l,m,6,id,g,a,b,())=cond (bb (bQ k4 l id)) (some (5,c,l,m,())) (cond (!bb (g=0∨bQ k4 l g)) (some (4,c,l,m,())) (cond ((l.length:Int)==30) (some (6,c,l,m,())) ((l9 (l,(p:Int),[(id,g,a,b,())],())).bind fun y=>some (0,c,y.1,m,())))):=by
  simp only[wo,Rq.T,hG,hM,Ph h,Option.bind_some]
  rfl
 unfold vO
 rw[sE,iE,iC]
 by_cases hi:bQ k4 l id
 ·rw[dF hi,g1 hi]
  exact⟨5,c,l,rfl,by omega,fun h=>by omega,fun _=>⟨rfl,rfl,rfl⟩⟩
 rw[eH hi]
 by_cases hg:g=0∨bQ k4 l g
 ·rw[dF hg]
  by_cases h30:30≤l.length
  ·have:l.length=30:=by omega
   rw[g3 hi hg h30,this]
   exact⟨6,c,l,rfl,by omega,fun h=>by omega,fun _=>⟨rfl,rfl,rfl⟩⟩
  ·rw[g4 hi hg (by omega),beq_false_of_ne (by omega),agK l p _ hc.le (by omega)]
   refine⟨0,c,_,rfl,by omega,fun _=>⟨⟨h.cap,by rw[Aq _ _ _ hc.le];omega,hm,VH h.rl hc hi,h.rm,fun x hx=> ?_,fun x hx=> ?_⟩,rfl⟩,fun h=>absurd rfl h⟩
   ·rcases(ED l p _ x).1 hx with rfl |hx
    ·refine⟨o1, ?_,o3,o4⟩
     rcases hg with hg |hg
     ·exact Or.inl hg
     ·exact Or.inr ⟨Oa hg,o5⟩
    ·obtain⟨q1,q2,q3,q4⟩:=h.gl x hx
     exact⟨q1,q2.imp (fun h=>h) (fun h=>⟨Oa h.1,h.2⟩),q3,q4⟩
   ·obtain⟨q1,q2,q3,q4⟩:=h.gm x hx
    exact⟨q1,q2.imp (fun h=>h) Oa,q3,q4⟩
 ·rw[eH hg]
  have hg':g≠0∧¬ bQ k4 l g:=not_or.1 hg
  rw[g2 hi hg'.1 hg'.2]
  exact⟨4,c,l,rfl,by omega,fun h=>by omega,fun _=>⟨rfl,rfl,rfl⟩⟩
end Go.Rv
