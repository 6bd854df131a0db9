/- Plain facts: srv6, srv7. -/
import Derived.Test.YtjknhphmhfbghaaGreatFM34
set_option linter.unusedVariables false
set_option linter.unusedSimpArgs false
set_option linter.unusedSectionVars false
namespace Go.Rv
theorem adb{α:Type}(l:List α)(p:Nat)(z x:α)(hp:p≤l.length):(insL l p z).set p x=insL l p x:=by
 unfold insL
 rw[List.set_append_right _ _ (by rw[List.length_take];omega),List.length_take,Nat.min_eq_left hp,Nat.sub_self]
 rfl
theorem Vz{α β:Type}(f:α→β)(l:List α)(p:Nat)(x:α):(insL l p x).map f=insL (l.map f) p (f x):=by
 simp[insL,List.map_take,List.map_drop]
theorem V9{α β:Type}(f:α→β)(l:List α)(p:Nat)(x:α):(l.set p x).map f=(l.map f).set p (f x):=List.map_set
theorem adZ{α:Type}(l:List α)(p:Nat)(x:α)(hp:p≤l.length):(insL l p x)[p]? =some x:=by
 unfold insL
 rw[List.getElem?_append_right (by rw[List.length_take];omega),List.length_take,Nat.min_eq_left hp,Nat.sub_self]
 rfl
theorem WS{m:List I4}{n:List I3}(h:m.map k4=n.map k3){u:Int}{p:Nat}(hc:Cut k4 m u p):Cut k3 n u p:=by
 have hl:m.length=n.length:=by simpa using congrArg List.length h
 refine⟨by have:=hc.le;omega,fun x hx=> ?_,fun x hx=> ?_⟩
 ·have e:(m.take p).map k4=(n.take p).map k3:=by rw[List.map_take,List.map_take,h]
  have:k3 x∈(m.take p).map k4:=by rw[e];exact List.mem_map_of_mem hx
  obtain⟨y,hy,hyx⟩:=List.mem_map.1 this
  have:=hc.lo y hy
  rwa [hyx]at this
 ·have e:(m.drop p).map k4=(n.drop p).map k3:=by rw[List.map_drop,List.map_drop,h]
  have:k3 x∈(m.drop p).map k4:=by rw[e];exact List.mem_map_of_mem hx
  obtain⟨y,hy,hyx⟩:=List.mem_map.1 this
  have:=hc.hi y hy
  rwa [hyx]at this
theorem WL{m:List I4}{n:List I3}(h:m.map k4=n.map k3)(u:Int):bU k3 n u↔bU k4 m u:=by
 have m1:bU k4 m u↔u∈m.map k4:=by simp[bU,List.mem_map]
 have m2:bU k3 n u↔u∈n.map k3:=by simp[bU,List.mem_map]
 rw[m1,m2,h]
theorem afu(i g a b:Int):jT (1,i,g,a,b,())=some (bW i&&((g==0)||bW g)&&fQ a&&iY b,()):=by
 simp only[jT,zY.T,BV,yC,BU,Option.bind_some,bne]
 cases bW i <;>cases i==0 <;>cases g==0 <;>cases bW g <;>cases fQ a <;>cases iY b <;>cases a==0 <;>cases b==0 <;>rfl
theorem getLoop(R:Type)(k0:Nat)(hx:Int→Int→Int→Int→Int→List I4→List I4→List I3→Int→Int→Int→Int→Int→Int→Int→Int→Int→Int→Int→Int→Int→Int→Int→Int→List I4→List I4→List I3→Option R)(s s7 s8 s9:Int)(s10 s11:List I4)(s12:List I3)(o id o6 o7 o8 t1 t2 t3 t4 t5 t6 t7 q1 q2 q3 q4:Int)(o52 o62:List I4)(o72:List I3)
  (m:List I4) (A:List (Int×Unit)) (hA:A.length=m.length) (hm:m.length≤60) (hr:iF k4 m) (p:Nat) (x:I4) (hp:m[p]? =some x) (hx':x.1=id) (k:Nat) (hk:m.length<k):
  jw.G0 k0 hx k 0 0 s s7 s8 s9 s10 s11 s12 o id o6 o7 o8 t1 t2 t3 t4 t5 t6 t7 q1 q2 q3 q4 (pr m A) o52 o62 o72=hx (fI A p) s s7 s8 s9 s10 s11 s12 o id o6 o7 o8 t1 t2 t3 t4 t5 t6 t7 q1 q2 q3 q4 o52 o62 o72:=by
 have hpl:=(List.getElem?_eq_some_iff.1 hp).1
 have hpx:=(List.getElem?_eq_some_iff.1 hp).2
 have key:=run 0 m.length (fun k i=>jw.G0 k0 hx k (if p<i then fI A p else 0) (i:Nat) s s7 s8 s9 s10 s11 s12 o id o6 o7 o8 t1 t2 t3 t4 t5 t6 t7 q1 q2 q3 q4 (pr m A) o52 o62 o72) (hx (fI A p) s s7 s8 s9 s10 s11 s12 o id o6 o7 o8 t1 t2 t3 t4 t5 t6 t7 q1 q2 q3 q4 o52 o62 o72) (fun k i _ hi=> ?_) (fun k=> ?_) k (by omega) (by omega)
 ·simpa using key
 ·have hw:af ((i:Int)+1)=((i+1:Nat):Int):=aI _ (by omega)
  have hc:(0:Int)≤(i:Int)∧(i:Int)<((pr m A).length:Int):=by rw[qR];omega
  have hg:(pr m A).getD i (0,0,())=((g4 m i).1,fI A i,()):=Be m A _ i (by omega)
  show jw.G0 k0 hx (k+1) (if p<i then fI A p else 0) (i:Nat) s s7 s8 s9 s10 s11 s12 o id o6 o7 o8 t1 t2 t3 t4 t5 t6 t7 q1 q2 q3 q4 (pr m A) o52 o62 o72=jw.G0 k0 hx k (if p<i+1 then fI A p else 0) ((i+1:Nat):Int) s s7 s8 s9 s10 s11 s12 o id o6 o7 o8 t1 t2 t3 t4 t5 t6 t7 q1 q2 q3 q4 (pr m A) o52 o62 o72
  rw[jw.G0,jw.R0]
  simp only[Int.toNat_natCast,if_pos hc,decide_eq_true hc.2,cond_true,hg,hw]
  by_cases hip:i=p
  ·subst hip
   have e:(g4 m i).1=id:=by
    rw[←hx', ←hpx]
    simp[g4,List.getD_eq_getElem?_getD,hpl]
   rw[show((g4 m i).1==id)=true by simpa using e,cond_true,if_pos (Nat.lt_succ_self i)]
  ·have e:(g4 m i).1≠id:=by
    have e2:(g4 m i).1=m[i].1:=by simp[g4,List.getD_eq_getElem?_getD,hi]
    rw[e2, ←hx', ←hpx]
    intro h
    rcases Nat.lt_or_gt_of_ne hip with h1 |h1
    ·have:m[i].1<m[p].1:=List.pairwise_iff_getElem.1 hr i p hi hpl h1
     omega
    ·have:m[p].1<m[i].1:=List.pairwise_iff_getElem.1 hr p i hpl hi h1
     omega
   rw[show((g4 m i).1==id)=false by simpa using e,cond_false]
   have:(p<i)↔(p<i+1):=by omega
   simp only[this]
 ·simp only[jw.G0,jw.R0]
  rw[qR,hA,decide_eq_false (by omega),cond_false,if_pos hpl]
theorem copyS(s0 s1 s2 s3:Int)(l m:List I4)(n:List I3)(hl:l.length≤1048576)(hm:m.length≤1048576)(hn:n.length≤1048576):oh (s0,s1,s2,s3,l,m,n,())=some (s0,s1,s2,s3,l,m,n,()):=by
 simp only[oh,SI.T,qY s3 l m hl hm,Option.bind_some,List.length_nil,Nat.zero_add,List.nil_append]
 rw[if_pos (by unfold maxRow;omega)]
theorem EO(k:Int):mg (k,())=some (0,0,0,0,[],[],[],0,0,k,()):=rfl
theorem Wu(x:Int):mx x 0=mx 0 x:=by unfold mx;split <;>split <;>omega
theorem minS(a b:Int):uP (a,b,())=some (mn a b,()):=by
 simp only[uP,Lu.T,mn]
 by_cases h:a<b
 ·rw[decide_eq_true h,cond_true,if_neg (by omega)]
 ·rw[decide_eq_false h,cond_false]
  by_cases h2:b<a
  ·rw[if_pos h2]
  ·rw[if_neg h2]
   have:a=b:=by omega
   rw[this]
def Gz(X:Int→Int→Int→Int→Int→Int→List I4→List I4→List I3→Prop)(s0 s1 s2 s3:Int)(l m:List I4)(n:List I3)(k id g a b:Int)(fi:Option (Int×Int×Int×jo))(fs:Option (Int×Int×Int×Int×List I4×List I4×List I3×Int×Int×Int×Unit)):Prop:=
 ∃ (am un code s1' s2' s3':Int) (l' m':List I4) (n':List I3),fi=some (am,un,code,s0,s1',s2',s3',l',m',n',())∧0≤code∧
  (code=0→fU s0 s1' s2' s3' l' m' n'∧fs=some (s0,s1',s2',s3',l',m',n',am,un,0,()))∧
  (code≠0→am=0∧un=0∧s1'=s1∧s2'=s2∧s3'=s3∧l'=l∧m'=m∧n'=n∧fs=some (0,0,0,0,[],[],[],0,0,code,()))∧X am un code s1' s2' s3' l' m' n'
def Yb(s0 s1 s2 s3:Int)(l:List I4)(n:List I3)(id g a b am un code t1 t2 t3:Int)(l' m':List I4)(n':List I3):Prop:=
 (code=7↔s2<s1+s0)∧(code=0→un=s2+s0∧t1=s1∧t2=s2∧t3=s3∧l'=l∧∃ (p:Nat) (G:List (Int×Int×Unit)) (A:List (Int×Unit)),qx (s3,l,m',())=some (G,pr m' A,())∧A.length=m'.length∧(∀ q,0≤fI A q∧fI A q≤1125899906842624)∧
  m'[p]? =some (id,g,a,b,())∧am=mn (fI A p) (mx 0 (s3 - eP n s2 id n.length))∧((∃ x,n[p]? =some x∧x.1=id)∧n'=n.set p (id,am,un,())∨¬ bU k3 n id∧p≤n.length∧n'=insL n p (id,am,un,())))
def Fq(s0 s1 s2 s3:Int)(l:List I4)(n:List I3)(k id g a b am un code t1 t2 t3:Int)(l' m':List I4)(n':List I3):Prop:=
 (k=1→Yb s0 s1 s2 s3 l n id g a b am un code t1 t2 t3 l' m' n')∧(k=2→code=0→t1=s1∧t2=s2∧t3=s3∧n'=n.filter (fun x=> !(x.1==id)))∧(k=4→code=0→t1=s1∧t2=s2+1∧t3=s3∧n'=n.filter (fun x=> !decide (x.2.2.1≤s2+1)))∧
  (k=5→code=0∧t1=s2∧t2=s2∧t3=s3∧m'=[]∧n'=[])∧(k≠1→k≠2→k≠4→k≠5→code=0→t1=s1∧t2=s2∧n'=n)
theorem XE{m:List I4}{A:List (Int×Unit)}(hA:A.length=m.length){p:Nat}(hp:p<m.length):((pr m A).getD p (0,0,())).2.1=fI A p:=by rw[Be m A _ p (by omega)]
theorem XO(v x:Int)(hv:0≤v∧v≤1125899906842624):0≤mn v (mx 0 x)∧mn v (mx 0 x)≤1125899906842624:=by
 unfold mn mx
 split <;>split at* <;>omega
theorem adk{c:Int}{l m:List I4}(h:kN c l m)(id g a b:Int)(o1:iG id)(o3:dP a)(o4:jL b)(hg:g=0∨bU k4 l g){p:Nat}{x:I4}(hx:m[p]? =some x)(he:id=x.1):kN c l (m.set p (id,g,a,b,())):=by
 refine⟨h.cap,h.ll,by rw[List.length_set];exact h.lm,h.rl,V8 _ hx he h.rm,h.gl,fun y hy=> ?_⟩
 rcases List.mem_or_eq_of_mem_set hy with hy |rfl
 ·exact h.gm y hy
 ·exact⟨o1,hg,o3,o4⟩
theorem adl{c:Int}{l m:List I4}(h:kN c l m)(id g a b:Int)(o1:iG id)(o3:dP a)(o4:jL b)(hg:g=0∨bU k4 l g){p:Nat}(hc:Cut k4 m id p)(hn:¬ bU k4 m id)(h60:m.length<60):kN c l (insL m p (id,g,a,b,())):=by
 refine⟨h.cap,h.ll,by rw[AO _ _ _ hc.le];omega,h.rl,Vy h.rm hc hn,h.gl,fun y hy=> ?_⟩
 rcases(Ew m p _ y).1 hy with rfl |hy
 ·exact⟨o1,hg,o3,o4⟩
 ·exact h.gm y hy
theorem V4{s0 s1 s2 s3:Int}{l m M:List I4}{n N:List I3}(h:fU s0 s1 s2 s3 l m n)(hQ:kN s3 l M)(hid:M.map k4=N.map k3){id am:Int}(o1:iG id)(ha:0≤am∧am≤1125899906842624)(hN:∀ x∈N,x=(id,am,s2+s0,())∨x∈n):fU s0 s1 s2 s3 l M N:=by
 refine⟨h.len,h.born,hQ,hid,fun x hx=> ?_⟩
 rcases hN x hx with rfl |hx
 ·have h1:=h.len
  have h2:=h.born
  exact⟨⟨o1,by unfold dP;omega,by show oL (s2+s0);unfold oL;omega⟩,by show s2<s2+s0;omega,by show s2+s0≤s2+s0;omega⟩
 ·exact h.rn x hx
theorem fU.aeF{s0 s1 s2 s3:Int}{l m:List I4}{n:List I3}(h:fU s0 s1 s2 s3 l m n):kZ n:=N9.2 ⟨by have:=h.same;have:=h.farm.lm;omega,fun x hx=>(h.rn x hx).1,h.yU⟩
theorem afG{s0 s1 s2 s3:Int}{l m:List I4}{n:List I3}(h:fU s0 s1 s2 s3 l m n)(id g a b:Int)(hop:(bW id&&((g==0)||bW g)&&fQ a&&iY b)=true):
  Gz (Yb s0 s1 s2 s3 l n id g a b) s0 s1 s2 s3 l m n 1 id g a b (qy (s0,s1,s2,s3,l,m,n,1,id,g,a,b,())) (DV (s0,s1,s2,s3,l,m,n,1,id,g,a,b,())):=by
 have er:jT (1,id,g,a,b,())=some (true,()):=by rw[afu,hop]
 simp only[Bool.and_eq_true,Bool.or_eq_true,beq_iff_eq,FO,Bv,O8]at hop
 obtain⟨⟨⟨o1,o2⟩,o3⟩,o4⟩:=hop
 have q1:=h.len
 have q2:=h.born
 have hf:=h.farm
 have hl:=hf.ll
 have hm:=hf.lm
 have hsame:=h.same
 have hls:=h.aeF
 obtain⟨p,hc,hM⟩:=Ah s3 l m id (by omega) hf.rm
 obtain⟨e0,e1⟩:=Lm s3 l m id (by omega) hf.rm p hc
 obtain⟨pg,hcg,_⟩:=xu s3 l m g (by omega) hf.rl
 obtain⟨f0,f1⟩:=xq s3 l m g (by omega) hf.rl pg hcg
 have hw1:af (s1+s0)=s1+s0:=aI _ (by omega)
 have hw2:af (s2+s0)=s2+s0:=aI _ (by omega)
 unfold Gz
 by_cases hlearn:s2<s1+s0
 ·refine⟨0,0,7,s1,s2,s3,l,m,n, ?_,by omega,fun h=>by omega,fun _=>⟨rfl,rfl,rfl,rfl,rfl,rfl,rfl,rfl, ?_⟩,⟨fun _=>hlearn,fun _=>rfl⟩,fun h=>by omega⟩
  ·simp only[qy,Du.T,hM,Option.bind_some,hw1,decide_eq_true hlearn,cond_true]
  ·show jw.FF _ s0 s1 s2 s3 l m n 1 id g a b=_
   simp only[jw.FF,jw.T,hw1,decide_eq_true hlearn,cond_true,EO,Option.bind_some]
 by_cases hg:g=0∨bU k4 l g
 ·-- the group is there
  have hspec:∀ (X:Option (Int×Int×Int×Int×List I4×List I4×List I3×Int×Int×Int×Unit)),cond (g != 0) ((jU (s3,l,m,g,())).bind fun y2=>cond (decide (y2.1<0)) ((mg (4,())).bind fun y3=>some (y3.1,y3.2.1,y3.2.2.1,y3.2.2.2.1,y3.2.2.2.2.1,y3.2.2.2.2.2.1,y3.2.2.2.2.2.2.1,y3.2.2.2.2.2.2.2.1,y3.2.2.2.2.2.2.2.2.1,y3.2.2.2.2.2.2.2.2.2.1,())) X) X=X:=by
   intro X
   by_cases h0:g=0
   ·subst h0;rfl
   ·rw[bne_iff_ne.2 h0,cond_true,f0 (hg.resolve_left h0),Option.bind_some,decide_eq_false (by omega),cond_false]
  have sG:DV (s0,s1,s2,s3,l,m,n,1,id,g,a,b,())=jw.FF (300+l.length+m.length+n.length) s0 s1 s2 s3 l m n 1 id g a b:=rfl
  rw[sG]
  simp only[jw.FF,jw.T,hw1,decide_eq_false hlearn,cond_false,copyS s0 s1 s2 s3 l m n (by omega) (by omega) (by omega),Option.bind_some]
  rw[hspec]
  simp only[qy,Du.T,hM,OU hf g,Option.bind_some,hw1,hw2,decide_eq_false hlearn,cond_false,dD hg,Bool.not_true]
  by_cases hi:bU k4 m id
  ·obtain⟨x,hx,hxu⟩:=(hc.has hf.rm).1 hi
   have hxu':id=x.1:=hxu.symm
   have hp:=(List.getElem?_eq_some_iff.1 hx).1
   have hQ:=adk hf id g a b o1 o3 o4 hg hx hxu'
   obtain⟨G,A,hS1,hS2,hA,hAb⟩:=V7 hQ
   have hAl:A.length=m.length:=by rw[hA,List.length_set]
   have hpM:(m.set p (id,g,a,b,()))[p]? =some (id,g,a,b,()):=by rw[List.getElem?_set,if_pos rfl,if_pos hp]
   have hat:=XE hA (p:=p) (by rw[List.length_set];exact hp)
   have hprl:(pr (m.set p (id,g,a,b,())) A).length=m.length:=by rw[qR,hAl]
   have hbd:=XO (fI A p) (s3 - eP n s2 id n.length) (hAb p)
   obtain⟨p3,hc3,hP1,_⟩:=WH hls id (mn (fI A p) (mx 0 (s3 - eP n s2 id n.length))) (s2+s0)
   have hp3:p3=p:=hc3.uniq (WS h.ids hc)
   subst hp3
   have hi3:=(WL h.ids id).2 hi
   have hlp:nO (id,mn (fI A p3) (mx 0 (s3 - eP n s2 id n.length)),s2+s0,()):=⟨o1,by show dP _;unfold dP;omega,by show oL (s2+s0);unfold oL;omega⟩
   have hP2:=(V5 hls id _ (s2+s0) hlp p3 hc3).1 hi3
   have hle:=Ul n hls s2 id
   have hLb:=Ar hls s2 id n.length (Nat.le_refl _)
   have hcap:=hf.cap
   have hw3:af (s3 - eP n s2 id n.length)=s3 - eP n s2 id n.length:=aI _ (by unfold dP at hcap;omega)
   refine⟨mn (fI A p3) (mx 0 (s3 - eP n s2 id n.length)),s2+s0,0,s1,s2,s3,l,m.set p3 (id,g,a,b,()),n.set p3 (id,mn (fI A p3) (mx 0 (s3 - eP n s2 id n.length)),s2+s0,()), ?_,by omega,fun _=>⟨V4 h hQ (by rw[V9,V9,h.ids]) o1 hbd (fun y hy=> ?_), ?_⟩,fun h=>absurd rfl h,⟨fun h=>by omega,fun h=>absurd h hlearn⟩,fun _=>⟨rfl,rfl,rfl,rfl,rfl,p3,G,A,hS1,hA,hAb,hpM,rfl,Or.inl ⟨(hc3.has h.yU).1 hi3,rfl⟩⟩⟩
   ·have c1:(0:Int)≤(p3:Int)∧(p3:Int)<(m.length:Int):=by omega
    simp only[dD hi,Bool.not_true,cond_false,Int.toNat_natCast,if_pos c1,hS1,hle,Option.bind_some,hprl,hat,hw3,Wu,hP1 hi3]
   ·rcases List.mem_or_eq_of_mem_set hy with hy |rfl
    ·exact Or.inr hy
    ·exact Or.inl rfl
   ·have c1:(0:Int)≤(p3:Int)∧(p3:Int)<(m.length:Int):=by omega
    simp only[e0 hi,Option.bind_some,Int.toNat_natCast,if_pos c1,hS2]
    rw[decide_eq_false (by omega),cond_false]
    rw[getLoop _ _ _ s0 s1 s2 s3 l m n 1 id g a b 0 0 0 0 0 0 0 s0 s1 s2 s3 l (m.set p3 (id,g,a,b,())) n (m.set p3 (id,g,a,b,())) A hA (by rw[List.length_set];exact hm) hQ.rm p3 _ hpM rfl _ (by rw[List.length_set];omega)]
    simp only[jw.A0,Vb hls s2 id s3 hcap,minS,hw2,hP2,Option.bind_some]
  ·by_cases h60:m.length=60
   ·refine⟨0,0,6,s1,s2,s3,l,m,n, ?_,by omega,fun h=>by omega,fun _=>⟨rfl,rfl,rfl,rfl,rfl,rfl,rfl,rfl, ?_⟩,⟨fun h=>by omega,fun h=>absurd h hlearn⟩,fun h=>by omega⟩
    ·simp only[eU hi,Bool.not_false,cond_true,h60]
     rfl
    ·have hj:=(Vf hf id g a b p hc hi hg).2 (by omega)
     have hE:kF (s3,l,m,1,id,g,a,b,())=some (0,[],[],0,6,()):=by
      simp only[kF,wZ.T,vg s3 l m (by omega) (by omega),er,qY s3 l m (by omega) (by omega),Option.bind_some,dD (vP.2 hf),hj]
      rfl
     simp only[e1 hi,Option.bind_some,hE]
     rfl
   ·have h60':m.length<60:=by omega
    have hj:=(Vf hf id g a b p hc hi hg).1 h60'
    have hE:kF (s3,l,m,1,id,g,a,b,())=some (s3,l,insL m p (id,g,a,b,()),0,0,()):=by
     simp only[kF,wZ.T,vg s3 l m (by omega) (by omega),er,qY s3 l m (by omega) (by omega),Option.bind_some,dD (vP.2 hf),hj]
     rfl
    have hp:=hc.le
    have hQ:=adl hf id g a b o1 o3 o4 hg hc hi h60'
    have hil:=AO m p (id,g,a,b,()) hp
    obtain⟨G,A,hS1,hS2,hA,hAb⟩:=V7 hQ
    have hAl:A.length=m.length+1:=by rw[hA,hil]
    have hpM:=adZ m p (id,g,a,b,()) hp
    have hat:=XE hA (p:=p) (by omega)
    have hprl:(pr (insL m p (id,g,a,b,())) A).length=m.length+1:=by rw[qR,hAl]
    have hbd:=XO (fI A p) (s3 - eP n s2 id n.length) (hAb p)
    obtain⟨p3,hc3,_,hP1⟩:=WH hls id (mn (fI A p) (mx 0 (s3 - eP n s2 id n.length))) (s2+s0)
    have hp3:p3=p:=hc3.uniq (WS h.ids hc)
    subst hp3
    have hi3:¬ bU k3 n id:=fun hh=>hi ((WL h.ids id).1 hh)
    have hlp:nO (id,mn (fI A p3) (mx 0 (s3 - eP n s2 id n.length)),s2+s0,()):=⟨o1,by show dP _;unfold dP;omega,by show oL (s2+s0);unfold oL;omega⟩
    have hP2:=(V5 hls id _ (s2+s0) hlp p3 hc3).2 hi3 (by omega)
    have hle:=Ul n hls s2 id
    have hLb:=Ar hls s2 id n.length (Nat.le_refl _)
    have hcap:=hf.cap
    have hw3:af (s3 - eP n s2 id n.length)=s3 - eP n s2 id n.length:=aI _ (by unfold dP at hcap;omega)
    refine⟨mn (fI A p3) (mx 0 (s3 - eP n s2 id n.length)),s2+s0,0,s1,s2,s3,l,insL m p3 (id,g,a,b,()),insL n p3 (id,mn (fI A p3) (mx 0 (s3 - eP n s2 id n.length)),s2+s0,()), ?_,by omega,fun _=>⟨V4 h hQ (by rw[Vz,Vz,h.ids]) o1 hbd (fun y hy=>(Ew _ _ _ _).1 hy), ?_⟩,fun h=>absurd rfl h,⟨fun h=>by omega,fun h=>absurd h hlearn⟩,fun _=>⟨rfl,rfl,rfl,rfl,rfl,p3,G,A,hS1,hA,hAb,hpM,rfl,Or.inr ⟨hi3,hc3.le,rfl⟩⟩⟩
    ·have hz:=AO m p3 (0,0,0,0,()) hp
     have c1:(0:Int)≤(p3:Int)∧(p3:Int)<((m.length+1:Nat):Int):=by omega
     simp only[eU hi,Bool.not_false,cond_true,beq_false_of_ne (show(m.length:Int)≠60 by omega),cond_false,afw m p3 _ hp (by omega),Option.bind_some,hz,Int.toNat_natCast,if_pos c1,adb m p3 _ _ hp,hS1,hle,hprl,hat,hw3,Wu,hP1 hi3]
    ·simp only[e1 hi,Option.bind_some,hE,hS2]
     rw[decide_eq_true (by omega),cond_true]
     simp only[bne_self_eq_false,cond_false]
     rw[getLoop _ _ _ s0 s1 s2 s3 l m n 1 id g a b 0 0 0 0 0 0 0 s0 s1 s2 s3 l (insL m p3 (id,g,a,b,())) n (insL m p3 (id,g,a,b,())) A hA (by omega) hQ.rm p3 _ hpM rfl _ (by omega)]
     simp only[jw.A0,Vb hls s2 id s3 hcap,minS,hw2,hP2,Option.bind_some]
 ·have hg':g≠0∧¬ bU k4 l g:=not_or.1 hg
  refine⟨0,0,4,s1,s2,s3,l,m,n, ?_,by omega,fun h=>by omega,fun _=>⟨rfl,rfl,rfl,rfl,rfl,rfl,rfl,rfl, ?_⟩,⟨fun h=>by omega,fun h=>absurd h hlearn⟩,fun h=>by omega⟩
  ·simp only[qy,Du.T,hM,OU hf g,Option.bind_some,hw1,decide_eq_false hlearn,cond_false,eU hg,Bool.not_false,cond_true]
  ·show jw.FF _ s0 s1 s2 s3 l m n 1 id g a b=_
   simp only[jw.FF,jw.T,hw1,decide_eq_false hlearn,cond_false,bne_iff_ne.2 hg'.1,cond_true,f1 hg'.2,Option.bind_some,EO]
   rfl
end Go.Rv
