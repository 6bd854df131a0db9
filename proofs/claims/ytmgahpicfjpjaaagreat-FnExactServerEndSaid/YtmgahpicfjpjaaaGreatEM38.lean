/- Plain facts: srv10-do-dl, srv11-run, srv13. -/
import Derived.Test.YtmgahpicfjpjaaaGreatEM37
set_option linter.unusedVariables false
set_option linter.unusedSimpArgs false
set_option linter.unusedSectionVars false
namespace Go.Rv
theorem aht(s0 s1 s2 s3:Int)(l m:List I4)(n:List I3)(hl:l.length≤1048576)(hm:m.length≤1048576)(hn:n.length≤1048576):Jd (s0,s1,s2,s3,l,m,n,())=some (s0,s1,s2,s3,l,m,n,()):=by
 show JL.T s0 s1 s2 s3 l m n=_
 have e:JU (s3,l,m,())=some (s3,l,m,()):=by
  show La.T s3 l m=_
  simp only[La.T,agX l hl,cloneM m hm,Option.bind_some]
 simp only[JL.T,e,PZ n hn,Option.bind_some]
theorem iD.small{s0 s1 s2 s3:Int}{l m:List I4}{n:List I3}(h:iD s0 s1 s2 s3 l m n):l.length≤30∧m.length≤60∧n.length≤60:=by
 have:=h.same
 have:=h.farm.ll
 have:=h.farm.lm
 omega
abbrev I5:=Int×Int×Int×Int×Int×Unit
abbrev St:=Int×Int×Int×List I4×List I4×List I3
abbrev SQ(s0:Int)(S:St):Prop:=iD s0 S.1 S.2.1 S.2.2.1 S.2.2.2.1 S.2.2.2.2.1 S.2.2.2.2.2
abbrev Zj(o:I5):Bool:=nV o.1 o.2.1 o.2.2.1 o.2.2.2.1 o.2.2.2.2.1
structure YO (s0:Int) (S:St) (o:I5) (a:I3) (T:St):Prop where
 ok:SQ s0 T
 err:a.2.2.1≠0→T=S∧a.1=0∧a.2.1=0
 imp:Zj o=true∧oU (s0,S.1,S.2.1,S.2.2.1,S.2.2.2.1,S.2.2.2.2.1,S.2.2.2.2.2,o)=some (a.1,a.2.1,a.2.2.1,s0,T.1,T.2.1,T.2.2.1,T.2.2.2.1,T.2.2.2.2.1,T.2.2.2.2.2,())∨Zj o=false∧a.2.2.1=1
 spc:a.2.2.1=0∧rE (s0,S.1,S.2.1,S.2.2.1,S.2.2.2.1,S.2.2.2.2.1,S.2.2.2.2.2,o)=some (s0,T.1,T.2.1,T.2.2.1,T.2.2.2.1,T.2.2.2.2.1,T.2.2.2.2.2,a.1,a.2.1,0,())∨
  a.2.2.1≠0∧rE (s0,S.1,S.2.1,S.2.2.1,S.2.2.2.1,S.2.2.2.2.1,S.2.2.2.2.2,o)=some (0,0,0,0,[],[],[],0,0,a.2.2.1,())
def vU(s0:Int):St→List I5→List I3→St→Prop
 |S,[],Y,T=>Y=[]∧T=S
 |S,o::r,Y,T=>∃ a U Z,Y=a::Z∧YO s0 S o a U∧vU s0 U r Z T
theorem ag8{s0:Int}(S:St)(h:SQ s0 S)(o:I5):∃ a T,YO s0 S o a T:=by
 obtain⟨s1,s2,s3,l,m,n⟩:=S
 obtain⟨k,id,g,a,b,⟨⟩⟩:=o
 have h:iD s0 s1 s2 s3 l m n:=h
 obtain⟨b1,b2,b3⟩:=h.small
 cases hop:nV k id g a b with
 |true=>
  obtain⟨am,un,c,t1,t2,t3,l',m',n',e1,e2,e3,e4, -⟩:=ag9 h k id g a b hop
  by_cases hc:c=0
  ·subst hc
   obtain⟨r1,r2⟩:=e3 rfl
   exact⟨(am,un,0,()),(t1,t2,t3,l',m',n'),r1,fun h=>absurd rfl h,.inl ⟨hop,e1⟩,.inl ⟨rfl,r2⟩⟩
  ·obtain⟨rfl,rfl,rfl,rfl,rfl,rfl,rfl,rfl,r⟩:=e4 hc
   exact⟨(0,0,c,()),(t1,t2,t3,l',m',n'),h,fun _=>⟨rfl,rfl,rfl⟩,.inl ⟨hop,e1⟩,.inr ⟨hc,r⟩⟩
 |false=>
  refine⟨(0,0,1,()),(s1,s2,s3,l,m,n),h,fun _=>⟨rfl,rfl,rfl⟩,.inr ⟨hop,rfl⟩,.inr ⟨by decide, ?_⟩⟩
  show iR.FF (300+l.length+m.length+n.length) s0 s1 s2 s3 l m n k id g a b=_
  rw[iR.FF,iR.T,NP s0 s1 s2 s3 l m n (by omega) (by omega) (by omega),Ya,dH (Qi.2 h),hop];rfl
theorem YX{s0:Int}:∀ (list:List I5) (S:St),SQ s0 S→∃ Y T,Y.length=list.length∧SQ s0 T∧vU s0 S list Y T
 | [],S,h=>⟨[],S,rfl,h,rfl,rfl⟩
 |o::r,S,h=>by
  obtain⟨a,U,hs⟩:=ag8 S h o
  obtain⟨Y,T,h1,h2,h3⟩:=YX r U hs.ok
  exact⟨a::Y,T,by simp[h1],h2,a,U,Y,rfl,hs,h3⟩
theorem drop_at{α:Type}{a:List α}{i:Nat}{x:α}{Z:List α}(h:a.drop i=x::Z):i<a.length∧a[i]? =some x∧a.drop (i+1)=Z:=by
 have e:a[i]? =some x:=by
  have:=congrArg (fun l:List α=>l[0]?) h
  simpa only[List.getElem?_drop,Nat.add_zero,List.getElem?_cons_zero]using this
 refine⟨(List.getElem?_eq_some_iff.1 e).1,e, ?_⟩
 have:=congrArg (List.drop 1) h
 rw[List.drop_drop]at this
 exact this
theorem getD_at{α:Type}{a:List α}{i:Nat}{x:α}(z:α)(h:a[i]? =some x):a.getD i z=x:=by rw[List.getD_eq_getElem?_getD,h];rfl
theorem drop_nil{α:Type}{a:List α}{i:Nat}(h:a.drop i=[]):a.length≤i:=by
 have:=congrArg List.length h
 simp only[List.length_drop,List.length_nil]at this
 omega
theorem YB(out:List I3)(i:Nat)(h:out.length≤i)(hi:i≤400)(z:I3):out.length+[z].length≤maxRow:=by unfold maxRow;simp only[List.length_cons,List.length_nil];omega
theorem ahc(list:List I5)(hL:list.length≤400)(s0:Int)(R:Type)(k0:Nat)(hs:Int→Int→Int→Int→List I3→Int→Int→Int→Int→List I4→List I4→List I3→Option R)(t0 t1 t2 t3:Int)(T:St):
  ∀ (rest:List I5) (i:Nat) (S:St) (out Z:List I3) (k:Nat),list.drop i=rest→rest.length<k→out.length≤i→vU s0 S rest Z T→
   qC.G0 k0 hs k list (i:Nat) t0 t1 t2 t3 out s0 S.1 S.2.1 S.2.2.1 S.2.2.2.1 S.2.2.2.2.1 S.2.2.2.2.2=hs t0 t1 t2 t3 (out++Z) s0 T.1 T.2.1 T.2.2.1 T.2.2.2.1 T.2.2.2.2.1 T.2.2.2.2.2:=by
 intro rest
 induction rest with
 |nil=>
  rintro i S out Z k hd hk ho ⟨rfl,rfl⟩
  have:=drop_nil hd
  obtain⟨k,rfl⟩:∃ j,k=j+1:=⟨k - 1,by omega⟩
  rw[qC.G0,qC.R0,decide_eq_false (by omega),cond_false,List.append_nil]
 |cons o r ih=>
  rintro i S out Z k hd hk ho ⟨⟨am,un,c,⟨⟩⟩,U,Z',rfl,hs',hR⟩
  obtain⟨h1,h2,h3⟩:=drop_at hd
  rw[List.length_cons]at hk
  obtain⟨k,rfl⟩:∃ j,k=j+1:=⟨k - 1,by omega⟩
  have hw:af ((i:Int)+1)=((i+1:Nat):Int):=aH _ (by omega)
  have r0:=YB out i ho (by omega)
  have key:=ih (i+1) U (out++[(am,un,c,())]) Z' k h3 (by omega) (by simp only[List.length_append,List.length_cons,List.length_nil];omega) hR
  rw[List.append_assoc]at key
  rw[qC.G0,qC.R0,decide_eq_true (by omega),cond_true,if_pos (by omega),bJ,getD_at _ h2,hw]
  rcases hs'.spc with ⟨c0,e⟩ | ⟨c0,e⟩
  ·have c0:c=0:=c0
   subst c0
   rw[show rE (s0,S.1,S.2.1,S.2.2.1,S.2.2.2.1,S.2.2.2.2.1,S.2.2.2.2.2,o.1,o.2.1,o.2.2.1,o.2.2.2.1,o.2.2.2.2.1,())=_ from e]
   simp only[Option.bind_some,if_pos (r0 _),beq_self_eq_true,cond_true]
   exact key
  ·have c0:c≠0:=c0
   obtain⟨rfl,e1,e2⟩:=hs'.err c0
   have e1:am=0:=e1
   have e2:un=0:=e2
   subst e1 e2
   rw[show rE (s0,U.1,U.2.1,U.2.2.1,U.2.2.2.1,U.2.2.2.2.1,U.2.2.2.2.2,o.1,o.2.1,o.2.2.1,o.2.2.2.1,o.2.2.2.2.1,())=_ from e]
   simp only[Option.bind_some,if_pos (r0 _),beq_false_of_ne c0,cond_false]
   exact key
theorem ahY{s0 s1 s2 s3:Int}{l m:List I4}{n:List I3}(h:iD s0 s1 s2 s3 l m n)(list:List I5)(hL:list.length≤400){Y:List I3}{T:St}(hR:vU s0 (s1,s2,s3,l,m,n) list Y T):
  Ea (s0,s1,s2,s3,l,m,n,list,())=some (Y,s0,T.1,T.2.1,T.2.2.1,T.2.2.2.1,T.2.2.2.2.1,T.2.2.2.2.2,()):=by
 obtain⟨b1,b2,b3⟩:=h.small
 show qC.FF (300+l.length+m.length+n.length+list.length) s0 s1 s2 s3 l m n list=_
 rw[qC.FF,qC.T,copyS s0 s1 s2 s3 l m n (by omega) (by omega) (by omega)]
 exact ahc list hL s0 _ _ _ 0 0 0 0 T list 0 (s1,s2,s3,l,m,n) [] Y _ rfl (by omega) (Nat.le_refl _) hR
theorem ahd(list:List I5)(hL:list.length≤400)(s0:Int)(R:Type)(k0:Nat)
  (h0:Int→Int→Int→Int→List I4→List I4→List I3→List I3→Option R) (h1:Int→Int→Int→Int→List I3→List I4→List I4→List I3→Option R) (h01:∀ a b c d l m n o,h1 a b c d o l m n=h0 a b c d l m n o) (T:St):
  ∀ (rest:List I5) (i:Nat) (S:St) (out Z:List I3),list.drop i=rest→out.length≤i→vU s0 S rest Z T→
    (∀ k,rest.length<k→lS.G1 k0 h0 h1 k list (list.length:Int) (i:Nat) s0 S.1 S.2.1 S.2.2.1 out S.2.2.2.1 S.2.2.2.2.1 S.2.2.2.2.2=h0 s0 T.1 T.2.1 T.2.2.1 T.2.2.2.1 T.2.2.2.2.1 T.2.2.2.2.2 (out++Z))∧
    (∀ k,rest.length<k→lS.G0 k0 h0 h1 k list (list.length:Int) (i:Nat) s0 S.1 S.2.1 S.2.2.1 S.2.2.2.1 S.2.2.2.2.1 S.2.2.2.2.2 out=h0 s0 T.1 T.2.1 T.2.2.1 T.2.2.2.1 T.2.2.2.2.1 T.2.2.2.2.2 (out++Z)):=by
 intro rest
 induction rest with
 |nil=>
  rintro i S out Z hd ho ⟨rfl,rfl⟩
  have:=drop_nil hd
  refine⟨fun k hk=> ?_,fun k hk=> ?_⟩
  ·obtain⟨k,rfl⟩:∃ j,k=j+1:=⟨k - 1,by omega⟩
   rw[lS.G1,lS.R1,decide_eq_false (by omega),cond_false,h01,List.append_nil]
  ·obtain⟨k,rfl⟩:∃ j,k=j+1:=⟨k - 1,by omega⟩
   rw[lS.G0,lS.R0,decide_eq_false (by omega),cond_false,List.append_nil]
 |cons o r ih=>
  rintro i S out Z hd ho ⟨⟨am,un,c,⟨⟩⟩,U,Z',rfl,hs',hR⟩
  obtain⟨h1',h2,h3⟩:=drop_at hd
  rw[List.length_cons]
  have hw:af ((i:Int)+1)=((i+1:Nat):Int):=aH _ (by omega)
  have r0:=YB out i ho (by omega)
  obtain⟨f1,f2⟩:=ih (i+1) U (out++[(am,un,c,())]) Z' h3 (by simp only[List.length_append,List.length_cons,List.length_nil];omega) hR
  rw[List.append_assoc]at f1 f2
  refine⟨fun k hk=> ?_,fun k hk=> ?_⟩
  ·obtain⟨k,rfl⟩:∃ j,k=j+1:=⟨k - 1,by omega⟩
   rw[lS.G1,lS.R1,decide_eq_true (by omega),cond_true,if_pos (by omega),bJ,getD_at _ h2,hw,Yq]
   rcases hs'.imp with ⟨e0,e⟩ | ⟨e0,e⟩
   ·rw[show nV o.1 o.2.1 o.2.2.1 o.2.2.2.1 o.2.2.2.2.1=true from e0,show oU (s0,S.1,S.2.1,S.2.2.1,S.2.2.2.1,S.2.2.2.2.1,S.2.2.2.2.2,o.1,o.2.1,o.2.2.1,o.2.2.2.1,o.2.2.2.2.1,())=_ from e]
    simp only[Option.bind_some,if_pos (r0 _),cond_true]
    exact f1 k (by omega)
   ·have e:c=1:=e
    subst e
    obtain⟨rfl,e1,e2⟩:=hs'.err (show(1:Int)≠0 by decide)
    have e1:am=0:=e1
    have e2:un=0:=e2
    subst e1 e2
    rw[show nV o.1 o.2.1 o.2.2.1 o.2.2.2.1 o.2.2.2.2.1=false from e0]
    simp only[Option.bind_some,cond_false]
    exact(if_pos (r0 (0,0,1,()))).trans (f1 k (by omega))
  ·obtain⟨k,rfl⟩:∃ j,k=j+1:=⟨k - 1,by omega⟩
   rw[lS.G0,lS.R0,decide_eq_true (by omega),cond_true,if_pos (by omega),bJ,getD_at _ h2,hw,Yq]
   rcases hs'.imp with ⟨e0,e⟩ | ⟨e0,e⟩
   ·rw[show nV o.1 o.2.1 o.2.2.1 o.2.2.2.1 o.2.2.2.2.1=true from e0,show oU (s0,S.1,S.2.1,S.2.2.1,S.2.2.2.1,S.2.2.2.2.1,S.2.2.2.2.2,o.1,o.2.1,o.2.2.1,o.2.2.2.1,o.2.2.2.2.1,())=_ from e]
    simp only[Option.bind_some,if_pos (r0 _),cond_true]
    exact f1 k (by omega)
   ·have e:c=1:=e
    subst e
    obtain⟨rfl,e1,e2⟩:=hs'.err (show(1:Int)≠0 by decide)
    have e1:am=0:=e1
    have e2:un=0:=e2
    subst e1 e2
    rw[show nV o.1 o.2.1 o.2.2.1 o.2.2.2.1 o.2.2.2.2.1=false from e0]
    simp only[Option.bind_some,cond_false]
    exact(if_pos (r0 (0,0,1,()))).trans (f2 k (by omega))
theorem allI{s0 s1 s2 s3:Int}{l m:List I4}{n:List I3}(list:List I5)(hL:list.length≤400){Y:List I3}{T:St}(hR:vU s0 (s1,s2,s3,l,m,n) list Y T):
  CX (s0,s1,s2,s3,l,m,n,list,())=some (Y,s0,T.1,T.2.1,T.2.2.1,T.2.2.2.1,T.2.2.2.2.1,T.2.2.2.2.2,()):=by
 show lS.FF (300+l.length+m.length+n.length+list.length) s0 s1 s2 s3 l m n list=_
 exact(ahd list hL s0 _ _ _ (lS.A1 s0 s1 s2 s3 l m n list) (fun _ _ _ _ _ _ _ _=>rfl) T list 0 (s1,s2,s3,l,m,n) [] Y rfl (Nat.le_refl _) hR).2 _ (by omega)
theorem ahZ{s0 s1 s2 s3:Int}{l m:List I4}{n:List I3}(h:iD s0 s1 s2 s3 l m n)(list:List I5)(hL:list.length≤300):
  ∃ (u1 u2 u3:Int) (l' m':List I4) (n' Y:List I3),iD s0 u1 u2 u3 l' m' n'∧Y.length=list.length∧vU s0 (s1,s2,s3,l,m,n) list Y (u1,u2,u3,l',m',n')∧
   Ea (s0,s1,s2,s3,l,m,n,list,())=some (Y,s0,u1,u2,u3,l',m',n',())∧
   CX (s0,s1,s2,s3,l,m,n,list,())=some (Y,s0,u1,u2,u3,l',m',n',()):=by
 obtain⟨Y,⟨u1,u2,u3,l',m',n'⟩,hY,q,hR⟩:=YX list (s1,s2,s3,l,m,n) h
 exact⟨u1,u2,u3,l',m',n',Y,q,hY,hR,ahY h list (by omega) hR,allI list (by omega) hR⟩
theorem ahn(s0 s1 s2 s3:Int)(l m:List I4)(n:List I3)(list:List I5)(hl:l.length≤1048576)(hm:m.length≤1048576)(hn:n.length≤1048576):
  ∃ (t0 t1 t2 t3:Int) (l' m':List I4) (n':List I3),Dn (s0,s1,s2,s3,l,m,n,list,())=some (t0,t1,t2,t3,l',m',n',())∧
   zK (s0,s1,s2,s3,l,m,n,list,())=some (t0,t1,t2,t3,l',m',n',())∧(l'.length≤60∨l'.length≤l.length)∧(m'.length≤60∨m'.length≤m.length)∧(n'.length≤60∨n'.length≤n.length):=by
 have hS:Dn (s0,s1,s2,s3,l,m,n,list,())=Me.T s0 s1 s2 s3 l m n list:=rfl
 have hI:zK (s0,s1,s2,s3,l,m,n,list,())=MI.T s0 s1 s2 s3 l m n list:=rfl
 rw[hS,hI,Me.T,MI.T,NP s0 s1 s2 s3 l m n hl hm hn,ad4 s0 s1 s2 s3 l m n hl hm hn,aht s0 s1 s2 s3 l m n hl hm hn,copyS s0 s1 s2 s3 l m n hl hm hn]
 by_cases hM:(list.length:Int)>400
 ·rw[decide_eq_true hM]
  exact⟨0,0,0,0,[],[],[],rfl,rfl,by simp,by simp,by simp⟩
 rw[decide_eq_false hM]
 by_cases h:qG s0 s1 s2 s3 l m n
 ·rw[dH h]
  by_cases hL:(list.length:Int)>300
  ·rw[decide_eq_true hL,decide_eq_false (by omega)]
   exact⟨s0,s1,s2,s3,l,m,n,rfl,rfl,by omega,by omega,by omega⟩
  ·obtain⟨u1,u2,u3,l',m',n',Y,q,hY, -, e1,e2⟩:=ahZ (Qi.1 h) list (by omega)
   rw[decide_eq_false hL,decide_eq_true (by omega)]
   obtain⟨q1,q2,q3⟩:=q.small
   simp only[Bool.not_true,cond_false,cond_true,e1,e2,Option.bind_some]
   exact⟨s0,u1,u2,u3,l',m',n',rfl,rfl,by omega,by omega,by omega⟩
 ·rw[eY h]
  exact⟨s0,s1,s2,s3,l,m,n,rfl,rfl,by omega,by omega,by omega⟩
theorem adw(s0 s1 s2 s3:Int)(s4 s5:List I4)(s6:List I3)(l:List I5)(h4:s4.length≤140737488355328)(h5:s5.length≤140737488355328)(h6:s6.length≤140737488355328)(h7:l.length≤140737488355328):CG (s0,s1,s2,s3,s4,s5,s6,l,())=some (true,()):=by
 obtain⟨z,hz,h2,h3⟩:=aeU s0 s1 s2 s3 s4 s5 s6 1048576 (by omega) (by omega) h4 h5 h6
 simp only[CG,Rj.T,hz,Option.bind_some]
 simp only[List.mem_cons,List.not_mem_nil,or_false,forall_eq_or_imp,forall_eq]at h3
 by_cases h:z<0
 ·rw[decide_eq_true h];rfl
 rw[decide_eq_false h,cond_false]
 obtain⟨k4,k5,k6⟩:=h3 (by omega)
 have k4':s4.length≤1048576:=by omega
 have k5':s5.length≤1048576:=by omega
 have k6':s6.length≤1048576:=by omega
 obtain⟨z',hz',h2',h3'⟩:=ag7 l z (by omega) (by omega) h7
 simp only[List.mem_cons,List.not_mem_nil,or_false,forall_eq]at h3'
 simp only[hz',Option.bind_some]
 by_cases h':z'<0
 ·rw[decide_eq_true h'];rfl
 rw[decide_eq_false h',cond_false]
 have k7:=h3' (by omega)
 have k7':l.length≤1048576:=by omega
 obtain⟨t0,t1,t2,t3,l',m',n',e1,e2,d1,d2,d3⟩:=ahn s0 s1 s2 s3 s4 s5 s6 l k4' k5' k6'
 have b1:l'.length≤1048576:=by omega
 have b2:m'.length≤1048576:=by omega
 have b3:n'.length≤1048576:=by omega
 obtain⟨y1,y2,y3,hmo, -⟩:=WE s0 s1 s2 s3 s4 s5 s6 1 (by omega) (by omega) k4' k5' k6'
 obtain⟨y4,hmo2⟩:=ahe l (1+4*(s4.length:Int)+4*(s5.length:Int)+3*(s6.length:Int)) (by omega) (by omega) k7'
 obtain⟨y5,y6,y7,hm1,hm2⟩:=WE t0 t1 t2 t3 l' m' n' 1 (by omega) (by omega) b1 b2 b3
 have n1:decide (1+4*(s4.length:Int)+4*(s5.length:Int)+3*(s6.length:Int)+5*(l.length:Int)<0)=false:=decide_eq_false (by omega)
 have n2:decide (1+4*(l'.length:Int)+4*(m'.length:Int)+3*(n'.length:Int)<0)=false:=decide_eq_false (by omega)
 simp only[aeP s0 s1 s2 s3 s4 s5 s6 k4' k5' k6',ag5 l k7',e1,e2,WU t0 t1 t2 t3 l' m' n' b1 b2 b3,WU s0 s1 s2 s3 s4 s5 s6 k4' k5' k6',ahm l k7',hmo,hmo2,hm1,hm2,n1,n2,Option.bind_some,cond_false,Bool.not_true,bne_self_eq_false]
theorem ac1:∀ x:ah.V (cO Ik),ah.ok (cO Ik) x→CG x=some (true,()):=by
 rintro⟨s0,s1,s2,s3,s4,s5,s6,l,⟨⟩⟩ h
 obtain⟨-, -, -, -, ⟨h4, -⟩,⟨h5, -⟩,⟨h6, -⟩,⟨h7, -⟩, -⟩:=h
 exact adw s0 s1 s2 s3 s4 s5 s6 l (Fh (α:=I4) 32 (by omega) h4) (Fh (α:=I4) 32 (by omega) h5) (Fh (α:=I3) 24 (by omega) h6) (Fh (α:=I5) 40 (by omega) h7)
end Go.Rv
