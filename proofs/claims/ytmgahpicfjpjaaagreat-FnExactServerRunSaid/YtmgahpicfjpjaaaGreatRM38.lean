/- Plain facts: srv10-do-dl, srv11-end, srv12. -/
import Derived.Test.YtmgahpicfjpjaaaGreatRM37
set_option linter.unusedVariables false
set_option linter.unusedSimpArgs false
set_option linter.unusedSectionVars false
namespace Go.Rv
theorem ahs(s0 s1 s2 s3:Int)(l m:List I4)(n:List I3)(hl:l.length≤1048576)(hm:m.length≤1048576)(hn:n.length≤1048576):Jc (s0,s1,s2,s3,l,m,n,())=some (s0,s1,s2,s3,l,m,n,()):=by
 show JK.T s0 s1 s2 s3 l m n=_
 have e:JS (s3,l,m,())=some (s3,l,m,()):=by
  show KX.T s3 l m=_
  simp only[KX.T,agW l hl,cloneM m hm,Option.bind_some]
 simp only[JK.T,e,PZ n hn,Option.bind_some]
theorem iy.small{s0 s1 s2 s3:Int}{l m:List I4}{n:List I3}(h:iy s0 s1 s2 s3 l m n):l.length≤30∧m.length≤60∧n.length≤60:=by
 have:=h.same
 have:=h.farm.ll
 have:=h.farm.lm
 omega
abbrev I5:=Int×Int×Int×Int×Int×Unit
abbrev St:=Int×Int×Int×List I4×List I4×List I3
abbrev SQ(s0:Int)(S:St):Prop:=iy s0 S.1 S.2.1 S.2.2.1 S.2.2.2.1 S.2.2.2.2.1 S.2.2.2.2.2
abbrev Zf(o:I5):Bool:=nV o.1 o.2.1 o.2.2.1 o.2.2.2.1 o.2.2.2.2.1
structure YK (s0:Int) (S:St) (o:I5) (a:I3) (T:St):Prop where
 ok:SQ s0 T
 err:a.2.2.1≠0→T=S∧a.1=0∧a.2.1=0
 imp:Zf o=true∧oQ (s0,S.1,S.2.1,S.2.2.1,S.2.2.2.1,S.2.2.2.2.1,S.2.2.2.2.2,o)=some (a.1,a.2.1,a.2.2.1,s0,T.1,T.2.1,T.2.2.1,T.2.2.2.1,T.2.2.2.2.1,T.2.2.2.2.2,())∨Zf o=false∧a.2.2.1=1
 spc:a.2.2.1=0∧rE (s0,S.1,S.2.1,S.2.2.1,S.2.2.2.1,S.2.2.2.2.1,S.2.2.2.2.2,o)=some (s0,T.1,T.2.1,T.2.2.1,T.2.2.2.1,T.2.2.2.2.1,T.2.2.2.2.2,a.1,a.2.1,0,())∨
  a.2.2.1≠0∧rE (s0,S.1,S.2.1,S.2.2.1,S.2.2.2.1,S.2.2.2.2.1,S.2.2.2.2.2,o)=some (0,0,0,0,[],[],[],0,0,a.2.2.1,())
def vU(s0:Int):St→List I5→List I3→St→Prop
 |S,[],Y,T=>Y=[]∧T=S
 |S,o::r,Y,T=>∃ a U Z,Y=a::Z∧YK s0 S o a U∧vU s0 U r Z T
theorem ag7{s0:Int}(S:St)(h:SQ s0 S)(o:I5):∃ a T,YK s0 S o a T:=by
 obtain⟨s1,s2,s3,l,m,n⟩:=S
 obtain⟨k,id,g,a,b,⟨⟩⟩:=o
 have h:iy s0 s1 s2 s3 l m n:=h
 obtain⟨b1,b2,b3⟩:=h.small
 cases hop:nV k id g a b with
 |true=>
  obtain⟨am,un,c,t1,t2,t3,l',m',n',e1,e2,e3,e4, -⟩:=ag8 h k id g a b hop
  by_cases hc:c=0
  ·subst hc
   obtain⟨r1,r2⟩:=e3 rfl
   exact⟨(am,un,0,()),(t1,t2,t3,l',m',n'),r1,fun h=>absurd rfl h,.inl ⟨hop,e1⟩,.inl ⟨rfl,r2⟩⟩
  ·obtain⟨rfl,rfl,rfl,rfl,rfl,rfl,rfl,rfl,r⟩:=e4 hc
   exact⟨(0,0,c,()),(t1,t2,t3,l',m',n'),h,fun _=>⟨rfl,rfl,rfl⟩,.inl ⟨hop,e1⟩,.inr ⟨hc,r⟩⟩
 |false=>
  refine⟨(0,0,1,()),(s1,s2,s3,l,m,n),h,fun _=>⟨rfl,rfl,rfl⟩,.inr ⟨hop,rfl⟩,.inr ⟨by decide, ?_⟩⟩
  show iR.FF (300+l.length+m.length+n.length) s0 s1 s2 s3 l m n k id g a b=_
  rw[iR.FF,iR.T,NK s0 s1 s2 s3 l m n (by omega) (by omega) (by omega),X6,dH (Qi.2 h),hop];rfl
theorem YT{s0:Int}:∀ (list:List I5) (S:St),SQ s0 S→∃ Y T,Y.length=list.length∧SQ s0 T∧vU s0 S list Y T
 | [],S,h=>⟨[],S,rfl,h,rfl,rfl⟩
 |o::r,S,h=>by
  obtain⟨a,U,hs⟩:=ag7 S h o
  obtain⟨Y,T,h1,h2,h3⟩:=YT r U hs.ok
  exact⟨a::Y,T,by simp[h1],h2,a,U,Y,rfl,hs,h3⟩
theorem drop_at{α:Type}{a:List α}{i:Nat}{x:α}{Z:List α}(h:a.drop i=x::Z):i<a.length∧a[i]? =some x∧a.drop (i+1)=Z:=by
 have e:a[i]? =some x:=by
  have:=congrArg (fun l:List α=>l[0]?) h
  simpa only[List.getElem?_drop,Nat.add_zero,List.getElem?_cons_zero]using this
 refine⟨(List.getElem?_eq_some_iff.1 e).1,e, ?_⟩
 have:=congrArg (List.drop 1) h
 rw[List.drop_drop]at this
 exact this
theorem getD_at{α:Type}{a:List α}{i:Nat}{x:α}(z:α)(h:a[i]? =some x):a.getD i z=x:=by rw[List.getD_eq_getElem?_getD,h];rfl
theorem drop_nil{α:Type}{a:List α}{i:Nat}(h:a.drop i=[]):a.length≤i:=by
 have:=congrArg List.length h
 simp only[List.length_drop,List.length_nil]at this
 omega
theorem Yx(out:List I3)(i:Nat)(h:out.length≤i)(hi:i≤400)(z:I3):out.length+[z].length≤maxRow:=by unfold maxRow;simp only[List.length_cons,List.length_nil];omega
theorem ahc(list:List I5)(hL:list.length≤400)(s0:Int)(R:Type)(k0:Nat)(hs:Int→Int→Int→Int→List I3→Int→Int→Int→Int→List I4→List I4→List I3→Option R)(t0 t1 t2 t3:Int)(T:St):
  ∀ (rest:List I5) (i:Nat) (S:St) (out Z:List I3) (k:Nat),list.drop i=rest→rest.length<k→out.length≤i→vU s0 S rest Z T→
   qE.G0 k0 hs k list (i:Nat) t0 t1 t2 t3 out s0 S.1 S.2.1 S.2.2.1 S.2.2.2.1 S.2.2.2.2.1 S.2.2.2.2.2=hs t0 t1 t2 t3 (out++Z) s0 T.1 T.2.1 T.2.2.1 T.2.2.2.1 T.2.2.2.2.1 T.2.2.2.2.2:=by
 intro rest
 induction rest with
 |nil=>
  rintro i S out Z k hd hk ho ⟨rfl,rfl⟩
  have:=drop_nil hd
  obtain⟨k,rfl⟩:∃ j,k=j+1:=⟨k - 1,by omega⟩
  rw[qE.G0,qE.R0,decide_eq_false (by omega),cond_false,List.append_nil]
 |cons o r ih=>
  rintro i S out Z k hd hk ho ⟨⟨am,un,c,⟨⟩⟩,U,Z',rfl,hs',hR⟩
  obtain⟨h1,h2,h3⟩:=drop_at hd
  rw[List.length_cons]at hk
  obtain⟨k,rfl⟩:∃ j,k=j+1:=⟨k - 1,by omega⟩
  have hw:af ((i:Int)+1)=((i+1:Nat):Int):=aH _ (by omega)
  have r0:=Yx out i ho (by omega)
  have key:=ih (i+1) U (out++[(am,un,c,())]) Z' k h3 (by omega) (by simp only[List.length_append,List.length_cons,List.length_nil];omega) hR
  rw[List.append_assoc]at key
  rw[qE.G0,qE.R0,decide_eq_true (by omega),cond_true,if_pos (by omega),bJ,getD_at _ h2,hw]
  rcases hs'.spc with ⟨c0,e⟩ | ⟨c0,e⟩
  ·have c0:c=0:=c0
   subst c0
   rw[show rE (s0,S.1,S.2.1,S.2.2.1,S.2.2.2.1,S.2.2.2.2.1,S.2.2.2.2.2,o.1,o.2.1,o.2.2.1,o.2.2.2.1,o.2.2.2.2.1,())=_ from e]
   simp only[Option.bind_some,if_pos (r0 _),beq_self_eq_true,cond_true]
   exact key
  ·have c0:c≠0:=c0
   obtain⟨rfl,e1,e2⟩:=hs'.err c0
   have e1:am=0:=e1
   have e2:un=0:=e2
   subst e1 e2
   rw[show rE (s0,U.1,U.2.1,U.2.2.1,U.2.2.2.1,U.2.2.2.2.1,U.2.2.2.2.2,o.1,o.2.1,o.2.2.1,o.2.2.2.1,o.2.2.2.2.1,())=_ from e]
   simp only[Option.bind_some,if_pos (r0 _),beq_false_of_ne c0,cond_false]
   exact key
theorem ahX{s0 s1 s2 s3:Int}{l m:List I4}{n:List I3}(h:iy s0 s1 s2 s3 l m n)(list:List I5)(hL:list.length≤400){Y:List I3}{T:St}(hR:vU s0 (s1,s2,s3,l,m,n) list Y T):
  Ec (s0,s1,s2,s3,l,m,n,list,())=some (Y,s0,T.1,T.2.1,T.2.2.1,T.2.2.2.1,T.2.2.2.2.1,T.2.2.2.2.2,()):=by
 obtain⟨b1,b2,b3⟩:=h.small
 show qE.FF (300+l.length+m.length+n.length+list.length) s0 s1 s2 s3 l m n list=_
 rw[qE.FF,qE.T,copyS s0 s1 s2 s3 l m n (by omega) (by omega) (by omega)]
 exact ahc list hL s0 _ _ _ 0 0 0 0 T list 0 (s1,s2,s3,l,m,n) [] Y _ rfl (by omega) (Nat.le_refl _) hR
theorem ahd(list:List I5)(hL:list.length≤400)(s0:Int)(R:Type)(k0:Nat)
  (h0:Int→Int→Int→Int→List I4→List I4→List I3→List I3→Option R) (h1:Int→Int→Int→Int→List I3→List I4→List I4→List I3→Option R) (h01:∀ a b c d l m n o,h1 a b c d o l m n=h0 a b c d l m n o) (T:St):
  ∀ (rest:List I5) (i:Nat) (S:St) (out Z:List I3),list.drop i=rest→out.length≤i→vU s0 S rest Z T→
    (∀ k,rest.length<k→lN.G1 k0 h0 h1 k list (list.length:Int) (i:Nat) s0 S.1 S.2.1 S.2.2.1 out S.2.2.2.1 S.2.2.2.2.1 S.2.2.2.2.2=h0 s0 T.1 T.2.1 T.2.2.1 T.2.2.2.1 T.2.2.2.2.1 T.2.2.2.2.2 (out++Z))∧
    (∀ k,rest.length<k→lN.G0 k0 h0 h1 k list (list.length:Int) (i:Nat) s0 S.1 S.2.1 S.2.2.1 S.2.2.2.1 S.2.2.2.2.1 S.2.2.2.2.2 out=h0 s0 T.1 T.2.1 T.2.2.1 T.2.2.2.1 T.2.2.2.2.1 T.2.2.2.2.2 (out++Z)):=by
 intro rest
 induction rest with
 |nil=>
  rintro i S out Z hd ho ⟨rfl,rfl⟩
  have:=drop_nil hd
  refine⟨fun k hk=> ?_,fun k hk=> ?_⟩
  ·obtain⟨k,rfl⟩:∃ j,k=j+1:=⟨k - 1,by omega⟩
   rw[lN.G1,lN.R1,decide_eq_false (by omega),cond_false,h01,List.append_nil]
  ·obtain⟨k,rfl⟩:∃ j,k=j+1:=⟨k - 1,by omega⟩
   rw[lN.G0,lN.R0,decide_eq_false (by omega),cond_false,List.append_nil]
 |cons o r ih=>
  rintro i S out Z hd ho ⟨⟨am,un,c,⟨⟩⟩,U,Z',rfl,hs',hR⟩
  obtain⟨h1',h2,h3⟩:=drop_at hd
  rw[List.length_cons]
  have hw:af ((i:Int)+1)=((i+1:Nat):Int):=aH _ (by omega)
  have r0:=Yx out i ho (by omega)
  obtain⟨f1,f2⟩:=ih (i+1) U (out++[(am,un,c,())]) Z' h3 (by simp only[List.length_append,List.length_cons,List.length_nil];omega) hR
  rw[List.append_assoc]at f1 f2
  refine⟨fun k hk=> ?_,fun k hk=> ?_⟩
  ·obtain⟨k,rfl⟩:∃ j,k=j+1:=⟨k - 1,by omega⟩
   rw[lN.G1,lN.R1,decide_eq_true (by omega),cond_true,if_pos (by omega),bJ,getD_at _ h2,hw,Ym]
   rcases hs'.imp with ⟨e0,e⟩ | ⟨e0,e⟩
   ·rw[show nV o.1 o.2.1 o.2.2.1 o.2.2.2.1 o.2.2.2.2.1=true from e0,show oQ (s0,S.1,S.2.1,S.2.2.1,S.2.2.2.1,S.2.2.2.2.1,S.2.2.2.2.2,o.1,o.2.1,o.2.2.1,o.2.2.2.1,o.2.2.2.2.1,())=_ from e]
    simp only[Option.bind_some,if_pos (r0 _),cond_true]
    exact f1 k (by omega)
   ·have e:c=1:=e
    subst e
    obtain⟨rfl,e1,e2⟩:=hs'.err (show(1:Int)≠0 by decide)
    have e1:am=0:=e1
    have e2:un=0:=e2
    subst e1 e2
    rw[show nV o.1 o.2.1 o.2.2.1 o.2.2.2.1 o.2.2.2.2.1=false from e0]
    simp only[Option.bind_some,cond_false]
    exact(if_pos (r0 (0,0,1,()))).trans (f1 k (by omega))
  ·obtain⟨k,rfl⟩:∃ j,k=j+1:=⟨k - 1,by omega⟩
   rw[lN.G0,lN.R0,decide_eq_true (by omega),cond_true,if_pos (by omega),bJ,getD_at _ h2,hw,Ym]
   rcases hs'.imp with ⟨e0,e⟩ | ⟨e0,e⟩
   ·rw[show nV o.1 o.2.1 o.2.2.1 o.2.2.2.1 o.2.2.2.2.1=true from e0,show oQ (s0,S.1,S.2.1,S.2.2.1,S.2.2.2.1,S.2.2.2.2.1,S.2.2.2.2.2,o.1,o.2.1,o.2.2.1,o.2.2.2.1,o.2.2.2.2.1,())=_ from e]
    simp only[Option.bind_some,if_pos (r0 _),cond_true]
    exact f1 k (by omega)
   ·have e:c=1:=e
    subst e
    obtain⟨rfl,e1,e2⟩:=hs'.err (show(1:Int)≠0 by decide)
    have e1:am=0:=e1
    have e2:un=0:=e2
    subst e1 e2
    rw[show nV o.1 o.2.1 o.2.2.1 o.2.2.2.1 o.2.2.2.2.1=false from e0]
    simp only[Option.bind_some,cond_false]
    exact(if_pos (r0 (0,0,1,()))).trans (f2 k (by omega))
theorem allI{s0 s1 s2 s3:Int}{l m:List I4}{n:List I3}(list:List I5)(hL:list.length≤400){Y:List I3}{T:St}(hR:vU s0 (s1,s2,s3,l,m,n) list Y T):
  CX (s0,s1,s2,s3,l,m,n,list,())=some (Y,s0,T.1,T.2.1,T.2.2.1,T.2.2.2.1,T.2.2.2.2.1,T.2.2.2.2.2,()):=by
 show lN.FF (300+l.length+m.length+n.length+list.length) s0 s1 s2 s3 l m n list=_
 exact(ahd list hL s0 _ _ _ (lN.A1 s0 s1 s2 s3 l m n list) (fun _ _ _ _ _ _ _ _=>rfl) T list 0 (s1,s2,s3,l,m,n) [] Y rfl (Nat.le_refl _) hR).2 _ (by omega)
theorem ahY{s0 s1 s2 s3:Int}{l m:List I4}{n:List I3}(h:iy s0 s1 s2 s3 l m n)(list:List I5)(hL:list.length≤300):
  ∃ (u1 u2 u3:Int) (l' m':List I4) (n' Y:List I3),iy s0 u1 u2 u3 l' m' n'∧Y.length=list.length∧vU s0 (s1,s2,s3,l,m,n) list Y (u1,u2,u3,l',m',n')∧
   Ec (s0,s1,s2,s3,l,m,n,list,())=some (Y,s0,u1,u2,u3,l',m',n',())∧
   CX (s0,s1,s2,s3,l,m,n,list,())=some (Y,s0,u1,u2,u3,l',m',n',()):=by
 obtain⟨Y,⟨u1,u2,u3,l',m',n'⟩,hY,q,hR⟩:=YT list (s1,s2,s3,l,m,n) h
 exact⟨u1,u2,u3,l',m',n',Y,q,hY,hR,ahX h list (by omega) hR,allI list (by omega) hR⟩
theorem aha(s0 s1 s2 s3:Int)(l m:List I4)(n:List I3)(list:List I5)(hl:l.length≤1048576)(hm:m.length≤1048576)(hn:n.length≤1048576):
  ∃ Y:List I3,Dp (s0,s1,s2,s3,l,m,n,list,())=some (Y,())∧zI (s0,s1,s2,s3,l,m,n,list,())=some (Y,())∧Y.length≤1048576:=by
 have hS:Dp (s0,s1,s2,s3,l,m,n,list,())=Mc.T s0 s1 s2 s3 l m n list:=rfl
 have hI:zI (s0,s1,s2,s3,l,m,n,list,())=MG.T s0 s1 s2 s3 l m n list:=rfl
 rw[hS,hI,Mc.T,MG.T,NK s0 s1 s2 s3 l m n hl hm hn,adW s0 s1 s2 s3 l m n hl hm hn]
 by_cases h:qH s0 s1 s2 s3 l m n
 ·rw[dH h]
  simp only[Option.bind_some,Bool.not_true,cond_false]
  by_cases hL:(list.length:Int)>300
  ·rw[decide_eq_true hL]
   exact⟨[],rfl,rfl,by simp⟩
  ·obtain⟨u1,u2,u3,l',m',n',Y,q,hY, -, e1,e2⟩:=ahY (Qi.1 h) list (by omega)
   rw[decide_eq_false hL]
   simp only[cond_false,e1,ahs s0 s1 s2 s3 l m n hl hm hn,e2,Option.bind_some]
   exact⟨Y,rfl,rfl,by omega⟩
 ·rw[fB h]
  exact⟨[],rfl,rfl,by simp⟩
theorem adp(s0 s1 s2 s3:Int)(s4 s5:List I4)(s6:List I3)(l:List I5)(h4:s4.length≤140737488355328)(h5:s5.length≤140737488355328)(h6:s6.length≤140737488355328)(h7:l.length≤140737488355328):CB (s0,s1,s2,s3,s4,s5,s6,l,())=some (true,()):=by
 obtain⟨z,hz,h2,h3⟩:=aeP s0 s1 s2 s3 s4 s5 s6 1048576 (by omega) (by omega) h4 h5 h6
 simp only[CB,Ri.T,hz,Option.bind_some]
 simp only[List.mem_cons,List.not_mem_nil,or_false,forall_eq_or_imp,forall_eq]at h3
 by_cases h:z<0
 ·rw[decide_eq_true h];rfl
 rw[decide_eq_false h,cond_false]
 obtain⟨k4,k5,k6⟩:=h3 (by omega)
 have k4':s4.length≤1048576:=by omega
 have k5':s5.length≤1048576:=by omega
 have k6':s6.length≤1048576:=by omega
 obtain⟨z',hz',h2',h3'⟩:=ag6 l z (by omega) (by omega) h7
 simp only[List.mem_cons,List.not_mem_nil,or_false,forall_eq]at h3'
 simp only[hz',Option.bind_some]
 by_cases h':z'<0
 ·rw[decide_eq_true h'];rfl
 rw[decide_eq_false h',cond_false]
 have k7:=h3' (by omega)
 have k7':l.length≤1048576:=by omega
 obtain⟨Y,e1,e2,b1⟩:=aha s0 s1 s2 s3 s4 s5 s6 l k4' k5' k6'
 obtain⟨y1,y2,y3,hmo⟩:=ae3 s0 s1 s2 s3 s4 s5 s6 1 (by omega) (by omega) k4' k5' k6'
 obtain⟨y4,hmo2⟩:=ahe l (1+4*(s4.length:Int)+4*(s5.length:Int)+3*(s6.length:Int)) (by omega) (by omega) k7'
 obtain⟨y5,hm1,hm2⟩:=aeg Y 1 (by omega) (by omega) b1
 have n1:decide (1+4*(s4.length:Int)+4*(s5.length:Int)+3*(s6.length:Int)+5*(l.length:Int)<0)=false:=decide_eq_false (by omega)
 have n2:decide (1+3*(Y.length:Int)<0)=false:=decide_eq_false (by omega)
 simp only[aeK s0 s1 s2 s3 s4 s5 s6 k4' k5' k6',ag4 l k7',e1,e2,aew Y b1,afi s0 s1 s2 s3 s4 s5 s6 k4' k5' k6',ahm l k7',hmo,hmo2,hm1,hm2,n1,n2,Option.bind_some,cond_false,Bool.not_true,bne_self_eq_false]
theorem acU:∀ x:ah.V (cO Ij),ah.ok (cO Ij) x→CB x=some (true,()):=by
 rintro⟨s0,s1,s2,s3,s4,s5,s6,l,⟨⟩⟩ h
 obtain⟨-, -, -, -, ⟨h4, -⟩,⟨h5, -⟩,⟨h6, -⟩,⟨h7, -⟩, -⟩:=h
 exact adp s0 s1 s2 s3 s4 s5 s6 l (Fp (α:=I4) 32 (by omega) h4) (Fp (α:=I4) 32 (by omega) h5) (Fp (α:=I3) 24 (by omega) h6) (Fp (α:=I5) 40 (by omega) h7)
end Go.Rv
