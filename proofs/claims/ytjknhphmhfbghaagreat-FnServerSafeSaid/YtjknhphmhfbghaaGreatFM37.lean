/- Plain facts: srv10-dl, srv11-play-run-end. -/
import Derived.Test.YtjknhphmhfbghaaGreatFM36
set_option linter.unusedVariables false
set_option linter.unusedSimpArgs false
set_option linter.unusedSectionVars false
namespace Go.Rv
theorem XM(s0 s1 s2 s3:Int)(l m:List I4)(n:List I3)(hl:l.length≤1048576)(hm:m.length≤1048576)(hn:n.length≤1048576):IG (s0,s1,s2,s3,l,m,n,())=some (s0,s1,s2,s3,l,m,n,()):=by
 show Jl.T s0 s1 s2 s3 l m n=_
 have e:Jr (s3,l,m,())=some (s3,l,m,()):=by
  show J5.T s3 l m=_
  simp only[J5.T,aeR l hl,cloneM m hm,Option.bind_some]
 simp only[Jl.T,e,Oz n hn,Option.bind_some]
theorem fU.small{s0 s1 s2 s3:Int}{l m:List I4}{n:List I3}(h:fU s0 s1 s2 s3 l m n):l.length≤30∧m.length≤60∧n.length≤60:=by
 have:=h.same
 have:=h.farm.ll
 have:=h.farm.lm
 omega
theorem afK(s0 s1 s2 s3:Int)(l m:List I4)(n:List I3)(k id g a b:Int)(hl:l.length≤1048576)(hm:m.length≤1048576)(hn:n.length≤1048576):
  ∃ (t0 t1 t2 t3:Int) (l' m':List I4) (n':List I3) (am un c:Int),kE (s0,s1,s2,s3,l,m,n,k,id,g,a,b,())=some (t0,t1,t2,t3,l',m',n',am,un,c,())∧
   pF (s0,s1,s2,s3,l,m,n,k,id,g,a,b,())=some (t0,t1,t2,t3,l',m',n',am,un,c,())∧l'.length≤60∧m'.length≤60∧n'.length≤60:=by
 have hI:pF (s0,s1,s2,s3,l,m,n,k,id,g,a,b,())=qE.T s0 s1 s2 s3 l m n k id g a b:=rfl
 have hS:kE (s0,s1,s2,s3,l,m,n,k,id,g,a,b,())=gV.FF (300+l.length+m.length+n.length) s0 s1 s2 s3 l m n k id g a b:=rfl
 by_cases h:oG s0 s1 s2 s3 l m n
 ·have hq:=qZ.1 h
  cases hop:oU k id g a b with
  |true=>
   obtain⟨am,un,c,t1,t2,t3,l',m',n',e1,e2,e3,e4, -⟩:=OE hq k id g a b hop
   rw[hI,qE.T,xB s0 s1 s2 s3 l m n hl hm hn,EU,dD h,hop,XM s0 s1 s2 s3 l m n hl hm hn]
   simp only[Option.bind_some,Bool.not_true,cond_false,e1]
   by_cases hc:c=0
   ·subst hc
    obtain⟨r1,r2⟩:=e3 rfl
    obtain⟨q1,q2,q3⟩:=r1.small
    exact⟨s0,t1,t2,t3,l',m',n',am,un,0,r2,rfl,by omega,by omega,by omega⟩
   ·obtain⟨-, -, -, -, -, -, -, -, r⟩:=e4 hc
    exact⟨0,0,0,0,[],[],[],0,0,c,r,by rw[bne_iff_ne.2 hc];rfl,by simp,by simp,by simp⟩
  |false=>
   refine⟨0,0,0,0,[],[],[],0,0,1, ?_, ?_,by simp,by simp,by simp⟩
   ·rw[hS,gV.FF,gV.T,xw s0 s1 s2 s3 l m n hl hm hn,Ol,dD h,hop];rfl
   ·rw[hI,qE.T,xB s0 s1 s2 s3 l m n hl hm hn,EU,dD h,hop];rfl
 ·refine⟨0,0,0,0,[],[],[],0,0,1, ?_, ?_,by simp,by simp,by simp⟩
  ·rw[hS,gV.FF,gV.T,xw s0 s1 s2 s3 l m n hl hm hn,eU h];rfl
  ·rw[hI,qE.T,xB s0 s1 s2 s3 l m n hl hm hn,eU h];rfl
abbrev I5:=Int×Int×Int×Int×Int×Unit
abbrev St:=Int×Int×Int×List I4×List I4×List I3
abbrev SQ(s0:Int)(S:St):Prop:=fU s0 S.1 S.2.1 S.2.2.1 S.2.2.2.1 S.2.2.2.2.1 S.2.2.2.2.2
abbrev Yd(o:I5):Bool:=oU o.1 o.2.1 o.2.2.1 o.2.2.2.1 o.2.2.2.2.1
structure XP (s0:Int) (S:St) (o:I5) (a:I3) (T:St):Prop where
 ok:SQ s0 T
 err:a.2.2.1≠0→T=S∧a.1=0∧a.2.1=0
 imp:Yd o=true∧wO (s0,S.1,S.2.1,S.2.2.1,S.2.2.2.1,S.2.2.2.2.1,S.2.2.2.2.2,o)=some (a.1,a.2.1,a.2.2.1,s0,T.1,T.2.1,T.2.2.1,T.2.2.2.1,T.2.2.2.2.1,T.2.2.2.2.2,())∨Yd o=false∧a.2.2.1=1
 spc:a.2.2.1=0∧kE (s0,S.1,S.2.1,S.2.2.1,S.2.2.2.1,S.2.2.2.2.1,S.2.2.2.2.2,o)=some (s0,T.1,T.2.1,T.2.2.1,T.2.2.2.1,T.2.2.2.2.1,T.2.2.2.2.2,a.1,a.2.1,0,())∨
  a.2.2.1≠0∧kE (s0,S.1,S.2.1,S.2.2.1,S.2.2.2.1,S.2.2.2.2.1,S.2.2.2.2.2,o)=some (0,0,0,0,[],[],[],0,0,a.2.2.1,())
def FK(s0:Int):St→List I5→List I3→St→Prop
 |S,[],Y,T=>Y=[]∧T=S
 |S,o::r,Y,T=>∃ a U Z,Y=a::Z∧XP s0 S o a U∧FK s0 U r Z T
theorem ae0{s0:Int}(S:St)(h:SQ s0 S)(o:I5):∃ a T,XP s0 S o a T:=by
 obtain⟨s1,s2,s3,l,m,n⟩:=S
 obtain⟨k,id,g,a,b,⟨⟩⟩:=o
 have h:fU s0 s1 s2 s3 l m n:=h
 obtain⟨b1,b2,b3⟩:=h.small
 cases hop:oU k id g a b with
 |true=>
  obtain⟨am,un,c,t1,t2,t3,l',m',n',e1,e2,e3,e4, -⟩:=OE h k id g a b hop
  by_cases hc:c=0
  ·subst hc
   obtain⟨r1,r2⟩:=e3 rfl
   exact⟨(am,un,0,()),(t1,t2,t3,l',m',n'),r1,fun h=>absurd rfl h,.inl ⟨hop,e1⟩,.inl ⟨rfl,r2⟩⟩
  ·obtain⟨rfl,rfl,rfl,rfl,rfl,rfl,rfl,rfl,r⟩:=e4 hc
   exact⟨(0,0,c,()),(t1,t2,t3,l',m',n'),h,fun _=>⟨rfl,rfl,rfl⟩,.inl ⟨hop,e1⟩,.inr ⟨hc,r⟩⟩
 |false=>
  refine⟨(0,0,1,()),(s1,s2,s3,l,m,n),h,fun _=>⟨rfl,rfl,rfl⟩,.inr ⟨hop,rfl⟩,.inr ⟨by decide, ?_⟩⟩
  show gV.FF (300+l.length+m.length+n.length) s0 s1 s2 s3 l m n k id g a b=_
  rw[gV.FF,gV.T,xw s0 s1 s2 s3 l m n (by omega) (by omega) (by omega),Ol,dD (qZ.2 h),hop];rfl
theorem X0{s0:Int}:∀ (list:List I5) (S:St),SQ s0 S→∃ Y T,Y.length=list.length∧SQ s0 T∧FK s0 S list Y T
 | [],S,h=>⟨[],S,rfl,h,rfl,rfl⟩
 |o::r,S,h=>by
  obtain⟨a,U,hs⟩:=ae0 S h o
  obtain⟨Y,T,h1,h2,h3⟩:=X0 r U hs.ok
  exact⟨a::Y,T,by simp[h1],h2,a,U,Y,rfl,hs,h3⟩
theorem drop_at{α:Type}{a:List α}{i:Nat}{x:α}{Z:List α}(h:a.drop i=x::Z):i<a.length∧a[i]? =some x∧a.drop (i+1)=Z:=by
 have e:a[i]? =some x:=by
  have:=congrArg (fun l:List α=>l[0]?) h
  simpa only[List.getElem?_drop,Nat.add_zero,List.getElem?_cons_zero]using this
 refine⟨(List.getElem?_eq_some_iff.1 e).1,e, ?_⟩
 have:=congrArg (List.drop 1) h
 rw[List.drop_drop]at this
 exact this
theorem getD_at{α:Type}{a:List α}{i:Nat}{x:α}(z:α)(h:a[i]? =some x):a.getD i z=x:=by rw[List.getD_eq_getElem?_getD,h];rfl
theorem drop_nil{α:Type}{a:List α}{i:Nat}(h:a.drop i=[]):a.length≤i:=by
 have:=congrArg List.length h
 simp only[List.length_drop,List.length_nil]at this
 omega
theorem ae2(out:List I3)(i:Nat)(h:out.length≤i)(hi:i≤400)(z:I3):out.length+[z].length≤maxRow:=by unfold maxRow;simp only[List.length_cons,List.length_nil];omega
theorem ae4(list:List I5)(hL:list.length≤400)(s0:Int)(R:Type)(k0:Nat)(hs:Int→Int→Int→Int→List I3→Int→Int→Int→Int→List I4→List I4→List I3→Option R)(t0 t1 t2 t3:Int)(T:St):
  ∀ (rest:List I5) (i:Nat) (S:St) (out Z:List I3) (k:Nat),list.drop i=rest→rest.length<k→out.length≤i→FK s0 S rest Z T→
   qG.G0 k0 hs k list (i:Nat) t0 t1 t2 t3 out s0 S.1 S.2.1 S.2.2.1 S.2.2.2.1 S.2.2.2.2.1 S.2.2.2.2.2=hs t0 t1 t2 t3 (out++Z) s0 T.1 T.2.1 T.2.2.1 T.2.2.2.1 T.2.2.2.2.1 T.2.2.2.2.2:=by
 intro rest
 induction rest with
 |nil=>
  rintro i S out Z k hd hk ho ⟨rfl,rfl⟩
  have:=drop_nil hd
  obtain⟨k,rfl⟩:∃ j,k=j+1:=⟨k - 1,by omega⟩
  rw[qG.G0,qG.R0,decide_eq_false (by omega),cond_false,List.append_nil]
 |cons o r ih=>
  rintro i S out Z k hd hk ho ⟨⟨am,un,c,⟨⟩⟩,U,Z',rfl,hs',hR⟩
  obtain⟨h1,h2,h3⟩:=drop_at hd
  rw[List.length_cons]at hk
  obtain⟨k,rfl⟩:∃ j,k=j+1:=⟨k - 1,by omega⟩
  have hw:af ((i:Int)+1)=((i+1:Nat):Int):=aI _ (by omega)
  have r0:=ae2 out i ho (by omega)
  have key:=ih (i+1) U (out++[(am,un,c,())]) Z' k h3 (by omega) (by simp only[List.length_append,List.length_cons,List.length_nil];omega) hR
  rw[List.append_assoc]at key
  rw[qG.G0,qG.R0,decide_eq_true (by omega),cond_true,if_pos (by omega),bZ,getD_at _ h2,hw]
  rcases hs'.spc with ⟨c0,e⟩ | ⟨c0,e⟩
  ·have c0:c=0:=c0
   subst c0
   rw[show kE (s0,S.1,S.2.1,S.2.2.1,S.2.2.2.1,S.2.2.2.2.1,S.2.2.2.2.2,o.1,o.2.1,o.2.2.1,o.2.2.2.1,o.2.2.2.2.1,())=_ from e]
   simp only[Option.bind_some,if_pos (r0 _),beq_self_eq_true,cond_true]
   exact key
  ·have c0:c≠0:=c0
   obtain⟨rfl,e1,e2⟩:=hs'.err c0
   have e1:am=0:=e1
   have e2:un=0:=e2
   subst e1 e2
   rw[show kE (s0,U.1,U.2.1,U.2.2.1,U.2.2.2.1,U.2.2.2.2.1,U.2.2.2.2.2,o.1,o.2.1,o.2.2.1,o.2.2.2.1,o.2.2.2.2.1,())=_ from e]
   simp only[Option.bind_some,if_pos (r0 _),beq_false_of_ne c0,cond_false]
   exact key
theorem afQ{s0 s1 s2 s3:Int}{l m:List I4}{n:List I3}(h:fU s0 s1 s2 s3 l m n)(list:List I5)(hL:list.length≤400){Y:List I3}{T:St}(hR:FK s0 (s1,s2,s3,l,m,n) list Y T):
  Le (s0,s1,s2,s3,l,m,n,list,())=some (Y,s0,T.1,T.2.1,T.2.2.1,T.2.2.2.1,T.2.2.2.2.1,T.2.2.2.2.2,()):=by
 obtain⟨b1,b2,b3⟩:=h.small
 show qG.FF (300+l.length+m.length+n.length+list.length) s0 s1 s2 s3 l m n list=_
 rw[qG.FF,qG.T,copyS s0 s1 s2 s3 l m n (by omega) (by omega) (by omega)]
 exact ae4 list hL s0 _ _ _ 0 0 0 0 T list 0 (s1,s2,s3,l,m,n) [] Y _ rfl (by omega) (Nat.le_refl _) hR
theorem afJ(s0 s1 s2 s3:Int)(l m:List I4)(n:List I3)(list:List I5)(hl:l.length≤1048576)(hm:m.length≤1048576)(hn:n.length≤1048576):
  ∃ (t0 t1 t2 t3:Int) (l' m':List I4) (n':List I3),zJ (s0,s1,s2,s3,l,m,n,list,())=some (t0,t1,t2,t3,l',m',n',())∧
   (l'.length≤60∨l'.length≤l.length)∧(m'.length≤60∨m'.length≤m.length)∧(n'.length≤60∨n'.length≤n.length):=by
 have hS:zJ (s0,s1,s2,s3,l,m,n,list,())=KJ.T s0 s1 s2 s3 l m n list:=rfl
 rw[hS,KJ.T,xw s0 s1 s2 s3 l m n hl hm hn,copyS s0 s1 s2 s3 l m n hl hm hn]
 by_cases hM:(list.length:Int)>400
 ·rw[decide_eq_true hM]
  exact⟨0,0,0,0,[],[],[],rfl,by simp,by simp,by simp⟩
 rw[decide_eq_false hM]
 by_cases h:oG s0 s1 s2 s3 l m n
 ·rw[dD h]
  by_cases hL:(list.length:Int)>300
  ·rw[decide_eq_true hL]
   exact⟨s0,s1,s2,s3,l,m,n,rfl,by omega,by omega,by omega⟩
  ·obtain⟨Y,T, -, q,hR⟩:=X0 list (s1,s2,s3,l,m,n) (qZ.1 h)
   obtain⟨q1,q2,q3⟩:=fU.small q
   rw[decide_eq_false hL]
   simp only[Bool.not_true,cond_false,afQ (qZ.1 h) list (by omega) hR,Option.bind_some]
   exact⟨s0,_,_,_,_,_,_,rfl,by omega,by omega,by omega⟩
 ·rw[eU h]
  exact⟨s0,s1,s2,s3,l,m,n,rfl,by omega,by omega,by omega⟩
end Go.Rv
