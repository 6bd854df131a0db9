/- Plain facts: parts. -/
import Derived.Test.YtjknhphmhfbghaaGreatPM38
set_option linter.unusedVariables false
set_option linter.unusedSimpArgs false
set_option linter.unusedSectionVars false
namespace Go.Rv
theorem YF{s0:Int}{S T:St}{o:I5}{a:I3}(h:fV s0 S.1 S.2.1 S.2.2.1 S.2.2.2.1 S.2.2.2.2.1 S.2.2.2.2.2)(hs:O9 s0 S o a T):
  (a.2.2.1=0∧pI (s0,S.1,S.2.1,S.2.2.1,S.2.2.2.1,S.2.2.2.2.1,S.2.2.2.2.2,o)=some (s0,T.1,T.2.1,T.2.2.1,T.2.2.2.1,T.2.2.2.2.1,T.2.2.2.2.2,a.1,a.2.1,0,()))∨
  (a.2.2.1≠0∧T=S∧a.1=0∧a.2.1=0∧pI (s0,S.1,S.2.1,S.2.2.1,S.2.2.2.1,S.2.2.2.2.1,S.2.2.2.2.2,o)=some (0,0,0,0,[],[],[],0,0,a.2.2.1,())):=by
 obtain⟨s1,s2,s3,l,m,n⟩:=S
 obtain⟨o0,o1,o2,o3,o4,⟨⟩⟩:=o
 obtain⟨b1,b2,b3⟩:=h.small
 have h2:=hs.err
 have h3:=hs.imp
 have hI:pI (s0,s1,s2,s3,l,m,n,o0,o1,o2,o3,o4,())=uO.T s0 s1 s2 s3 l m n o0 o1 o2 o3 o4:=rfl
 have e0:=FK s0 s1 s2 s3 l m n (by show l.length≤_;have:l.length≤30:=b1;omega) (by show m.length≤_;have:m.length≤60:=b2;omega) (by show n.length≤_;have:n.length≤60:=b3;omega)
 have e1:=ve s0 s1 s2 s3 l m n (by show l.length≤_;have:l.length≤30:=b1;omega) (by show m.length≤_;have:m.length≤60:=b2;omega) (by show n.length≤_;have:n.length≤60:=b3;omega)
 rw[dD (qo.2 h)]at e1
 show(_∧pI (s0,s1,s2,s3,l,m,n,o0,o1,o2,o3,o4,())=_)∨(_∧_∧_∧_∧pI (s0,s1,s2,s3,l,m,n,o0,o1,o2,o3,o4,())=_)
 rw[hI,uO.T,e1,Bv,e0]
 simp only[Option.bind_some,Bool.not_true,cond_false]
 rcases h3 with ⟨k1,k2⟩ | ⟨k1,k2⟩
 ·have k1':lG o0 o1 o2 o3 o4=true:=k1
  rw[k1',k2]
  simp only[Option.bind_some,Bool.not_true,cond_false]
  by_cases hc:a.2.2.1=0
  ·refine Or.inl ⟨hc, ?_⟩
   rw[hc];rfl
  ·refine Or.inr ⟨hc,(h2 hc).1,(h2 hc).2.1,(h2 hc).2.2, ?_⟩
   rw[bne_iff_ne.2 hc];rfl
 ·have k1':lG o0 o1 o2 o3 o4=false:=k1
  have hc:a.2.2.1≠0:=by omega
  refine Or.inr ⟨hc,(h2 hc).1,(h2 hc).2.1,(h2 hc).2.2, ?_⟩
  rw[k1',k2];rfl
theorem ac2(l:List I3)(hl:l.length≤1048576):Lp (l,l,())=some (true,()):=by
 obtain⟨K,hK,hK2⟩:∃ K,K=300+l.length+l.length∧l.length<K:=⟨_,rfl,by omega⟩
 show mr.FF (300+l.length+l.length) l l=_
 rw[←hK,mr.FF,mr.T]
 rw[show((l.length:Int) != (l.length:Int))=false by simp,cond_false]
 refine run 0 l.length (fun k i=>mr.G0 K (mr.A0 l l) (mr.A1 l l) k l l (i:Nat)) _ (fun k i _ hi=> ?_) (fun k=> ?_) K (by omega) (by omega)
 ·show mr.G0 K _ _ (k+1) l l (i:Nat)=mr.G0 K _ _ k l l ((i+1:Nat):Int)
  rw[mr.G0,mr.R0,decide_eq_true (by omega),cond_true,if_pos (by omega),if_pos (by omega),aH _ (by omega)]
  simp only[beq_self_eq_true,Bool.and_true,Bool.not_true,cond_false]
  rfl
 ·rw[mr.G0,mr.R0,decide_eq_false (by omega),cond_false];rfl
theorem aer(c:Int)(l m:List I4)(hl:l.length≤1048576)(hm:m.length≤1048576):LY (c,l,m,c,l,m,())=some (true,()):=by
 obtain⟨K,hK,hK2⟩:∃ K,K=300+l.length+m.length+l.length+m.length∧l.length+m.length<K:=⟨_,rfl,by omega⟩
 show gY.FF (300+l.length+m.length+l.length+m.length) c l m c l m=_
 rw[←hK,gY.FF,gY.T]
 rw[show(c != c)=false by simp,show((l.length:Int) != (l.length:Int))=false by simp,show((m.length:Int) != (m.length:Int))=false by simp,cond_false,cond_false,cond_false]
 refine run 0 l.length (fun k i=>gY.G0 K (gY.A0 c l m c l m) (gY.A1 (gY.G1 K (gY.A2 c l m c l m) (gY.A3 c l m c l m) K) c l m c l m) k (i:Nat) c l m c l m) _ (fun k i _ hi=> ?_) (fun k=> ?_) K (by omega) (by omega)
 ·show gY.G0 K _ _ (k+1) (i:Nat) c l m c l m=gY.G0 K _ _ k ((i+1:Nat):Int) c l m c l m
  rw[gY.G0,gY.R0,decide_eq_true (by omega),cond_true,if_pos (by omega),if_pos (by omega),aH _ (by omega)]
  simp only[beq_self_eq_true,Bool.and_true,Bool.not_true,cond_false]
  rfl
 ·rw[gY.G0,gY.R0,decide_eq_false (by omega),cond_false,gY.A1]
  refine run 0 m.length (fun k i=>gY.G1 K (gY.A2 c l m c l m) (gY.A3 c l m c l m) k (i:Nat) c l m c l m) _ (fun k i _ hi=> ?_) (fun k=> ?_) K (by omega) (by omega)
  ·show gY.G1 K _ _ (k+1) (i:Nat) c l m c l m=gY.G1 K _ _ k ((i+1:Nat):Int) c l m c l m
   rw[gY.G1,gY.R1,decide_eq_true (by omega),cond_true,if_pos (by omega),if_pos (by omega),aH _ (by omega)]
   simp only[beq_self_eq_true,Bool.and_true,Bool.not_true,cond_false]
   rfl
  ·rw[gY.G1,gY.R1,decide_eq_false (by omega),cond_false];rfl
theorem ac1(s0 s1 s2 s3:Int)(l m:List I4)(n:List I3)(hl:l.length≤1048576)(hm:m.length≤1048576)(hn:n.length≤1048576):Ad (s0,s1,s2,s3,l,m,n,s0,s1,s2,s3,l,m,n,())=some (true,()):=by
 simp only[Ad,TJ.T,aer s3 l m hl hm,ac2 n hn,beq_self_eq_true,cond_true,Option.bind_some]
theorem OT(l:List I5)(hl:l.length≤1048576):xw (l,())=some (l,()):=by
 simp only[xw,UZ.T,List.length_nil,Nat.zero_add,List.nil_append]
 rw[if_pos (by unfold maxRow;omega)]
theorem afg{s0 s1 s2 s3:Int}{l m:List I4}{n:List I3}(h:fV s0 s1 s2 s3 l m n):∃ v,zL (s0,s1,s2,s3,l,m,n,())=some (v,())∧zK (s0,s1,s2,s3,l,m,n,())=some (v,()):=by
 obtain⟨b1,b2,b3⟩:=h.small
 have hb:=xJ h.Fa s2 0 n.length (Nat.le_refl _)
 have hc:=h.farm.cap
 unfold dN at hc
 refine⟨mx 0 (s3 - dS n s2 0 n.length), ?_, ?_⟩
 ·simp only[zL,Sl.T,JI,Rq.T,ve s0 s1 s2 s3 l m n (by omega) (by omega) (by omega),dD (qo.2 h),MX n h.Fa s2 0,Option.bind_some,Bool.not_true,cond_false,OA]
  rw[aH _ (by omega)]
 ·have e:oC (0,af (s3 - dS n s2 0 n.length),())=some (mx 0 (s3 - dS n s2 0 n.length),()):=by
   rw[aH _ (by omega)]
   simp only[oC,Eg.T,mx]
   by_cases hh:(0:Int)>s3 - dS n s2 0 n.length
   ·rw[decide_eq_true hh,cond_true];simp;omega
   ·rw[decide_eq_false hh,cond_false];simp;omega
  simp only[zK,RQ.T,Lm,TG.T,uX s0 s1 s2 s3 l m n (by omega) (by omega) (by omega),dD (qo.2 h),UJ n h.Fa s2 0,Option.bind_some,Bool.not_true,cond_false,e]
section
variable (k0:Nat) (code:List (Int×Unit)) (list:List I5) (a:List I3) (s s2 s3 s4 s0:Int) (T:St) (o4 o5:List I4) (o6:List I3) (hl:list.length≤400) (hal:a.length=list.length)
include hl hal
theorem aej(H3:fU.A3 code s s2 s3 s4 list s0 T.1 T.2.1 T.2.2.1 o4 o5 o6 T.2.2.2.1 T.2.2.2.2.1 T.2.2.2.2.2=some (true,())):
  ∀ (d i k:Nat) (S:St) (Z:List I3),i+d=list.length→d<k→fV s0 S.1 S.2.1 S.2.2.1 S.2.2.2.1 S.2.2.2.2.1 S.2.2.2.2.2→rC s0 S (list.drop i) Z T→a.drop i=Z→
   fU.G1 k0 (fU.A0 code) (fU.A1 code) (fU.A2 code) (fU.A3 code) k (i:Nat) s s2 s3 s4 list a s0 S.1 S.2.1 S.2.2.1 o4 o5 o6 S.2.2.2.1 S.2.2.2.2.1 S.2.2.2.2.2=some (true,()):=by
 intro d
 induction d with
 |zero=>
  intro i k S Z hi hk hS hR hz
  obtain⟨k,rfl⟩:∃ j,k=j+1:=⟨k - 1,by omega⟩
  rw[List.drop_of_length_le (by omega)]at hR
  obtain⟨-, rfl⟩:=hR
  rw[fU.G1,fU.R1,decide_eq_false (by omega),cond_false]
  exact H3
 |succ d ih=>
  intro i k S Z hi hk hS hR hz
  obtain⟨k,rfl⟩:∃ j,k=j+1:=⟨k - 1,by omega⟩
  have h1:i<list.length:=by omega
  obtain⟨q0,q1,q2,q3,q4,ho⟩:∃ q0 q1 q2 q3 q4,list[i]=(q0,q1,q2,q3,q4,()):=⟨_,_,_,_,_,rfl⟩
  rw[List.drop_eq_getElem_cons h1,ho]at hR
  obtain⟨⟨x0,x1,x2,⟨⟩⟩,U,Z',rfl,hs,hR'⟩:=hR
  obtain⟨-, hx,hz'⟩:=drop_at hz
  replace hx:=getD_at (0,0,0,()) hx
  have ho':list.getD i (0,0,0,0,0,())=(q0,q1,q2,q3,q4,()):=by rw[List.getD_eq_getElem?_getD,List.getElem?_eq_getElem h1,ho];rfl
  have hw:af ((i:Int)+1)=((i+1:Nat):Int):=aH _ (by omega)
  rw[fU.G1,fU.R1,decide_eq_true (by omega),cond_true,if_pos (by omega),Int.toNat_natCast,ho',hx,hw]
  rcases YF hS hs with ⟨c0,e⟩ | ⟨c1,rfl,z1,z2,e⟩
  ·have c0:x2=0:=c0
   subst c0
   simp only[e,Option.bind_some]
   rw[if_pos (by omega)]
   simp only[beq_self_eq_true,Bool.and_true,Bool.not_true,cond_false,cond_true]
   exact ih (i+1) k U Z' (by omega) (by omega) hs.ok hR' hz'
  ·have z1:x0=0:=z1
   have z2:x1=0:=z2
   have c1:x2≠0:=c1
   subst z1 z2
   simp only[e,Option.bind_some]
   rw[if_pos (by omega)]
   simp only[beq_self_eq_true,Bool.and_true,Bool.not_true,cond_false,beq_false_of_ne c1]
   exact ih (i+1) k U Z' (by omega) (by omega) hs.ok hR' hz'
end
section
variable (k0:Nat) (code:List (Int×Unit)) (list:List I5) (a:List I3) (s s2 s3 s4 s0:Int) (T S:St) (hl:list.length≤400) (hal:a.length=list.length) (hS:fV s0 S.1 S.2.1 S.2.2.1 S.2.2.2.1 S.2.2.2.2.1 S.2.2.2.2.2)
include hl hal hS
theorem aek(hk0:400≤k0)(H1:T=S→fU.A1 code s s2 s3 s4 list s0 T.1 T.2.1 T.2.2.1 T.2.2.2.1 T.2.2.2.2.1 T.2.2.2.2.2=some (true,()))(H3:fU.A3 code s s2 s3 s4 list s0 T.1 T.2.1 T.2.2.1 S.2.2.2.1 S.2.2.2.2.1 S.2.2.2.2.2 T.2.2.2.1 T.2.2.2.2.1 T.2.2.2.2.2=some (true,())):
  ∀ (d i k:Nat) (Z:List I3),i+d=list.length→d<k→rC s0 S (list.drop i) Z T→a.drop i=Z→
   fU.G0 k0 (fU.A0 code) (fU.A1 code) (fU.A2 code) (fU.A3 code) k (i:Nat) s s2 s3 s4 list a s0 S.1 S.2.1 S.2.2.1 S.2.2.2.1 S.2.2.2.2.1 S.2.2.2.2.2=some (true,()):=by
 intro d
 induction d with
 |zero=>
  intro i k Z hi hk hR hz
  obtain⟨k,rfl⟩:∃ j,k=j+1:=⟨k - 1,by omega⟩
  rw[List.drop_of_length_le (by omega)]at hR
  obtain⟨-, rfl⟩:=hR
  rw[fU.G0,fU.R0,decide_eq_false (by omega),cond_false]
  exact H1 rfl
 |succ d ih=>
  intro i k Z hi hk hR hz
  obtain⟨k,rfl⟩:∃ j,k=j+1:=⟨k - 1,by omega⟩
  have h1:i<list.length:=by omega
  obtain⟨q0,q1,q2,q3,q4,ho⟩:∃ q0 q1 q2 q3 q4,list[i]=(q0,q1,q2,q3,q4,()):=⟨_,_,_,_,_,rfl⟩
  rw[List.drop_eq_getElem_cons h1,ho]at hR
  obtain⟨⟨x0,x1,x2,⟨⟩⟩,U,Z',rfl,hs,hR'⟩:=hR
  obtain⟨-, hx,hz'⟩:=drop_at hz
  replace hx:=getD_at (0,0,0,()) hx
  have ho':list.getD i (0,0,0,0,0,())=(q0,q1,q2,q3,q4,()):=by rw[List.getD_eq_getElem?_getD,List.getElem?_eq_getElem h1,ho];rfl
  have hw:af ((i:Int)+1)=((i+1:Nat):Int):=aH _ (by omega)
  rw[fU.G0,fU.R0,decide_eq_true (by omega),cond_true,if_pos (by omega),Int.toNat_natCast,ho',hx,hw]
  rcases YF hS hs with ⟨c0,e⟩ | ⟨c1,rfl,z1,z2,e⟩
  ·have c0:x2=0:=c0
   subst c0
   simp only[e,Option.bind_some]
   rw[if_pos (by omega)]
   simp only[beq_self_eq_true,Bool.and_true,Bool.not_true,cond_false,cond_true]
   exact aej k0 code list a s s2 s3 s4 s0 T S.2.2.2.1 S.2.2.2.2.1 S.2.2.2.2.2 hl hal H3 d (i+1) k U Z' (by omega) (by omega) hs.ok hR' hz'
  ·have z1:x0=0:=z1
   have z2:x1=0:=z2
   have c1:x2≠0:=c1
   subst z1 z2
   simp only[e,Option.bind_some]
   rw[if_pos (by omega)]
   simp only[beq_self_eq_true,Bool.and_true,Bool.not_true,cond_false,beq_false_of_ne c1]
   exact ih (i+1) k Z' (by omega) (by omega) hR' hz'
end
theorem abE(code:List (Int×Unit)):Je (code,())=some (true,()):=by
 show fU.FF 400 code=_
 rw[fU.FF,fU.T]
 by_cases hc:(code.length:Int)>1048576
 ·rw[decide_eq_true hc];rfl
 rw[decide_eq_false hc,cond_false]
 obtain⟨s0,s1,s2,s3,l,m,n,list,e,⟨b1,b2,b3⟩,hL⟩:=aeI code (by omega)
 rw[e]
 simp only[Option.bind_some,uX s0 s1 s2 s3 l m n (by omega) (by omega) (by omega)]
 by_cases h:oK s0 s1 s2 s3 l m n
 rotate_left
 ·rw[eP h];rfl
 rw[dD h]
 simp only[Bool.not_true,cond_false]
 by_cases hL2:(list.length:Int)>300
 ·rw[decide_eq_true hL2];rfl
 rw[decide_eq_false hL2,cond_false]
 obtain⟨u1,u2,u3,l',m',n',Y,q,hY,hR, -, e2⟩:=agp (qo.1 h) list (by omega)
 obtain⟨q1,q2,q3⟩:=q.small
 have eR:DC (s0,s1,s2,s3,l,m,n,list,())=some (Y,()):=by
  simp only[DC,Tc.T,ve s0 s1 s2 s3 l m n (by omega) (by omega) (by omega),dD h,FK s0 s1 s2 s3 l m n (by omega) (by omega) (by omega),e2,decide_eq_false hL2,Option.bind_some,Bool.not_true,cond_false]
 have eE:zT (s0,s1,s2,s3,l,m,n,list,())=some (s0,u1,u2,u3,l',m',n',()):=by
  simp only[zT,Td.T,ve s0 s1 s2 s3 l m n (by omega) (by omega) (by omega),dD h,FK s0 s1 s2 s3 l m n (by omega) (by omega) (by omega),e2,decide_eq_false (show ¬ (list.length:Int)>400 by omega),decide_eq_true (show(list.length:Int)≤300 by omega),Option.bind_some,Bool.not_true,cond_false,cond_true]
 obtain⟨v,f1,f2⟩:=afg q
 have hS:=ac1 s0 u1 u2 u3 l' m' n' (by omega) (by omega) (by omega)
 simp only[OT list (by omega),eR,Option.bind_some]
 rw[show((Y.length:Int) != (list.length:Int))=false by rw[hY];simp,cond_false]
 refine aek 400 code list Y s0 s1 s2 s3 s0 (u1,u2,u3,l',m',n') (s1,s2,s3,l,m,n) hL hY (qo.1 h) (Nat.le_refl _) (fun hT=> ?_) ?_ list.length 0 400 Y (by omega) (by omega) hR rfl
 ·obtain⟨rfl,rfl,rfl,rfl,rfl,rfl⟩:u1=s1∧u2=s2∧u3=s3∧l'=l∧m'=m∧n'=n:=by simpa using hT
  show fU.A1 code s0 u1 u2 u3 list s0 u1 u2 u3 l' m' n'=_
  simp only[fU.A1,OT list (by omega),eE,hS,f1,f2,Option.bind_some,cond_true,beq_self_eq_true]
 ·show fU.A3 code s0 s1 s2 s3 list s0 u1 u2 u3 l m n l' m' n'=_
  simp only[fU.A3,OT list (by omega),eE,hS,f1,f2,Option.bind_some,cond_true,beq_self_eq_true]
theorem aa7:∀ x:ah.V (cO [.v false [.sl [CT.int .u8]]]),ah.ok (cO [.v false [.sl [CT.int .u8]]]) x→Je x=some (true,()):=by
 rintro⟨code,⟨⟩⟩ _
 exact abE code
end Go.Rv
