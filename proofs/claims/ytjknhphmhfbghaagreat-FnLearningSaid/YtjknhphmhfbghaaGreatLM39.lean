/- Plain facts: learn-grants. -/
import Derived.Test.YtjknhphmhfbghaaGreatLM38
set_option linter.unusedVariables false
set_option linter.unusedSimpArgs false
set_option linter.unusedSectionVars false
namespace Go.Rv
theorem OI{s0 s1 s2 s3:Int}{l m:List I4}{n:List I3}(h:ig s0 s1 s2 s3 l m n)(k id g a b:Int)(hop:oL k id g a b=true):
  ∃ (am un c t1 t2 t3:Int) (l' m':List I4) (n':List I3),Oc s0 s1 s2 s3 l n k id g a b am un c t1 t2 t3 l' m' n'∧
   ((c=0∧ig s0 t1 t2 t3 l' m' n'∧jZ (s0,s1,s2,s3,l,m,n,k,id,g,a,b,())=some (s0,t1,t2,t3,l',m',n',am,un,0,())∧oU (s0,s1,s2,s3,l,m,n,k,id,g,a,b,())=some (s0,t1,t2,t3,l',m',n',am,un,0,()))∨
    (c≠0∧jZ (s0,s1,s2,s3,l,m,n,k,id,g,a,b,())=some (0,0,0,0,[],[],[],0,0,c,())∧oU (s0,s1,s2,s3,l,m,n,k,id,g,a,b,())=some (0,0,0,0,[],[],[],0,0,c,()))):=by
 have hI:oU (s0,s1,s2,s3,l,m,n,k,id,g,a,b,())=uz.T s0 s1 s2 s3 l m n k id g a b:=rfl
 obtain⟨b1,b2,b3⟩:=h.small
 obtain⟨am,un,c,t1,t2,t3,l',m',n',e1,e2,e3,e4,ex⟩:=NY h k id g a b hop
 refine⟨am,un,c,t1,t2,t3,l',m',n',ex, ?_⟩
 rw[hI,uz.T,DX s0 s1 s2 s3 l m n (by omega) (by omega) (by omega),NP,dD (vG.2 h),hop,Xf s0 s1 s2 s3 l m n (by omega) (by omega) (by omega)]
 simp only[Option.bind_some,Bool.not_true,cond_false,e1]
 by_cases hc:c=0
 ·subst hc
  obtain⟨r1,r2⟩:=e3 rfl
  exact Or.inl ⟨rfl,r1,r2,rfl⟩
 ·obtain⟨-, -, -, -, -, -, -, -, r⟩:=e4 hc
  exact Or.inr ⟨hc,r,by rw[bne_iff_ne.2 hc];rfl⟩
theorem acL(e f:List CT)(W:World)(x:ah.V (cu [.v false [.sl e],.v false [.sl f]]))(vs:List Value)(h:jB (fun b=>b<W.heap.size∧b∉([]:List Nat)) (fun _=>False) W [.v false [.sl e],.v false [.sl f]] x vs []):
  jB (fun b=>b<W.heap.size∧b∉([]:List Nat)) (fun b=>b<W.heap.size∧b∉([]:List Nat)) W [.v false [.sh e],.v false [.sh f]] x vs []:=by
 obtain⟨v,t,b1,b2,h1,h2,⟨us,⟨u,t',h3,h4,h5⟩,h6,h7⟩,v2,t2,c1,c2,k1,k2,⟨us2,⟨u2,t2',k3,k4,k5⟩,k6,k7⟩,k8⟩:=h
 exact⟨v,t,b1,b2,h1,h2,⟨us,⟨u,t',h3,h4,h5⟩,h6,h7⟩,v2,t2,c1,c2,k1,k2,⟨us2,⟨u2,t2',k3,k4,k5⟩,k6,k7⟩,k8⟩
theorem N7(more:List (Int×Unit))(hb:∀ x∈more,0≤x.1∧x.1≤255)(hm:more.length≤1048576)(i most:Int)(hi:0≤i)(h1:1<most)(h2:most≤1000000):∃ v,wY (more,i,most,())=some (v,())∧0≤v∧v<most:=by
 simp only[wY,Uc.T]
 rw[decide_eq_false (by omega),cond_false]
 by_cases h0:(more.length:Int)=0
 ·rw[beq_iff_eq.2 h0];exact⟨0,rfl,by omega,by omega⟩
 ·rw[beq_false_of_ne h0,cond_false,if_neg h0]
  have a1:=Int.tmod_nonneg (more.length:Int) hi
  have a2:=Int.tmod_lt_of_pos i (show 0<(more.length:Int) by omega)
  rw[if_pos ⟨a1,a2⟩,if_neg (by omega)]
  obtain⟨k,hk⟩:=Int.eq_ofNat_of_zero_le a1
  rw[hk]at a2 ⊢
  have hkl:k<more.length:=by omega
  have hx:0≤(more.getD k (0,())).1∧(more.getD k (0,())).1≤255:=by
   rw[List.getD_eq_getElem?_getD,List.getElem?_eq_getElem hkl]
   exact hb _ (List.getElem_mem hkl)
  rw[bZ,aJ _ (by omega)]
  exact⟨_,rfl,Int.tmod_nonneg most hx.1,Int.tmod_lt_of_pos _ (by omega)⟩
theorem aeu(id a b:Int)(h1:1≤id∧id≤1000)(h2:0≤a∧a≤1000)(h3:1≤b∧b≤1000):oL 1 id 0 a b=true:=by
 have e1:bQ id=true:=by unfold bQ;simp;omega
 have e2:eP a=true:=by unfold eP;simp;omega
 have e3:iq b=true:=by unfold iq;simp;omega
 show(bQ id&&((0:Int)==0||bQ 0)&&eP a&&iq b)=true
 rw[e1,e2,e3];rfl
theorem aa9(code more:List (Int×Unit))(hb:∀ x∈more,0≤x.1∧x.1≤255):Jl (code,more,())=some (true,()):=by
 show JP.T code more=_
 rw[JP.T]
 by_cases hc:(code.length:Int)>1048576
 ·rw[decide_eq_true hc];rfl
 by_cases hm:(more.length:Int)>1048576
 ·rw[decide_eq_false hc,decide_eq_true hm];rfl
 rw[decide_eq_false hc,decide_eq_false hm,cond_false,cond_false]
 obtain⟨s0,s1,s2,s3,l,m,n,k,id,g,a,b,e,b1,b2,b3⟩:=ad6 code (by omega)
 obtain⟨y3,f3,c3,d3⟩:=N7 more hb (by omega) 0 200 (by omega) (by omega) (by omega)
 obtain⟨y4,f4,c4,d4⟩:=N7 more hb (by omega) 1 100 (by omega) (by omega) (by omega)
 obtain⟨y5,f5,c5,d5⟩:=N7 more hb (by omega) 2 9 (by omega) (by omega) (by omega)
 rw[e]
 simp only[Option.bind_some,wZ s0 s1 s2 s3 l m n (by omega) (by omega) (by omega),f3,f4,f5]
 by_cases h:ou s0 s1 s2 s3 l m n
 rotate_left
 ·rw[dZ h];rfl
 have hq:=vG.1 h
 have hl:=hq.len
 have hbn:=hq.born
 have hop:=aeu (1+y3) y4 (1+y5) (by omega) (by omega) (by omega)
 rw[dD h,aJ (1+y3) (by omega),aJ (1+y5) (by omega),aJ (s1+s0) (by omega)]
 simp only[Bool.not_true,cond_false]
 have one:∃ v,oU (s0,s1,s2,s3,l,m,n,1,1+y3,0,y4,1+y5,())=some v∧(v.2.2.2.2.2.2.2.2.2.1==7)=decide (s2<s1+s0):=by
  obtain⟨am,un,c,t1,t2,t3,l',m',n',hx,h2⟩:=OI hq 1 (1+y3) 0 y4 (1+y5) hop
  have h7:=(hx.1 rfl).1
  rcases h2 with ⟨rfl, -, -, e2⟩ | ⟨hc, -, e2⟩
  ·exact⟨_,e2,by rw[decide_eq_false (fun hh=>by have:=h7.2 hh;omega)];rfl⟩
  ·refine⟨_,e2, ?_⟩
   by_cases hh:s2<s1+s0
   ·rw[decide_eq_true hh,h7.2 hh];rfl
   ·rw[decide_eq_false hh]
    exact beq_false_of_ne fun h=>hh (h7.1 h)
 obtain⟨v,e2,hv⟩:=one
 rw[e2]
 simp only[Option.bind_some,hv,beq_self_eq_true,Bool.not_true,cond_false]
 obtain⟨am,un,c,t1,t2,t3,l',m',n',hx,h2⟩:=OI hq 5 0 0 0 0 rfl
 obtain⟨rfl,rfl,rfl,rfl,rfl,rfl⟩:=hx.2.2.2.1 rfl
 obtain⟨-, hq2, -, e3⟩:=h2.resolve_right fun hh=>hh.1 rfl
 rw[e3]
 obtain⟨am2,un2,c2,t1,t2,t3,l2,m2,n2,hx2,h3⟩:=OI hq2 1 (1+y3) 0 y4 (1+y5) hop
 have h7:=(hx2.1 rfl).1.2 (by omega)
 subst h7
 obtain⟨-, -, e4⟩:=h3.resolve_left fun hh=>absurd hh.1 (by decide)
 simp only[Option.bind_some,e4]
 rfl
theorem aaS:∀ x:ah.V (cu [.v false [.sl [CT.int .u8]],.v false [.sl [CT.int .u8]]]),ah.ok (cu [.v false [.sl [CT.int .u8]],.v false [.sl [CT.int .u8]]]) x→Jl x=some (true,()):=by
 rintro⟨code,more,⟨⟩⟩ ⟨-, ⟨-, h⟩, -⟩
 exact aa9 code more fun x hx=>by
  have h1:(0:Int)≤x.1∧x.1≤255:=(h x hx).1
  exact h1
end Go.Rv
