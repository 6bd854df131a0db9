/- Plain facts: learn-learn-grants. -/
import Derived.Test.YtjknhphmhfbghaaGreatFM38
set_option linter.unusedVariables false
set_option linter.unusedSimpArgs false
set_option linter.unusedSectionVars false
namespace Go.Rv
theorem doX{s0 s1 s2 s3:Int}{l m:List I4}{n:List I3}(h:fU s0 s1 s2 s3 l m n)(k id g a b:Int)(hop:oU k id g a b=true):
  ∃ (am un c t1 t2 t3:Int) (l' m':List I4) (n':List I3),Fq s0 s1 s2 s3 l n k id g a b am un c t1 t2 t3 l' m' n'∧
   ((c=0∧fU s0 t1 t2 t3 l' m' n'∧kE (s0,s1,s2,s3,l,m,n,k,id,g,a,b,())=some (s0,t1,t2,t3,l',m',n',am,un,0,())∧pF (s0,s1,s2,s3,l,m,n,k,id,g,a,b,())=some (s0,t1,t2,t3,l',m',n',am,un,0,()))∨
    (c≠0∧kE (s0,s1,s2,s3,l,m,n,k,id,g,a,b,())=some (0,0,0,0,[],[],[],0,0,c,())∧pF (s0,s1,s2,s3,l,m,n,k,id,g,a,b,())=some (0,0,0,0,[],[],[],0,0,c,()))):=by
 have hI:pF (s0,s1,s2,s3,l,m,n,k,id,g,a,b,())=qE.T s0 s1 s2 s3 l m n k id g a b:=rfl
 obtain⟨b1,b2,b3⟩:=h.small
 obtain⟨am,un,c,t1,t2,t3,l',m',n',e1,e2,e3,e4,ex⟩:=OE h k id g a b hop
 refine⟨am,un,c,t1,t2,t3,l',m',n',ex, ?_⟩
 rw[hI,qE.T,xB s0 s1 s2 s3 l m n (by omega) (by omega) (by omega),EU,dD (qZ.2 h),hop,XM s0 s1 s2 s3 l m n (by omega) (by omega) (by omega)]
 simp only[Option.bind_some,Bool.not_true,cond_false,e1]
 by_cases hc:c=0
 ·subst hc
  obtain⟨r1,r2⟩:=e3 rfl
  exact Or.inl ⟨rfl,r1,r2,rfl⟩
 ·obtain⟨-, -, -, -, -, -, -, -, r⟩:=e4 hc
  exact Or.inr ⟨hc,r,by rw[bne_iff_ne.2 hc];rfl⟩
end Go.Rv
