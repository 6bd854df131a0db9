/- Plain facts: draw0, draw2. -/
import Derived.Test.YtjknhphmhfbghaaGreatFM37
set_option linter.unusedVariables false
set_option linter.unusedSimpArgs false
set_option linter.unusedSectionVars false
namespace Go.Rv
def Good{α:Type}(Q:α→Prop)(o:Option α):Prop:=∃ x,o=some x∧Q x
theorem jf{α:Type}{Q:α→Prop}{x:α}(h:Q x):Good Q (some x):=⟨x,rfl,h⟩
theorem dY{α β:Type}{P:α→Prop}{Q:β→Prop}{o:Option α}{f:α→Option β}(h:Good P o)(hf:∀ x,P x→Good Q (f x)):Good Q (o.bind f):=by
 obtain⟨x,rfl,hx⟩:=h
 exact hf x hx
theorem iy{α:Type}{Q:α→Prop}{b:Bool}{x y:Option α}(h1:b=true→Good Q x)(h2:b=false→Good Q y):Good Q (cond b x y):=by
 cases b
 ·exact h2 rfl
 ·exact h1 rfl
theorem vC{α:Type}{Q:α→Prop}{p:Prop}[Decidable p]{x:Option α}(hp:p)(h:Good Q x):Good Q (if p then x else none):=by rw[if_pos hp];exact h
def iL(s:List (Int×Unit))(a z:Int):Prop:=0≤a∧a≤s.length∧s.length≤1048576∧0≤z∧z≤12
theorem aes(z:Int):0≤IntKind.u64.wrap z:=by
 show 0≤z % 18446744073709551616
 exact Int.emod_nonneg _ (by decide)
theorem EK(X most:Int)(h1:1<most)(h2:most≤4611686018427387904):0≤af (Int.tmod (IntKind.u64.wrap X) (IntKind.u64.wrap most))∧af (Int.tmod (IntKind.u64.wrap X) (IntKind.u64.wrap most))<most:=by
 rw[u64_in most (by omega)]
 have a1:=Int.tmod_nonneg most (aes X)
 have a2:=Int.tmod_lt_of_pos (IntKind.u64.wrap X) (show 0<most by omega)
 rw[aI _ (by omega)]
 exact⟨a1,a2⟩
abbrev FI:=Int×List (Int×Unit)×Int×Int×Int×Unit
theorem gN{s:List (Int×Unit)}{a b z most:Int}(h:iL s a z)(hm:most≤4611686018427387904):Good (fun y:FI=>iL y.2.1 y.2.2.1 y.2.2.2.2.1∧0≤y.1∧(y.1=0∨y.1<most)) (aT (s,a,b,z,most,())):=by
 simp only[aT,Sm.T]
 refine iy (fun _=>jf ⟨h,Int.le_refl _,Or.inl rfl⟩) fun hm'=>iy (fun ha=> ?_) fun _=> ?_
 ·have ha':a<s.length:=of_decide_eq_true ha
  have hm1:¬ most≤1:=of_decide_eq_false hm'
  refine vC ⟨h.1,ha'⟩ ?_
  rw[if_neg (by rw[u64_in most (by omega)];omega)]
  refine jf ⟨?_,(EK _ most (by omega) hm).1,Or.inr (EK _ most (by omega) hm).2⟩
  obtain⟨h1,h2,h3,h4,h5⟩:=h
  refine⟨?_, ?_,h3,h4,h5⟩
  ·show 0≤af (a+1)
   rw[aI _ (by omega)];omega
  ·show af (a+1)≤(s.length:Int)
   rw[aI _ (by omega)];omega
 ·have hm1:¬ most≤1:=of_decide_eq_false hm'
  rw[if_neg (by rw[u64_in most (by omega)];omega)]
  exact jf ⟨h,(EK _ most (by omega) hm).1,Or.inr (EK _ most (by omega) hm).2⟩
theorem FH{s:List (Int×Unit)}{a b z most:Int}(h:iL s a z)(hm:most≤4611686018427387904):Good (fun y:Bool×List (Int×Unit)×Int×Int×Int×Unit=>iL y.2.1 y.2.2.1 y.2.2.2.2.1) (fB (s,a,b,z,most,())):=by
 simp only[fB,QZ.T]
 exact dY (gN h hm) fun y hy=>jf hy.1
theorem afa{s:List (Int×Unit)}{a b z:Int}(h:iL s a z):Good (fun y:FI=>iL y.2.1 y.2.2.1 y.2.2.2.2.1) (wG (s,a,b,z,())):=by
 simp only[wG,Qc.T]
 repeat' first
  | (refine dY (gN (by assumption) (by omega)) fun y hy=> ?_;obtain⟨hy,_,_⟩:=hy)
  |refine iy (fun _=> ?_) fun _=> ?_
  |exact jf (by assumption)
theorem ad4{s:List (Int×Unit)}{a b z:Int}(h:iL s a z):Good (fun y:FI=>iL y.2.1 y.2.2.1 y.2.2.2.2.1) (wF (s,a,b,z,())):=by
 simp only[wF,Qb.T]
 repeat' first
  | (refine dY (gN (by assumption) (by omega)) fun y hy=> ?_;obtain⟨hy,_,_⟩:=hy)
  |refine iy (fun _=> ?_) fun _=> ?_
  |exact jf (by assumption)
theorem ad5(code:List (Int×Unit))(hc:code.length≤1048576):Good (fun y:List (Int×Unit)×Int×Int×Int×Unit=>iL y.1 y.2.1 y.2.2.2.1) (Dl (code,())):=by
 simp only[Dl,nZ.FF,nZ.T]
 have hA:∀ m,Good (fun y:List (Int×Unit)×Int×Int×Int×Unit=>iL y.1 y.2.1 y.2.2.2.1) (nZ.A0 code code code 0 m 0):=fun m=>by
  simp only[nZ.A0]
  rw[if_neg (by decide)]
  have e:af (Int.tdiv (code.length:Int) 20)=((code.length / 20:Nat):Int):=by
   rw[show Int.tdiv (code.length:Int) 20=((code.length / 20:Nat):Int)from rfl]
   exact aI _ (by omega)
  rw[e]
  refine iy (fun _=>jf ⟨Int.le_refl _,Int.natCast_nonneg _,hc,by show(0:Int)≤12;omega,Int.le_refl _⟩) fun h=>jf ⟨Int.le_refl _,Int.natCast_nonneg _,hc,Int.natCast_nonneg _, ?_⟩
  have:=of_decide_eq_false h
  show((code.length / 20:Nat):Int)≤12
  omega
 have key:∀ d (i:Nat) (m:Int) k,i+d=64→d<k→Good (fun y:List (Int×Unit)×Int×Int×Int×Unit=>iL y.1 y.2.1 y.2.2.2.1) (nZ.G0 (300+code.length) (nZ.A0 code) k code (i:Nat) code 0 m 0):=by
  intro d
  induction d with
  |zero=>
   intro i m k hi hk
   obtain⟨k,rfl⟩:∃ j,k=j+1:=⟨k - 1,by omega⟩
   simp only[nZ.G0,nZ.R0]
   refine iy (fun _=>iy (fun h=> ?_) fun _=>hA m) fun _=>hA m
   have:=of_decide_eq_true h
   omega
  |succ d ih=>
   intro i m k hi hk
   obtain⟨k,rfl⟩:∃ j,k=j+1:=⟨k - 1,by omega⟩
   simp only[nZ.G0,nZ.R0]
   refine iy (fun h=>iy (fun _=> ?_) fun _=>hA m) fun _=>hA m
   refine vC ⟨Int.natCast_nonneg _,of_decide_eq_true h⟩ ?_
   rw[show af ((i:Int)+1)=((i+1:Nat):Int)from aI _ (by omega)]
   exact ih (i+1) _ k (by omega) (by omega)
 exact key 64 0 _ _ (by omega) (by omega)
def kQ(N:Nat)(l m:List I4)(n:List I3):Prop:=l.length≤N∧m.length≤N∧n.length≤N
theorem afe{s:List (Int×Unit)}{a b z:Int}(h:iL s a z):Good (fun y:FI=>iL y.2.1 y.2.2.1 y.2.2.2.2.1) (bQ (s,a,b,z,())):=by
 simp only[bQ,QF.T]
 refine dY (gN h (by omega)) fun y hy=> ?_
 obtain⟨hy,_,_⟩:=hy
 exact vC (by simp only[List.length_cons,List.length_nil];omega) (jf hy)
theorem gMax(a b:Int):Good (fun _=>True) (rF (a,b,())):=by
 simp only[rF,LC.T]
 exact iy (fun _=>jf trivial) fun _=>jf trivial
abbrev OpN:=Int×Int×Int×Int×Int×List (Int×Unit)×Int×Int×Int×Unit
set_option maxHeartbeats 4000000 in
theorem Ye{s:List (Int×Unit)}{a b z:Int}(h:iL s a z)(s0 s1 s2 s3:Int)(l m:List I4)(n:List I3)(hl:l.length≤1048576):Good (fun y:OpN=>iL y.2.2.2.2.2.1 y.2.2.2.2.2.2.1 y.2.2.2.2.2.2.2.2.1) (zC (s,a,b,z,s0,s1,s2,s3,l,m,n,())):=by
 simp only[zC,Qw.T]
 refine dY (gN h (by decide)) fun y1 h1=>dY (gN h1.1 (by decide)) fun y2 h2=>dY (gN h2.1 (by decide)) fun y3 h3=> ?_
 clear h h1 h2
 refine iy (fun hb=>dY (FH h3.1 (by decide)) fun y4 h4=>iy (fun _=>dY (gN h4 (by omega)) fun y5 h5=>vC (by have:=of_decide_eq_true hb;omega) ?_) fun _=> ?_) fun _=> ?_
 all_goals
  first |replace h3:=h5.1 |replace h3:=h4 |replace h3:=h3.1
  try clear h5
  try clear h4
  repeat' first
   |refine iy (fun _=> ?_) fun _=> ?_
   |exact jf (by assumption)
   | (refine dY (gN (by assumption) (by decide)) fun y hy=> ?_;replace hy:=hy.1)
   | (refine dY (FH (by assumption) (by decide)) fun y hy=> ?_)
   | (refine dY (afe (by assumption)) fun y hy=> ?_)
   | (refine dY (afa (by assumption)) fun y hy=> ?_)
   | (refine dY (ad4 (by assumption)) fun y hy=> ?_)
   | (refine dY (gMax _ _) fun y _=> ?_)
abbrev DoN:=Int×Int×Int×Int×List I4×List I4×List I3×Int×Int×Int×Unit
theorem Pe{l m:List I4}{n:List I3}(s0 s1 s2 s3:Int)(h:kQ 1048576 l m n)(k id g a b:Int):Good (fun y:DoN=>kQ 60 y.2.2.2.2.1 y.2.2.2.2.2.1 y.2.2.2.2.2.2.1) (kE (s0,s1,s2,s3,l,m,n,k,id,g,a,b,())):=by
 obtain⟨t0,t1,t2,t3,l',m',n',am,un,c,e1,e2,b1,b2,b3⟩:=afK s0 s1 s2 s3 l m n k id g a b h.1 h.2.1 h.2.2
 exact⟨_,e1,b1,b2,b3⟩
theorem kQ.mono{N M:Nat}{l m:List I4}{n:List I3}(h:kQ N l m n)(hN:N≤M):kQ M l m n:=⟨Nat.le_trans h.1 hN,Nat.le_trans h.2.1 hN,Nat.le_trans h.2.2 hN⟩
section
variable {R:Type} {Q:R→Prop} (k0:Nat) (hx:List (Int×Unit)→Int→Int→Int→List I5→Option R) (hQ:∀ s a b z out,iL s a z→out.length≤400→Good Q (hx s a b z out))
include hQ
theorem afc:∀ (d k:Nat) (n2:Int) (s:List (Int×Unit)) (a b z x0 x1 x2 x3:Int) (out:List I5) (l m:List I4) (n:List I3),n2≤d→d<k→out.length+d≤400→iL s a z→kQ 1048576 l m n→Good Q (lK.G1 k0 hx k n2 s a b z x0 x1 x2 x3 out l m n):=by
 intro d
 induction d with
 |zero=>
  intro k n2 s a b z x0 x1 x2 x3 out l m n hn hk ho h hB
  obtain⟨k,rfl⟩:∃ j,k=j+1:=⟨k - 1,by omega⟩
  simp only[lK.G1,lK.R1]
  exact iy (fun h=>absurd (of_decide_eq_true h) (by omega)) fun _=>hQ _ _ _ _ _ h (by omega)
 |succ d ih=>
  intro k n2 s a b z x0 x1 x2 x3 out l m n hn hk ho h hB
  obtain⟨k,rfl⟩:∃ j,k=j+1:=⟨k - 1,by omega⟩
  simp only[lK.G1,lK.R1]
  refine iy (fun h0=> ?_) fun _=>hQ _ _ _ _ _ h (by omega)
  have h0:=of_decide_eq_true h0
  have hw:af (n2 - 1)=n2 - 1:=aI _ (by omega)
  refine dY (Ye h x0 x1 x2 x3 l m n hB.1) fun y hy=> ?_
  refine vC (by simp only[List.length_cons,List.length_nil,maxRow];omega) ?_
  refine dY (Pe x0 x1 x2 x3 hB _ _ _ _ _) fun v hv=> ?_
  rw[hw]
  exact iy (fun _=>ih k _ _ _ _ _ _ _ _ _ _ _ _ _ (by omega) (by omega) (by simp only[List.length_append,List.length_cons,List.length_nil];omega) hy (hv.mono (by decide)))
   fun _=>ih k _ _ _ _ _ _ _ _ _ _ _ _ _ (by omega) (by omega) (by simp only[List.length_append,List.length_cons,List.length_nil];omega) hy hB
theorem afd:∀ (d k:Nat) (n2:Int) (s:List (Int×Unit)) (a b z x0 x1 x2 x3:Int) (out:List I5) (l m:List I4) (n:List I3),n2≤d→d<k→out.length+d≤400→iL s a z→kQ 1048576 l m n→Good Q (lK.G0 k0 hx k n2 s a b z x0 x1 x2 x3 l m n out):=by
 intro d
 induction d with
 |zero=>
  intro k n2 s a b z x0 x1 x2 x3 out l m n hn hk ho h hB
  obtain⟨k,rfl⟩:∃ j,k=j+1:=⟨k - 1,by omega⟩
  simp only[lK.G0,lK.R0]
  exact iy (fun h=>absurd (of_decide_eq_true h) (by omega)) fun _=>hQ _ _ _ _ _ h (by omega)
 |succ d ih=>
  intro k n2 s a b z x0 x1 x2 x3 out l m n hn hk ho h hB
  obtain⟨k,rfl⟩:∃ j,k=j+1:=⟨k - 1,by omega⟩
  simp only[lK.G0,lK.R0]
  refine iy (fun h0=> ?_) fun _=>hQ _ _ _ _ _ h (by omega)
  have h0:=of_decide_eq_true h0
  have hw:af (n2 - 1)=n2 - 1:=aI _ (by omega)
  refine dY (Ye h x0 x1 x2 x3 l m n hB.1) fun y hy=> ?_
  refine vC (by simp only[List.length_cons,List.length_nil,maxRow];omega) ?_
  refine dY (Pe x0 x1 x2 x3 hB _ _ _ _ _) fun v hv=> ?_
  rw[hw]
  exact iy (fun _=>afc k0 hx hQ d k _ _ _ _ _ _ _ _ _ _ _ _ _ (by omega) (by omega) (by simp only[List.length_append,List.length_cons,List.length_nil];omega) hy (hv.mono (by decide)))
   fun _=>ih k _ _ _ _ _ _ _ _ _ _ _ _ _ (by omega) (by omega) (by simp only[List.length_append,List.length_cons,List.length_nil];omega) hy hB
end
abbrev afS:=List I5×List (Int×Unit)×Int×Int×Int×Unit
theorem OW{s:List (Int×Unit)}{a b z:Int}(h:iL s a z)(x0 x1 x2 x3:Int){l m:List I4}{n:List I3}(hB:kQ 1048576 l m n)(c:Int)(hc:c≤302):Good (fun y:afS=>y.1.length≤400∧iL y.2.1 y.2.2.1 y.2.2.2.2.1) (zx (s,a,b,z,x0,x1,x2,x3,l,m,n,c,())):=by
 show Good _ (lK.FF 400 s a b z x0 x1 x2 x3 l m n c)
 rw[lK.FF,lK.T]
 exact afd 400 _ (fun s a b z out h1 h2=>jf ⟨h2,h1⟩) 302 400 c s a b z x0 x1 x2 x3 [] l m n hc (by decide) (by decide) h hB
theorem afH(a c:Int):Good (fun y:Int×Int×Int×Int×List I4×List I4×List I3×Unit=>kQ 60 y.2.2.2.2.1 y.2.2.2.2.2.1 y.2.2.2.2.2.2.1) (Dn (a,c,())):=by
 simp only[Dn,RD.T,TM,yC,Option.bind_some]
 exact iy (fun _=>jf ⟨by simp,by simp,by simp⟩) fun _=>iy (fun _=>jf ⟨by simp,by simp,by simp⟩) fun _=>jf ⟨by simp,by simp,by simp⟩
theorem afI{l m:List I4}{n:List I3}(s0 s1 s2 s3:Int)(h:kQ 60 l m n)(list:List I5):Good (fun y:Int×Int×Int×Int×List I4×List I4×List I3×Unit=>kQ 60 y.2.2.2.2.1 y.2.2.2.2.2.1 y.2.2.2.2.2.2.1) (zJ (s0,s1,s2,s3,l,m,n,list,())):=by
 obtain⟨h1,h2,h3⟩:=h
 obtain⟨t0,t1,t2,t3,l',m',n',e1,b1,b2,b3⟩:=afJ s0 s1 s2 s3 l m n list (by omega) (by omega) (by omega)
 exact⟨_,e1,by show l'.length≤60;omega,by show m'.length≤60;omega,by show n'.length≤60;omega⟩
abbrev afR:=Int×Int×Int×Int×List I4×List I4×List I3×List (Int×Unit)×Int×Int×Int×Unit
def OT(y:afR):Prop:=kQ 61 y.2.2.2.2.1 y.2.2.2.2.2.1 y.2.2.2.2.2.2.1∧iL y.2.2.2.2.2.2.2.1 y.2.2.2.2.2.2.2.2.1 y.2.2.2.2.2.2.2.2.2.2.1
set_option maxHeartbeats 1000000 in
theorem ad6{s:List (Int×Unit)}{a b z:Int}(h:iL s a z):Good OT (H7 (s,a,b,z,())):=by
 obtain⟨K,hK,hK2⟩:∃ K,K=300+s.length∧200<K:=⟨_,rfl,by omega⟩
 show Good _ (mX.FF (300+s.length) s a b z)
 rw[←hK,mX.FF,mX.T]
 have tail:∀ (s':List (Int×Unit)) (a' b' z' t0 t1 t2 t3 x0 x1 x2 x3:Int) (l m:List I4) (n:List I3),iL s' a' z'→kQ 60 l m n→Good OT (mX.A0 s a b z s' a' b' z' t0 t1 t2 t3 x0 x1 x2 x3 l m n):=by
  intro s' a' b' z' t0 t1 t2 t3 x0 x1 x2 x3 l m n h' hB
  have hz:=h'.2.2.2
  have hw:af (6+z')=6+z':=aI _ (by omega)
  rw[mX.A0,hw]
  refine dY (gN h' (by omega)) fun y hy=> ?_
  obtain⟨hy,h0,h1⟩:=hy
  refine dY (OW hy x0 x1 x2 x3 (hB.mono (by decide)) _ (by omega)) fun y2 hy2=> ?_
  obtain⟨hy2,hy3⟩:=hy2
  refine dY (afI x0 x1 x2 x3 hB y2.1) fun y4 hy4=> ?_
  have hy4':=hy4.mono (show 60≤61 by decide)
  repeat' first
   |exact jf ⟨hy4',by assumption⟩
   |exact jf ⟨⟨hy4'.1,hy4'.2.1,by have:=hy4.2.2;simp only[List.length_append,List.length_cons,List.length_nil];omega⟩,by assumption⟩
   |exact jf ⟨⟨by simp,by simp,by simp⟩,by assumption⟩
   | (refine dY (gN (by assumption) (by omega)) fun y hy=> ?_;obtain⟨hy,_,_⟩:=hy)
   | (refine dY (FH (by assumption) (by omega)) fun y hy=> ?_)
   | (refine iy (fun hb=> ?_) fun hb=> ?_)
   | (refine vC (by have:=hy4.2.2;simp only[List.length_cons,List.length_nil,maxRow];omega) ?_)
 have loop:∀ (d k:Nat) (kx:Int) (s':List (Int×Unit)) (a' b' z' t0 t1 t2 t3 x0 x1 x2 x3:Int) (l m:List I4) (n:List I3),kx≤d→d<k→d≤9→iL s' a' z'→kQ 60 l m n→Good OT (mX.G0 K (mX.A0 s a b z) k kx s' a' b' z' t0 t1 t2 t3 x0 x1 x2 x3 l m n):=by
  intro d
  induction d with
  |zero=>
   intro k kx s' a' b' z' t0 t1 t2 t3 x0 x1 x2 x3 l m n hn hk hd h' hB
   obtain⟨k,rfl⟩:∃ j,k=j+1:=⟨k - 1,by omega⟩
   simp only[mX.G0,mX.R0]
   exact iy (fun h=>absurd (of_decide_eq_true h) (by omega)) fun _=>tail _ _ _ _ _ _ _ _ _ _ _ _ _ _ _ h' hB
  |succ d ih=>
   intro k kx s' a' b' z' t0 t1 t2 t3 x0 x1 x2 x3 l m n hn hk hd h' hB
   obtain⟨k,rfl⟩:∃ j,k=j+1:=⟨k - 1,by omega⟩
   simp only[mX.G0,mX.R0]
   refine iy (fun h0=> ?_) fun _=>tail _ _ _ _ _ _ _ _ _ _ _ _ _ _ _ h' hB
   have h0:=of_decide_eq_true h0
   have hw:af (kx - 1)=kx - 1:=aI _ (by omega)
   refine dY (Pe x0 x1 x2 x3 (hB.mono (by decide)) _ _ _ _ _) fun v hv=> ?_
   rw[hw]
   exact ih k _ _ _ _ _ _ _ _ _ _ _ _ _ _ _ _ (by omega) (by omega) (by omega) h' hv
 refine dY (gN h (by omega)) fun y1 h1=> ?_
 obtain⟨h1,_,_⟩:=h1
 refine dY (gN h1 (by omega)) fun y2 h2=> ?_
 obtain⟨h2,_,_⟩:=h2
 refine dY (afH _ _) fun y3 h3=> ?_
 refine dY (gN h2 (by omega)) fun y4 h4=> ?_
 obtain⟨h4,_,_⟩:=h4
 exact loop 5 K _ _ _ _ _ _ _ _ _ _ _ _ _ _ _ _ (by omega) (by omega) (by decide) h4 h3
theorem aec(code:List (Int×Unit))(hc:code.length≤1048576):∃ (s0 s1 s2 s3:Int) (l m:List I4) (n:List I3) (list:List I5),zy (code,())=some (s0,s1,s2,s3,l,m,n,list,())∧kQ 61 l m n∧list.length≤400:=by
 have key:Good (fun y:Int×Int×Int×Int×List I4×List I4×List I3×List I5×Unit=>kQ 61 y.2.2.2.2.1 y.2.2.2.2.2.1 y.2.2.2.2.2.2.1∧y.2.2.2.2.2.2.2.1.length≤400) (zy (code,())):=by
  simp only[zy,Qn.T]
  refine dY (ad5 code hc) fun y hy=> ?_
  refine dY (ad6 hy) fun w hw=> ?_
  obtain⟨hw,hw2⟩:=hw
  refine dY (FH hw2 (by omega)) fun v hv=> ?_
  refine iy (fun _=> ?_) fun _=> ?_
  ·refine dY (gN hv (by omega)) fun u hu=> ?_
   obtain⟨hu,_,_⟩:=hu
   refine dY (OW hu 0 0 0 0 ⟨by simp,by simp,by simp⟩ _ (by rw[aI _ (by omega)];omega)) fun t ht=> ?_
   exact jf ⟨hw,ht.1⟩
  ·have hz:=hv.2.2.2
   rw[aI (2*v.2.2.2.2.1) (by omega),aI _ (by omega)]
   refine dY (gN hv (by omega)) fun u hu=> ?_
   obtain⟨hu,_,_⟩:=hu
   refine dY (OW hu _ _ _ _ (hw.mono (by decide)) _ (by omega)) fun t ht=> ?_
   exact jf ⟨hw,ht.1⟩
 obtain⟨y,e,h1,h2⟩:=key
 exact⟨y.1,y.2.1,y.2.2.1,y.2.2.2.1,y.2.2.2.2.1,y.2.2.2.2.2.1,y.2.2.2.2.2.2.1,y.2.2.2.2.2.2.2.1,e,h1,h2⟩
end Go.Rv
