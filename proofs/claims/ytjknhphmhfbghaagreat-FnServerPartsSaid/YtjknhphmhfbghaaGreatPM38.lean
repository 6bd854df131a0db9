/- Plain facts: draw0, draw2. -/
import Derived.Test.YtjknhphmhfbghaaGreatPM37
set_option linter.unusedVariables false
set_option linter.unusedSimpArgs false
set_option linter.unusedSectionVars false
namespace Go.Rv
def Good{α:Type}(Q:α→Prop)(o:Option α):Prop:=∃ x,o=some x∧Q x
theorem jd{α:Type}{Q:α→Prop}{x:α}(h:Q x):Good Q (some x):=⟨x,rfl,h⟩
theorem dZ{α β:Type}{P:α→Prop}{Q:β→Prop}{o:Option α}{f:α→Option β}(h:Good P o)(hf:∀ x,P x→Good Q (f x)):Good Q (o.bind f):=by
 obtain⟨x,rfl,hx⟩:=h
 exact hf x hx
theorem iy{α:Type}{Q:α→Prop}{b:Bool}{x y:Option α}(h1:b=true→Good Q x)(h2:b=false→Good Q y):Good Q (cond b x y):=by
 cases b
 ·exact h2 rfl
 ·exact h1 rfl
theorem vH{α:Type}{Q:α→Prop}{p:Prop}[Decidable p]{x:Option α}(hp:p)(h:Good Q x):Good Q (if p then x else none):=by rw[if_pos hp];exact h
def iK(s:List (Int×Unit))(a z:Int):Prop:=0≤a∧a≤s.length∧s.length≤1048576∧0≤z∧z≤12
theorem aeX(z:Int):0≤IntKind.u64.wrap z:=by
 show 0≤z % 18446744073709551616
 exact Int.emod_nonneg _ (by decide)
theorem ET(X most:Int)(h1:1<most)(h2:most≤4611686018427387904):0≤af (Int.tmod (IntKind.u64.wrap X) (IntKind.u64.wrap most))∧af (Int.tmod (IntKind.u64.wrap X) (IntKind.u64.wrap most))<most:=by
 rw[u64_in most (by omega)]
 have a1:=Int.tmod_nonneg most (aeX X)
 have a2:=Int.tmod_lt_of_pos (IntKind.u64.wrap X) (show 0<most by omega)
 rw[aH _ (by omega)]
 exact⟨a1,a2⟩
abbrev F5:=Int×List (Int×Unit)×Int×Int×Int×Unit
theorem gN{s:List (Int×Unit)}{a b z most:Int}(h:iK s a z)(hm:most≤4611686018427387904):Good (fun y:F5=>iK y.2.1 y.2.2.1 y.2.2.2.2.1∧0≤y.1∧(y.1=0∨y.1<most)) (aT (s,a,b,z,most,())):=by
 simp only[aT,TD.T]
 refine iy (fun _=>jd ⟨h,Int.le_refl _,Or.inl rfl⟩) fun hm'=>iy (fun ha=> ?_) fun _=> ?_
 ·have ha':a<s.length:=of_decide_eq_true ha
  have hm1:¬ most≤1:=of_decide_eq_false hm'
  refine vH ⟨h.1,ha'⟩ ?_
  rw[if_neg (by rw[u64_in most (by omega)];omega)]
  refine jd ⟨?_,(ET _ most (by omega) hm).1,Or.inr (ET _ most (by omega) hm).2⟩
  obtain⟨h1,h2,h3,h4,h5⟩:=h
  refine⟨?_, ?_,h3,h4,h5⟩
  ·show 0≤af (a+1)
   rw[aH _ (by omega)];omega
  ·show af (a+1)≤(s.length:Int)
   rw[aH _ (by omega)];omega
 ·have hm1:¬ most≤1:=of_decide_eq_false hm'
  rw[if_neg (by rw[u64_in most (by omega)];omega)]
  exact jd ⟨h,(ET _ most (by omega) hm).1,Or.inr (ET _ most (by omega) hm).2⟩
theorem FV{s:List (Int×Unit)}{a b z most:Int}(h:iK s a z)(hm:most≤4611686018427387904):Good (fun y:Bool×List (Int×Unit)×Int×Int×Int×Unit=>iK y.2.1 y.2.2.1 y.2.2.2.2.1) (eY (s,a,b,z,most,())):=by
 simp only[eY,RP.T]
 exact dZ (gN h hm) fun y hy=>jd hy.1
theorem afE{s:List (Int×Unit)}{a b z:Int}(h:iK s a z):Good (fun y:F5=>iK y.2.1 y.2.2.1 y.2.2.2.2.1) (wJ (s,a,b,z,())):=by
 simp only[wJ,Qz.T]
 repeat' first
  | (refine dZ (gN (by assumption) (by omega)) fun y hy=> ?_;obtain⟨hy,_,_⟩:=hy)
  |refine iy (fun _=> ?_) fun _=> ?_
  |exact jd (by assumption)
theorem aeA{s:List (Int×Unit)}{a b z:Int}(h:iK s a z):Good (fun y:F5=>iK y.2.1 y.2.2.1 y.2.2.2.2.1) (wI (s,a,b,z,())):=by
 simp only[wI,Qy.T]
 repeat' first
  | (refine dZ (gN (by assumption) (by omega)) fun y hy=> ?_;obtain⟨hy,_,_⟩:=hy)
  |refine iy (fun _=> ?_) fun _=> ?_
  |exact jd (by assumption)
theorem aeB(code:List (Int×Unit))(hc:code.length≤1048576):Good (fun y:List (Int×Unit)×Int×Int×Int×Unit=>iK y.1 y.2.1 y.2.2.2.1) (Dx (code,())):=by
 simp only[Dx,ou.FF,ou.T]
 have hA:∀ m,Good (fun y:List (Int×Unit)×Int×Int×Int×Unit=>iK y.1 y.2.1 y.2.2.2.1) (ou.A0 code code code 0 m 0):=fun m=>by
  simp only[ou.A0]
  rw[if_neg (by decide)]
  have e:af (Int.tdiv (code.length:Int) 20)=((code.length / 20:Nat):Int):=by
   rw[show Int.tdiv (code.length:Int) 20=((code.length / 20:Nat):Int)from rfl]
   exact aH _ (by omega)
  rw[e]
  refine iy (fun _=>jd ⟨Int.le_refl _,Int.natCast_nonneg _,hc,by show(0:Int)≤12;omega,Int.le_refl _⟩) fun h=>jd ⟨Int.le_refl _,Int.natCast_nonneg _,hc,Int.natCast_nonneg _, ?_⟩
  have:=of_decide_eq_false h
  show((code.length / 20:Nat):Int)≤12
  omega
 have key:∀ d (i:Nat) (m:Int) k,i+d=64→d<k→Good (fun y:List (Int×Unit)×Int×Int×Int×Unit=>iK y.1 y.2.1 y.2.2.2.1) (ou.G0 (300+code.length) (ou.A0 code) k code (i:Nat) code 0 m 0):=by
  intro d
  induction d with
  |zero=>
   intro i m k hi hk
   obtain⟨k,rfl⟩:∃ j,k=j+1:=⟨k - 1,by omega⟩
   simp only[ou.G0,ou.R0]
   refine iy (fun _=>iy (fun h=> ?_) fun _=>hA m) fun _=>hA m
   have:=of_decide_eq_true h
   omega
  |succ d ih=>
   intro i m k hi hk
   obtain⟨k,rfl⟩:∃ j,k=j+1:=⟨k - 1,by omega⟩
   simp only[ou.G0,ou.R0]
   refine iy (fun h=>iy (fun _=> ?_) fun _=>hA m) fun _=>hA m
   refine vH ⟨Int.natCast_nonneg _,of_decide_eq_true h⟩ ?_
   rw[show af ((i:Int)+1)=((i+1:Nat):Int)from aH _ (by omega)]
   exact ih (i+1) _ k (by omega) (by omega)
 exact key 64 0 _ _ (by omega) (by omega)
def kM(N:Nat)(l m:List I4)(n:List I3):Prop:=l.length≤N∧m.length≤N∧n.length≤N
theorem afI{s:List (Int×Unit)}{a b z:Int}(h:iK s a z):Good (fun y:F5=>iK y.2.1 y.2.2.1 y.2.2.2.2.1) (bQ (s,a,b,z,())):=by
 simp only[bQ,Ri.T]
 refine dZ (gN h (by omega)) fun y hy=> ?_
 obtain⟨hy,_,_⟩:=hy
 exact vH (by simp only[List.length_cons,List.length_nil];omega) (jd hy)
theorem gMax(a b:Int):Good (fun _=>True) (oC (a,b,())):=by
 simp only[oC,Eg.T]
 exact iy (fun _=>jd trivial) fun _=>jd trivial
abbrev OpN:=Int×Int×Int×Int×Int×List (Int×Unit)×Int×Int×Int×Unit
set_option maxHeartbeats 4000000 in
theorem YM{s:List (Int×Unit)}{a b z:Int}(h:iK s a z)(s0 s1 s2 s3:Int)(l m:List I4)(n:List I3)(hl:l.length≤1048576):Good (fun y:OpN=>iK y.2.2.2.2.2.1 y.2.2.2.2.2.2.1 y.2.2.2.2.2.2.2.2.1) (zF (s,a,b,z,s0,s1,s2,s3,l,m,n,())):=by
 simp only[zF,QW.T]
 refine dZ (gN h (by decide)) fun y1 h1=>dZ (gN h1.1 (by decide)) fun y2 h2=>dZ (gN h2.1 (by decide)) fun y3 h3=> ?_
 clear h h1 h2
 refine iy (fun hb=>dZ (FV h3.1 (by decide)) fun y4 h4=>iy (fun _=>dZ (gN h4 (by omega)) fun y5 h5=>vH (by have:=of_decide_eq_true hb;omega) ?_) fun _=> ?_) fun _=> ?_
 all_goals
  first |replace h3:=h5.1 |replace h3:=h4 |replace h3:=h3.1
  try clear h5
  try clear h4
  repeat' first
   |refine iy (fun _=> ?_) fun _=> ?_
   |exact jd (by assumption)
   | (refine dZ (gN (by assumption) (by decide)) fun y hy=> ?_;replace hy:=hy.1)
   | (refine dZ (FV (by assumption) (by decide)) fun y hy=> ?_)
   | (refine dZ (afI (by assumption)) fun y hy=> ?_)
   | (refine dZ (afE (by assumption)) fun y hy=> ?_)
   | (refine dZ (aeA (by assumption)) fun y hy=> ?_)
   | (refine dZ (gMax _ _) fun y _=> ?_)
abbrev DoN:=Int×Int×Int×Int×List I4×List I4×List I3×Int×Int×Int×Unit
theorem PU{l m:List I4}{n:List I3}(s0 s1 s2 s3:Int)(h:kM 1048576 l m n)(k id g a b:Int):Good (fun y:DoN=>kM 60 y.2.2.2.2.1 y.2.2.2.2.2.1 y.2.2.2.2.2.2.1) (lJ (s0,s1,s2,s3,l,m,n,k,id,g,a,b,())):=by
 obtain⟨t0,t1,t2,t3,l',m',n',am,un,c,e1,e2,b1,b2,b3⟩:=agi s0 s1 s2 s3 l m n k id g a b h.1 h.2.1 h.2.2
 exact⟨_,e1,b1,b2,b3⟩
theorem kM.mono{N M:Nat}{l m:List I4}{n:List I3}(h:kM N l m n)(hN:N≤M):kM M l m n:=⟨Nat.le_trans h.1 hN,Nat.le_trans h.2.1 hN,Nat.le_trans h.2.2 hN⟩
section
variable {R:Type} {Q:R→Prop} (k0:Nat) (hx:List (Int×Unit)→Int→Int→Int→List I5→Option R) (hQ:∀ s a b z out,iK s a z→out.length≤400→Good Q (hx s a b z out))
include hQ
theorem afG:∀ (d k:Nat) (n2:Int) (s:List (Int×Unit)) (a b z x0 x1 x2 x3:Int) (out:List I5) (l m:List I4) (n:List I3),n2≤d→d<k→out.length+d≤400→iK s a z→kM 1048576 l m n→Good Q (lI.G1 k0 hx k n2 s a b z x0 x1 x2 x3 out l m n):=by
 intro d
 induction d with
 |zero=>
  intro k n2 s a b z x0 x1 x2 x3 out l m n hn hk ho h hB
  obtain⟨k,rfl⟩:∃ j,k=j+1:=⟨k - 1,by omega⟩
  simp only[lI.G1,lI.R1]
  exact iy (fun h=>absurd (of_decide_eq_true h) (by omega)) fun _=>hQ _ _ _ _ _ h (by omega)
 |succ d ih=>
  intro k n2 s a b z x0 x1 x2 x3 out l m n hn hk ho h hB
  obtain⟨k,rfl⟩:∃ j,k=j+1:=⟨k - 1,by omega⟩
  simp only[lI.G1,lI.R1]
  refine iy (fun h0=> ?_) fun _=>hQ _ _ _ _ _ h (by omega)
  have h0:=of_decide_eq_true h0
  have hw:af (n2 - 1)=n2 - 1:=aH _ (by omega)
  refine dZ (YM h x0 x1 x2 x3 l m n hB.1) fun y hy=> ?_
  refine vH (by simp only[List.length_cons,List.length_nil,maxRow];omega) ?_
  refine dZ (PU x0 x1 x2 x3 hB _ _ _ _ _) fun v hv=> ?_
  rw[hw]
  exact iy (fun _=>ih k _ _ _ _ _ _ _ _ _ _ _ _ _ (by omega) (by omega) (by simp only[List.length_append,List.length_cons,List.length_nil];omega) hy (hv.mono (by decide)))
   fun _=>ih k _ _ _ _ _ _ _ _ _ _ _ _ _ (by omega) (by omega) (by simp only[List.length_append,List.length_cons,List.length_nil];omega) hy hB
theorem afH:∀ (d k:Nat) (n2:Int) (s:List (Int×Unit)) (a b z x0 x1 x2 x3:Int) (out:List I5) (l m:List I4) (n:List I3),n2≤d→d<k→out.length+d≤400→iK s a z→kM 1048576 l m n→Good Q (lI.G0 k0 hx k n2 s a b z x0 x1 x2 x3 l m n out):=by
 intro d
 induction d with
 |zero=>
  intro k n2 s a b z x0 x1 x2 x3 out l m n hn hk ho h hB
  obtain⟨k,rfl⟩:∃ j,k=j+1:=⟨k - 1,by omega⟩
  simp only[lI.G0,lI.R0]
  exact iy (fun h=>absurd (of_decide_eq_true h) (by omega)) fun _=>hQ _ _ _ _ _ h (by omega)
 |succ d ih=>
  intro k n2 s a b z x0 x1 x2 x3 out l m n hn hk ho h hB
  obtain⟨k,rfl⟩:∃ j,k=j+1:=⟨k - 1,by omega⟩
  simp only[lI.G0,lI.R0]
  refine iy (fun h0=> ?_) fun _=>hQ _ _ _ _ _ h (by omega)
  have h0:=of_decide_eq_true h0
  have hw:af (n2 - 1)=n2 - 1:=aH _ (by omega)
  refine dZ (YM h x0 x1 x2 x3 l m n hB.1) fun y hy=> ?_
  refine vH (by simp only[List.length_cons,List.length_nil,maxRow];omega) ?_
  refine dZ (PU x0 x1 x2 x3 hB _ _ _ _ _) fun v hv=> ?_
  rw[hw]
  exact iy (fun _=>afG k0 hx hQ d k _ _ _ _ _ _ _ _ _ _ _ _ _ (by omega) (by omega) (by simp only[List.length_append,List.length_cons,List.length_nil];omega) hy (hv.mono (by decide)))
   fun _=>ih k _ _ _ _ _ _ _ _ _ _ _ _ _ (by omega) (by omega) (by simp only[List.length_append,List.length_cons,List.length_nil];omega) hy hB
end
abbrev ags:=List I5×List (Int×Unit)×Int×Int×Int×Unit
theorem Pq{s:List (Int×Unit)}{a b z:Int}(h:iK s a z)(x0 x1 x2 x3:Int){l m:List I4}{n:List I3}(hB:kM 1048576 l m n)(c:Int)(hc:c≤302):Good (fun y:ags=>y.1.length≤400∧iK y.2.1 y.2.2.1 y.2.2.2.2.1) (zy (s,a,b,z,x0,x1,x2,x3,l,m,n,c,())):=by
 show Good _ (lI.FF 400 s a b z x0 x1 x2 x3 l m n c)
 rw[lI.FF,lI.T]
 exact afH 400 _ (fun s a b z out h1 h2=>jd ⟨h2,h1⟩) 302 400 c s a b z x0 x1 x2 x3 [] l m n hc (by decide) (by decide) h hB
theorem agd(a c:Int):Good (fun y:Int×Int×Int×Int×List I4×List I4×List I3×Unit=>kM 60 y.2.2.2.2.1 y.2.2.2.2.2.1 y.2.2.2.2.2.2.1) (Dy (a,c,())):=by
 simp only[Dy,SN.T,UB,yF,Option.bind_some]
 exact iy (fun _=>jd ⟨by simp,by simp,by simp⟩) fun _=>iy (fun _=>jd ⟨by simp,by simp,by simp⟩) fun _=>jd ⟨by simp,by simp,by simp⟩
theorem agf{l m:List I4}{n:List I3}(s0 s1 s2 s3:Int)(h:kM 60 l m n)(list:List I5):Good (fun y:Int×Int×Int×Int×List I4×List I4×List I3×Unit=>kM 60 y.2.2.2.2.1 y.2.2.2.2.2.1 y.2.2.2.2.2.2.1) (zN (s0,s1,s2,s3,l,m,n,list,())):=by
 obtain⟨h1,h2,h3⟩:=h
 obtain⟨t0,t1,t2,t3,l',m',n',e1,b1,b2,b3⟩:=agh s0 s1 s2 s3 l m n list (by omega) (by omega) (by omega)
 exact⟨_,e1,by show l'.length≤60;omega,by show m'.length≤60;omega,by show n'.length≤60;omega⟩
abbrev agq:=Int×Int×Int×Int×List I4×List I4×List I3×List (Int×Unit)×Int×Int×Int×Unit
def Pj(y:agq):Prop:=kM 61 y.2.2.2.2.1 y.2.2.2.2.2.1 y.2.2.2.2.2.2.1∧iK y.2.2.2.2.2.2.2.1 y.2.2.2.2.2.2.2.2.1 y.2.2.2.2.2.2.2.2.2.2.1
set_option maxHeartbeats 1000000 in
theorem aeC{s:List (Int×Unit)}{a b z:Int}(h:iK s a z):Good Pj (Iu (s,a,b,z,())):=by
 obtain⟨K,hK,hK2⟩:∃ K,K=300+s.length∧200<K:=⟨_,rfl,by omega⟩
 show Good _ (mY.FF (300+s.length) s a b z)
 rw[←hK,mY.FF,mY.T]
 have tail:∀ (s':List (Int×Unit)) (a' b' z' t0 t1 t2 t3 x0 x1 x2 x3:Int) (l m:List I4) (n:List I3),iK s' a' z'→kM 60 l m n→Good Pj (mY.A0 s a b z s' a' b' z' t0 t1 t2 t3 x0 x1 x2 x3 l m n):=by
  intro s' a' b' z' t0 t1 t2 t3 x0 x1 x2 x3 l m n h' hB
  have hz:=h'.2.2.2
  have hw:af (6+z')=6+z':=aH _ (by omega)
  rw[mY.A0,hw]
  refine dZ (gN h' (by omega)) fun y hy=> ?_
  obtain⟨hy,h0,h1⟩:=hy
  refine dZ (Pq hy x0 x1 x2 x3 (hB.mono (by decide)) _ (by omega)) fun y2 hy2=> ?_
  obtain⟨hy2,hy3⟩:=hy2
  refine dZ (agf x0 x1 x2 x3 hB y2.1) fun y4 hy4=> ?_
  have hy4':=hy4.mono (show 60≤61 by decide)
  repeat' first
   |exact jd ⟨hy4',by assumption⟩
   |exact jd ⟨⟨hy4'.1,hy4'.2.1,by have:=hy4.2.2;simp only[List.length_append,List.length_cons,List.length_nil];omega⟩,by assumption⟩
   |exact jd ⟨⟨by simp,by simp,by simp⟩,by assumption⟩
   | (refine dZ (gN (by assumption) (by omega)) fun y hy=> ?_;obtain⟨hy,_,_⟩:=hy)
   | (refine dZ (FV (by assumption) (by omega)) fun y hy=> ?_)
   | (refine iy (fun hb=> ?_) fun hb=> ?_)
   | (refine vH (by have:=hy4.2.2;simp only[List.length_cons,List.length_nil,maxRow];omega) ?_)
 have loop:∀ (d k:Nat) (kx:Int) (s':List (Int×Unit)) (a' b' z' t0 t1 t2 t3 x0 x1 x2 x3:Int) (l m:List I4) (n:List I3),kx≤d→d<k→d≤9→iK s' a' z'→kM 60 l m n→Good Pj (mY.G0 K (mY.A0 s a b z) k kx s' a' b' z' t0 t1 t2 t3 x0 x1 x2 x3 l m n):=by
  intro d
  induction d with
  |zero=>
   intro k kx s' a' b' z' t0 t1 t2 t3 x0 x1 x2 x3 l m n hn hk hd h' hB
   obtain⟨k,rfl⟩:∃ j,k=j+1:=⟨k - 1,by omega⟩
   simp only[mY.G0,mY.R0]
   exact iy (fun h=>absurd (of_decide_eq_true h) (by omega)) fun _=>tail _ _ _ _ _ _ _ _ _ _ _ _ _ _ _ h' hB
  |succ d ih=>
   intro k kx s' a' b' z' t0 t1 t2 t3 x0 x1 x2 x3 l m n hn hk hd h' hB
   obtain⟨k,rfl⟩:∃ j,k=j+1:=⟨k - 1,by omega⟩
   simp only[mY.G0,mY.R0]
   refine iy (fun h0=> ?_) fun _=>tail _ _ _ _ _ _ _ _ _ _ _ _ _ _ _ h' hB
   have h0:=of_decide_eq_true h0
   have hw:af (kx - 1)=kx - 1:=aH _ (by omega)
   refine dZ (PU x0 x1 x2 x3 (hB.mono (by decide)) _ _ _ _ _) fun v hv=> ?_
   rw[hw]
   exact ih k _ _ _ _ _ _ _ _ _ _ _ _ _ _ _ _ (by omega) (by omega) (by omega) h' hv
 refine dZ (gN h (by omega)) fun y1 h1=> ?_
 obtain⟨h1,_,_⟩:=h1
 refine dZ (gN h1 (by omega)) fun y2 h2=> ?_
 obtain⟨h2,_,_⟩:=h2
 refine dZ (agd _ _) fun y3 h3=> ?_
 refine dZ (gN h2 (by omega)) fun y4 h4=> ?_
 obtain⟨h4,_,_⟩:=h4
 exact loop 5 K _ _ _ _ _ _ _ _ _ _ _ _ _ _ _ _ (by omega) (by omega) (by decide) h4 h3
theorem aeI(code:List (Int×Unit))(hc:code.length≤1048576):∃ (s0 s1 s2 s3:Int) (l m:List I4) (n:List I3) (list:List I5),zA (code,())=some (s0,s1,s2,s3,l,m,n,list,())∧kM 61 l m n∧list.length≤400:=by
 have key:Good (fun y:Int×Int×Int×Int×List I4×List I4×List I3×List I5×Unit=>kM 61 y.2.2.2.2.1 y.2.2.2.2.2.1 y.2.2.2.2.2.2.1∧y.2.2.2.2.2.2.2.1.length≤400) (zA (code,())):=by
  simp only[zA,QL.T]
  refine dZ (aeB code hc) fun y hy=> ?_
  refine dZ (aeC hy) fun w hw=> ?_
  obtain⟨hw,hw2⟩:=hw
  refine dZ (FV hw2 (by omega)) fun v hv=> ?_
  refine iy (fun _=> ?_) fun _=> ?_
  ·refine dZ (gN hv (by omega)) fun u hu=> ?_
   obtain⟨hu,_,_⟩:=hu
   refine dZ (Pq hu 0 0 0 0 ⟨by simp,by simp,by simp⟩ _ (by rw[aH _ (by omega)];omega)) fun t ht=> ?_
   exact jd ⟨hw,ht.1⟩
  ·have hz:=hv.2.2.2
   rw[aH (2*v.2.2.2.2.1) (by omega),aH _ (by omega)]
   refine dZ (gN hv (by omega)) fun u hu=> ?_
   obtain⟨hu,_,_⟩:=hu
   refine dZ (Pq hu _ _ _ _ (hw.mono (by decide)) _ (by omega)) fun t ht=> ?_
   exact jd ⟨hw,ht.1⟩
 obtain⟨y,e,h1,h2⟩:=key
 exact⟨y.1,y.2.1,y.2.2.1,y.2.2.2.1,y.2.2.2.2.1,y.2.2.2.2.2.1,y.2.2.2.2.2.2.1,y.2.2.2.2.2.2.2.1,e,h1,h2⟩
end Go.Rv
