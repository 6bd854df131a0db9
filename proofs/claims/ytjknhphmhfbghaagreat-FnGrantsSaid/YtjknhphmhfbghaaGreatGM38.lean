/- Plain facts: draw0, draw2. -/
import Derived.Test.YtjknhphmhfbghaaGreatGM37
set_option linter.unusedVariables false
set_option linter.unusedSimpArgs false
set_option linter.unusedSectionVars false
namespace Go.Rv
def Good{α:Type}(Q:α→Prop)(o:Option α):Prop:=∃ x,o=some x∧Q x
theorem jB{α:Type}{Q:α→Prop}{x:α}(h:Q x):Good Q (some x):=⟨x,rfl,h⟩
theorem fP{α β:Type}{P:α→Prop}{Q:β→Prop}{o:Option α}{f:α→Option β}(h:Good P o)(hf:∀ x,P x→Good Q (f x)):Good Q (o.bind f):=by
 obtain⟨x,rfl,hx⟩:=h
 exact hf x hx
theorem iD{α:Type}{Q:α→Prop}{b:Bool}{x y:Option α}(h1:b=true→Good Q x)(h2:b=false→Good Q y):Good Q (cond b x y):=by
 cases b
 ·exact h2 rfl
 ·exact h1 rfl
theorem vk{α:Type}{Q:α→Prop}{p:Prop}[Decidable p]{x:Option α}(hp:p)(h:Good Q x):Good Q (if p then x else none):=by rw[if_pos hp];exact h
def iJ(s:List (Int×Unit))(a z:Int):Prop:=0≤a∧a≤s.length∧s.length≤1048576∧0≤z∧z≤12
theorem ad3(z:Int):0≤IntKind.u64.wrap z:=by
 show 0≤z % 18446744073709551616
 exact Int.emod_nonneg _ (by decide)
theorem EG(X most:Int)(h1:1<most)(h2:most≤4611686018427387904):0≤af (Int.tmod (IntKind.u64.wrap X) (IntKind.u64.wrap most))∧af (Int.tmod (IntKind.u64.wrap X) (IntKind.u64.wrap most))<most:=by
 rw[u64_in most (by omega)]
 have a1:=Int.tmod_nonneg most (ad3 X)
 have a2:=Int.tmod_lt_of_pos (IntKind.u64.wrap X) (show 0<most by omega)
 rw[aJ _ (by omega)]
 exact⟨a1,a2⟩
abbrev FB:=Int×List (Int×Unit)×Int×Int×Int×Unit
theorem gN{s:List (Int×Unit)}{a b z most:Int}(h:iJ s a z)(hm:most≤4611686018427387904):Good (fun y:FB=>iJ y.2.1 y.2.2.1 y.2.2.2.2.1∧0≤y.1∧(y.1=0∨y.1<most)) (aT (s,a,b,z,most,())):=by
 simp only[aT,RU.T]
 refine iD (fun _=>jB ⟨h,Int.le_refl _,Or.inl rfl⟩) fun hm'=>iD (fun ha=> ?_) fun _=> ?_
 ·have ha':a<s.length:=of_decide_eq_true ha
  have hm1:¬ most≤1:=of_decide_eq_false hm'
  refine vk ⟨h.1,ha'⟩ ?_
  rw[if_neg (by rw[u64_in most (by omega)];omega)]
  refine jB ⟨?_,(EG _ most (by omega) hm).1,Or.inr (EG _ most (by omega) hm).2⟩
  obtain⟨h1,h2,h3,h4,h5⟩:=h
  refine⟨?_, ?_,h3,h4,h5⟩
  ·show 0≤af (a+1)
   rw[aJ _ (by omega)];omega
  ·show af (a+1)≤(s.length:Int)
   rw[aJ _ (by omega)];omega
 ·have hm1:¬ most≤1:=of_decide_eq_false hm'
  rw[if_neg (by rw[u64_in most (by omega)];omega)]
  exact jB ⟨h,(EG _ most (by omega) hm).1,Or.inr (EG _ most (by omega) hm).2⟩
theorem Oy{s:List (Int×Unit)}{a b z most:Int}(h:iJ s a z)(hm:most≤4611686018427387904):Good (fun y:Bool×List (Int×Unit)×Int×Int×Int×Unit=>iJ y.2.1 y.2.2.1 y.2.2.2.2.1) (eY (s,a,b,z,most,())):=by
 simp only[eY,QM.T]
 exact fP (gN h hm) fun y hy=>jB hy.1
theorem aeM{s:List (Int×Unit)}{a b z:Int}(h:iJ s a z):Good (fun y:FB=>iJ y.2.1 y.2.2.1 y.2.2.2.2.1) (wB (s,a,b,z,())):=by
 simp only[wB,PK.T]
 repeat' first
  | (refine fP (gN (by assumption) (by omega)) fun y hy=> ?_;obtain⟨hy,_,_⟩:=hy)
  |refine iD (fun _=> ?_) fun _=> ?_
  |exact jB (by assumption)
theorem adG{s:List (Int×Unit)}{a b z:Int}(h:iJ s a z):Good (fun y:FB=>iJ y.2.1 y.2.2.1 y.2.2.2.2.1) (wz (s,a,b,z,())):=by
 simp only[wz,PI.T]
 repeat' first
  | (refine fP (gN (by assumption) (by omega)) fun y hy=> ?_;obtain⟨hy,_,_⟩:=hy)
  |refine iD (fun _=> ?_) fun _=> ?_
  |exact jB (by assumption)
theorem adH(code:List (Int×Unit))(hc:code.length≤1048576):Good (fun y:List (Int×Unit)×Int×Int×Int×Unit=>iJ y.1 y.2.1 y.2.2.2.1) (Dc (code,())):=by
 simp only[Dc,nV.FF,nV.T]
 have hA:∀ m,Good (fun y:List (Int×Unit)×Int×Int×Int×Unit=>iJ y.1 y.2.1 y.2.2.2.1) (nV.A0 code code code 0 m 0):=fun m=>by
  simp only[nV.A0]
  rw[if_neg (by decide)]
  have e:af (Int.tdiv (code.length:Int) 20)=((code.length / 20:Nat):Int):=by
   rw[show Int.tdiv (code.length:Int) 20=((code.length / 20:Nat):Int)from rfl]
   exact aJ _ (by omega)
  rw[e]
  refine iD (fun _=>jB ⟨Int.le_refl _,Int.natCast_nonneg _,hc,by show(0:Int)≤12;omega,Int.le_refl _⟩) fun h=>jB ⟨Int.le_refl _,Int.natCast_nonneg _,hc,Int.natCast_nonneg _, ?_⟩
  have:=of_decide_eq_false h
  show((code.length / 20:Nat):Int)≤12
  omega
 have key:∀ d (i:Nat) (m:Int) k,i+d=64→d<k→Good (fun y:List (Int×Unit)×Int×Int×Int×Unit=>iJ y.1 y.2.1 y.2.2.2.1) (nV.G0 (300+code.length) (nV.A0 code) k code (i:Nat) code 0 m 0):=by
  intro d
  induction d with
  |zero=>
   intro i m k hi hk
   obtain⟨k,rfl⟩:∃ j,k=j+1:=⟨k - 1,by omega⟩
   simp only[nV.G0,nV.R0]
   refine iD (fun _=>iD (fun h=> ?_) fun _=>hA m) fun _=>hA m
   have:=of_decide_eq_true h
   omega
  |succ d ih=>
   intro i m k hi hk
   obtain⟨k,rfl⟩:∃ j,k=j+1:=⟨k - 1,by omega⟩
   simp only[nV.G0,nV.R0]
   refine iD (fun h=>iD (fun _=> ?_) fun _=>hA m) fun _=>hA m
   refine vk ⟨Int.natCast_nonneg _,of_decide_eq_true h⟩ ?_
   rw[show af ((i:Int)+1)=((i+1:Nat):Int)from aJ _ (by omega)]
   exact ih (i+1) _ k (by omega) (by omega)
 exact key 64 0 _ _ (by omega) (by omega)
def lq(N:Nat)(l m:List I4)(n:List I3):Prop:=l.length≤N∧m.length≤N∧n.length≤N
theorem aeQ{s:List (Int×Unit)}{a b z:Int}(h:iJ s a z):Good (fun y:FB=>iJ y.2.1 y.2.2.1 y.2.2.2.2.1) (bQ (s,a,b,z,())):=by
 simp only[bQ,Qv.T]
 refine fP (gN h (by omega)) fun y hy=> ?_
 obtain⟨hy,_,_⟩:=hy
 exact vk (by simp only[List.length_cons,List.length_nil];omega) (jB hy)
theorem gMax(a b:Int):Good (fun _=>True) (qZ (a,b,())):=by
 simp only[qZ,KT.T]
 exact iD (fun _=>jB trivial) fun _=>jB trivial
abbrev OpN:=Int×Int×Int×Int×Int×List (Int×Unit)×Int×Int×Int×Unit
set_option maxHeartbeats 4000000 in
theorem OQ{s:List (Int×Unit)}{a b z:Int}(h:iJ s a z)(s0 s1 s2 s3:Int)(l m:List I4)(n:List I3)(hl:l.length≤1048576):Good (fun y:OpN=>iJ y.2.2.2.2.2.1 y.2.2.2.2.2.2.1 y.2.2.2.2.2.2.2.2.1) (wC (s,a,b,z,s0,s1,s2,s3,l,m,n,())):=by
 simp only[wC,Qi.T]
 refine fP (gN h (by decide)) fun y1 h1=>fP (gN h1.1 (by decide)) fun y2 h2=>fP (gN h2.1 (by decide)) fun y3 h3=> ?_
 clear h h1 h2
 refine iD (fun hb=>fP (Oy h3.1 (by decide)) fun y4 h4=>iD (fun _=>fP (gN h4 (by omega)) fun y5 h5=>vk (by have:=of_decide_eq_true hb;omega) ?_) fun _=> ?_) fun _=> ?_
 all_goals
  first |replace h3:=h5.1 |replace h3:=h4 |replace h3:=h3.1
  try clear h5
  try clear h4
  repeat' first
   |refine iD (fun _=> ?_) fun _=> ?_
   |exact jB (by assumption)
   | (refine fP (gN (by assumption) (by decide)) fun y hy=> ?_;replace hy:=hy.1)
   | (refine fP (Oy (by assumption) (by decide)) fun y hy=> ?_)
   | (refine fP (aeQ (by assumption)) fun y hy=> ?_)
   | (refine fP (aeM (by assumption)) fun y hy=> ?_)
   | (refine fP (adG (by assumption)) fun y hy=> ?_)
   | (refine fP (gMax _ _) fun y _=> ?_)
abbrev DoN:=Int×Int×Int×Int×List I4×List I4×List I3×Int×Int×Int×Unit
theorem OT{l m:List I4}{n:List I3}(s0 s1 s2 s3:Int)(h:lq 1048576 l m n)(k id g a b:Int):Good (fun y:DoN=>lq 60 y.2.2.2.2.1 y.2.2.2.2.2.1 y.2.2.2.2.2.2.1) (jF (s0,s1,s2,s3,l,m,n,k,id,g,a,b,())):=by
 obtain⟨t0,t1,t2,t3,l',m',n',am,un,c,e1,e2,b1,b2,b3⟩:=afn s0 s1 s2 s3 l m n k id g a b h.1 h.2.1 h.2.2
 exact⟨_,e1,b1,b2,b3⟩
theorem lq.mono{N M:Nat}{l m:List I4}{n:List I3}(h:lq N l m n)(hN:N≤M):lq M l m n:=⟨Nat.le_trans h.1 hN,Nat.le_trans h.2.1 hN,Nat.le_trans h.2.2 hN⟩
section
variable {R:Type} {Q:R→Prop} (k0:Nat) (hx:List (Int×Unit)→Int→Int→Int→List I5→Option R) (hQ:∀ s a b z out,iJ s a z→out.length≤400→Good Q (hx s a b z out))
include hQ
theorem aeO:∀ (d k:Nat) (n2:Int) (s:List (Int×Unit)) (a b z x0 x1 x2 x3:Int) (out:List I5) (l m:List I4) (n:List I3),n2≤d→d<k→out.length+d≤400→iJ s a z→lq 1048576 l m n→Good Q (lH.G1 k0 hx k n2 s a b z x0 x1 x2 x3 out l m n):=by
 intro d
 induction d with
 |zero=>
  intro k n2 s a b z x0 x1 x2 x3 out l m n hn hk ho h hB
  obtain⟨k,rfl⟩:∃ j,k=j+1:=⟨k - 1,by omega⟩
  simp only[lH.G1,lH.R1]
  exact iD (fun h=>absurd (of_decide_eq_true h) (by omega)) fun _=>hQ _ _ _ _ _ h (by omega)
 |succ d ih=>
  intro k n2 s a b z x0 x1 x2 x3 out l m n hn hk ho h hB
  obtain⟨k,rfl⟩:∃ j,k=j+1:=⟨k - 1,by omega⟩
  simp only[lH.G1,lH.R1]
  refine iD (fun h0=> ?_) fun _=>hQ _ _ _ _ _ h (by omega)
  have h0:=of_decide_eq_true h0
  have hw:af (n2 - 1)=n2 - 1:=aJ _ (by omega)
  refine fP (OQ h x0 x1 x2 x3 l m n hB.1) fun y hy=> ?_
  refine vk (by simp only[List.length_cons,List.length_nil,maxRow];omega) ?_
  refine fP (OT x0 x1 x2 x3 hB _ _ _ _ _) fun v hv=> ?_
  rw[hw]
  exact iD (fun _=>ih k _ _ _ _ _ _ _ _ _ _ _ _ _ (by omega) (by omega) (by simp only[List.length_append,List.length_cons,List.length_nil];omega) hy (hv.mono (by decide)))
   fun _=>ih k _ _ _ _ _ _ _ _ _ _ _ _ _ (by omega) (by omega) (by simp only[List.length_append,List.length_cons,List.length_nil];omega) hy hB
theorem aeP:∀ (d k:Nat) (n2:Int) (s:List (Int×Unit)) (a b z x0 x1 x2 x3:Int) (out:List I5) (l m:List I4) (n:List I3),n2≤d→d<k→out.length+d≤400→iJ s a z→lq 1048576 l m n→Good Q (lH.G0 k0 hx k n2 s a b z x0 x1 x2 x3 l m n out):=by
 intro d
 induction d with
 |zero=>
  intro k n2 s a b z x0 x1 x2 x3 out l m n hn hk ho h hB
  obtain⟨k,rfl⟩:∃ j,k=j+1:=⟨k - 1,by omega⟩
  simp only[lH.G0,lH.R0]
  exact iD (fun h=>absurd (of_decide_eq_true h) (by omega)) fun _=>hQ _ _ _ _ _ h (by omega)
 |succ d ih=>
  intro k n2 s a b z x0 x1 x2 x3 out l m n hn hk ho h hB
  obtain⟨k,rfl⟩:∃ j,k=j+1:=⟨k - 1,by omega⟩
  simp only[lH.G0,lH.R0]
  refine iD (fun h0=> ?_) fun _=>hQ _ _ _ _ _ h (by omega)
  have h0:=of_decide_eq_true h0
  have hw:af (n2 - 1)=n2 - 1:=aJ _ (by omega)
  refine fP (OQ h x0 x1 x2 x3 l m n hB.1) fun y hy=> ?_
  refine vk (by simp only[List.length_cons,List.length_nil,maxRow];omega) ?_
  refine fP (OT x0 x1 x2 x3 hB _ _ _ _ _) fun v hv=> ?_
  rw[hw]
  exact iD (fun _=>aeO k0 hx hQ d k _ _ _ _ _ _ _ _ _ _ _ _ _ (by omega) (by omega) (by simp only[List.length_append,List.length_cons,List.length_nil];omega) hy (hv.mono (by decide)))
   fun _=>ih k _ _ _ _ _ _ _ _ _ _ _ _ _ (by omega) (by omega) (by simp only[List.length_append,List.length_cons,List.length_nil];omega) hy hB
end
abbrev afv:=List I5×List (Int×Unit)×Int×Int×Int×Unit
theorem afj{s:List (Int×Unit)}{a b z:Int}(h:iJ s a z)(x0 x1 x2 x3:Int){l m:List I4}{n:List I3}(hB:lq 1048576 l m n)(c:Int)(hc:c≤302):Good (fun y:afv=>y.1.length≤400∧iJ y.2.1 y.2.2.1 y.2.2.2.2.1) (Ir (s,a,b,z,x0,x1,x2,x3,l,m,n,c,())):=by
 show Good _ (lH.FF 400 s a b z x0 x1 x2 x3 l m n c)
 rw[lH.FF,lH.T]
 exact aeP 400 _ (fun s a b z out h1 h2=>jB ⟨h2,h1⟩) 302 400 c s a b z x0 x1 x2 x3 [] l m n hc (by decide) (by decide) h hB
theorem afk(a c:Int):Good (fun y:Int×Int×Int×Int×List I4×List I4×List I3×Unit=>lq 60 y.2.2.2.2.1 y.2.2.2.2.2.1 y.2.2.2.2.2.2.1) (Df (a,c,())):=by
 simp only[Df,Ro.T,TD,yu,Option.bind_some]
 exact iD (fun _=>jB ⟨by simp,by simp,by simp⟩) fun _=>iD (fun _=>jB ⟨by simp,by simp,by simp⟩) fun _=>jB ⟨by simp,by simp,by simp⟩
theorem afl{l m:List I4}{n:List I3}(s0 s1 s2 s3:Int)(h:lq 60 l m n)(list:List I5):Good (fun y:Int×Int×Int×Int×List I4×List I4×List I3×Unit=>lq 60 y.2.2.2.2.1 y.2.2.2.2.2.1 y.2.2.2.2.2.2.1) (zx (s0,s1,s2,s3,l,m,n,list,())):=by
 obtain⟨h1,h2,h3⟩:=h
 obtain⟨t0,t1,t2,t3,l',m',n',e1,b1,b2,b3⟩:=afm s0 s1 s2 s3 l m n list (by omega) (by omega) (by omega)
 exact⟨_,e1,by show l'.length≤60;omega,by show m'.length≤60;omega,by show n'.length≤60;omega⟩
abbrev afu:=Int×Int×Int×Int×List I4×List I4×List I3×List (Int×Unit)×Int×Int×Int×Unit
def Ou(y:afu):Prop:=lq 61 y.2.2.2.2.1 y.2.2.2.2.2.1 y.2.2.2.2.2.2.1∧iJ y.2.2.2.2.2.2.2.1 y.2.2.2.2.2.2.2.2.1 y.2.2.2.2.2.2.2.2.2.2.1
set_option maxHeartbeats 1000000 in
theorem adI{s:List (Int×Unit)}{a b z:Int}(h:iJ s a z):Good Ou (Hq (s,a,b,z,())):=by
 obtain⟨K,hK,hK2⟩:∃ K,K=300+s.length∧200<K:=⟨_,rfl,by omega⟩
 show Good _ (mO.FF (300+s.length) s a b z)
 rw[←hK,mO.FF,mO.T]
 have tail:∀ (s':List (Int×Unit)) (a' b' z' t0 t1 t2 t3 x0 x1 x2 x3:Int) (l m:List I4) (n:List I3),iJ s' a' z'→lq 60 l m n→Good Ou (mO.A0 s a b z s' a' b' z' t0 t1 t2 t3 x0 x1 x2 x3 l m n):=by
  intro s' a' b' z' t0 t1 t2 t3 x0 x1 x2 x3 l m n h' hB
  have hz:=h'.2.2.2
  have hw:af (6+z')=6+z':=aJ _ (by omega)
  rw[mO.A0,hw]
  refine fP (gN h' (by omega)) fun y hy=> ?_
  obtain⟨hy,h0,h1⟩:=hy
  refine fP (afj hy x0 x1 x2 x3 (hB.mono (by decide)) _ (by omega)) fun y2 hy2=> ?_
  obtain⟨hy2,hy3⟩:=hy2
  refine fP (afl x0 x1 x2 x3 hB y2.1) fun y4 hy4=> ?_
  have hy4':=hy4.mono (show 60≤61 by decide)
  repeat' first
   |exact jB ⟨hy4',by assumption⟩
   |exact jB ⟨⟨hy4'.1,hy4'.2.1,by have:=hy4.2.2;simp only[List.length_append,List.length_cons,List.length_nil];omega⟩,by assumption⟩
   |exact jB ⟨⟨by simp,by simp,by simp⟩,by assumption⟩
   | (refine fP (gN (by assumption) (by omega)) fun y hy=> ?_;obtain⟨hy,_,_⟩:=hy)
   | (refine fP (Oy (by assumption) (by omega)) fun y hy=> ?_)
   | (refine iD (fun hb=> ?_) fun hb=> ?_)
   | (refine vk (by have:=hy4.2.2;simp only[List.length_cons,List.length_nil,maxRow];omega) ?_)
 have loop:∀ (d k:Nat) (kx:Int) (s':List (Int×Unit)) (a' b' z' t0 t1 t2 t3 x0 x1 x2 x3:Int) (l m:List I4) (n:List I3),kx≤d→d<k→d≤9→iJ s' a' z'→lq 60 l m n→Good Ou (mO.G0 K (mO.A0 s a b z) k kx s' a' b' z' t0 t1 t2 t3 x0 x1 x2 x3 l m n):=by
  intro d
  induction d with
  |zero=>
   intro k kx s' a' b' z' t0 t1 t2 t3 x0 x1 x2 x3 l m n hn hk hd h' hB
   obtain⟨k,rfl⟩:∃ j,k=j+1:=⟨k - 1,by omega⟩
   simp only[mO.G0,mO.R0]
   exact iD (fun h=>absurd (of_decide_eq_true h) (by omega)) fun _=>tail _ _ _ _ _ _ _ _ _ _ _ _ _ _ _ h' hB
  |succ d ih=>
   intro k kx s' a' b' z' t0 t1 t2 t3 x0 x1 x2 x3 l m n hn hk hd h' hB
   obtain⟨k,rfl⟩:∃ j,k=j+1:=⟨k - 1,by omega⟩
   simp only[mO.G0,mO.R0]
   refine iD (fun h0=> ?_) fun _=>tail _ _ _ _ _ _ _ _ _ _ _ _ _ _ _ h' hB
   have h0:=of_decide_eq_true h0
   have hw:af (kx - 1)=kx - 1:=aJ _ (by omega)
   refine fP (OT x0 x1 x2 x3 (hB.mono (by decide)) _ _ _ _ _) fun v hv=> ?_
   rw[hw]
   exact ih k _ _ _ _ _ _ _ _ _ _ _ _ _ _ _ _ (by omega) (by omega) (by omega) h' hv
 refine fP (gN h (by omega)) fun y1 h1=> ?_
 obtain⟨h1,_,_⟩:=h1
 refine fP (gN h1 (by omega)) fun y2 h2=> ?_
 obtain⟨h2,_,_⟩:=h2
 refine fP (afk _ _) fun y3 h3=> ?_
 refine fP (gN h2 (by omega)) fun y4 h4=> ?_
 obtain⟨h4,_,_⟩:=h4
 exact loop 5 K _ _ _ _ _ _ _ _ _ _ _ _ _ _ _ _ (by omega) (by omega) (by decide) h4 h3
theorem aeo(code:List (Int×Unit))(hc:code.length≤1048576):∃ (s0 s1 s2 s3:Int) (l m:List I4) (n:List I3) (k id g a b:Int),Cf (code,())=some (s0,s1,s2,s3,l,m,n,k,id,g,a,b,())∧lq 61 l m n:=by
 simp only[Cf,Qj.T]
 obtain⟨y,e,hy⟩:=adH code hc
 obtain⟨w,e2,hw,hw2⟩:=adI (b:=y.2.2.1) hy
 obtain⟨v,e3,hv⟩:=OQ (b:=w.2.2.2.2.2.2.2.2.2.1) hw2 w.1 w.2.1 w.2.2.1 w.2.2.2.1 w.2.2.2.2.1 w.2.2.2.2.2.1 w.2.2.2.2.2.2.1 (Nat.le_trans hw.1 (by decide))
 rw[e]
 simp only[Option.bind_some]
 rw[e2]
 simp only[Option.bind_some]
 rw[e3]
 exact⟨_,_,_,_,_,_,_,_,_,_,_,_,rfl,hw⟩
end Go.Rv
