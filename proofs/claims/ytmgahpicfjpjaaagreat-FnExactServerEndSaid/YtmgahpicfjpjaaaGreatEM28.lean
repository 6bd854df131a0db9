/- Plain facts: shares2. -/
import Derived.Test.YtmgahpicfjpjaaaGreatEM27
set_option linter.unusedVariables false
set_option linter.unusedSimpArgs false
set_option linter.unusedSectionVars false
namespace Go.Rv
theorem agR(ps qs:List Nat)(i:Nat)(hi:i<ps.length):((ps.map fun(i:Nat)=>(((i:Int),(-1:Int),()):Int×Int×Unit))++qs.map fun(i:Nat)=>(((-1:Int),(i:Int),()):Int×Int×Unit)).getD i (0,0,())=((ps.getD i 0:Int), -1,()):=by
 rw[List.getD_eq_getElem?_getD,List.getElem?_append_left (by simpa using hi),List.getElem?_map,List.getElem?_eq_getElem hi,List.getD_eq_getElem?_getD,List.getElem?_eq_getElem hi]
 rfl
theorem af6(ps qs:List Nat)(j:Nat)(hj:j<qs.length):((ps.map fun(i:Nat)=>(((i:Int),(-1:Int),()):Int×Int×Unit))++qs.map fun(i:Nat)=>(((-1:Int),(i:Int),()):Int×Int×Unit)).getD (ps.length+j) (0,0,())=(-1,(qs.getD j 0:Int),()):=by
 rw[List.getD_eq_getElem?_getD,List.getElem?_append_right (by simp),List.length_map,Nat.add_sub_cancel_left,List.getElem?_map,List.getElem?_eq_getElem hj,List.getD_eq_getElem?_getD,List.getElem?_eq_getElem hj]
 rfl
theorem Yj(ps:List Nat)(i:Nat)(hi:i<ps.length):(ps.map fun(i:Nat)=>(((i:Int),()):Int×Unit)).getD i (0,())=((ps.getD i 0:Int),()):=by
 rw[List.getD_eq_getElem?_getD,List.getElem?_map,List.getElem?_eq_getElem hi,List.getD_eq_getElem?_getD,List.getElem?_eq_getElem hi]
 rfl
def pr(l:List I4)(A:List (Int×Unit)):List (Int×Int×Unit):=A.mapIdx fun i x=>((g4 l i).1,x.1,())
theorem qQ(l:List I4)(A:List (Int×Unit)):(pr l A).length=A.length:=by simp[pr]
theorem Bd(l:List I4)(A:List (Int×Unit))(z:Int×Int×Unit)(i:Nat)(hi:i<A.length):(pr l A).getD i z=((g4 l i).1,fI A i,()):=by
 rw[List.getD_eq_getElem?_getD,pr,List.getElem?_mapIdx,List.getElem?_eq_getElem hi]
 simp[fI,List.getD_eq_getElem?_getD,hi]
theorem Yi(l:List I4)(A:List (Int×Unit))(i:Nat)(v:Int):(pr l A).set i ((g4 l i).1,v,())=pr l (A.set i (v,())):=by
 apply List.ext_getElem?
 intro j
 rw[pr,pr,List.getElem?_mapIdx,List.getElem?_set,List.getElem?_set,List.getElem?_mapIdx,List.length_mapIdx]
 by_cases e:i=j
 ·subst e
  rw[if_pos rfl,if_pos rfl]
  split <;>simp_all
 ·rw[if_neg e,if_neg e]
section
variable {c:Int} {l m:List I4} (h:kQ c l m)
include h
theorem Wh(k0:Nat)(hx:Int→Int→List I4→List I4→List (Int×Unit)→List (Int×Unit)→Option (List (Int×Unit)×List (Int×Unit)×Unit))(g:Int)(F:Nat→Int)(id a:Int)(G M:List (Int×Unit))(hG:G.length=l.length)(hM:M.length=m.length)(k:Nat)(hk:90<k):
  gI.G1 k0 hx k g 0 c l m G M (gk l id l.length++mk' m id m.length) (rg (fF l m F id).length (fA l m F id a))=hx g c l m (pG l m F id a G) (pM l m F id a M):=by
 have hle:=yj h F id
 have hlen:(fF l m F id).length=(gp l id).length+(gp m id).length:=A7 h F id
 have hkl:(gk l id l.length++mk' m id m.length).length=(gp l id).length+(gp m id).length:=by simp[gk,mk',gp]
 have rg_len':=iY (fF l m F id).length (fA l m F id a)
 -- the groups
 have s0:∀ d i k,i+d=(gp l id).length→d≤k→∃ k',k'+d=k∧gI.G1 k0 hx k g (i:Nat) c l m (ku G (gp l id) (fA l m F id a) i) M (gk l id l.length++mk' m id m.length) (rg (fF l m F id).length (fA l m F id a))=
   gI.G1 k0 hx k' g ((gp l id).length:Nat) c l m (pG l m F id a G) M (gk l id l.length++mk' m id m.length) (rg (fF l m F id).length (fA l m F id a)):=by
  intro d
  induction d with
  |zero=>
   intro i k hi hk
   have:i=(gp l id).length:=by omega
   subst this
   exact⟨k,rfl,rfl⟩
  |succ d ih=>
   intro i k hi hk
   obtain⟨k,rfl⟩:∃ j,k=j+1:=⟨k - 1,by omega⟩
   obtain⟨k',e1,e2⟩:=ih (i+1) k (by omega) (by omega)
   refine⟨k',by omega,Eq.trans ?_ e2⟩
   have hgi:(gk l id l.length++mk' m id m.length).getD i (0,0,())=(((gp l id).getD i 0:Int), -1,()):=agR (gp l id) (gp m id) i (by omega)
   have hlt:(gp l id).getD i 0<l.length:=EX (l:=l) (id:=id) (k:=l.length) (j:=i) (by show i<(gp l id).length;omega)
   simp only[gI.G1,gI.R1,Int.toNat_natCast]
   rw[hkl,decide_eq_true (by omega),cond_true,if_pos (by omega),aH ((i:Int)+1) (by omega)]
   simp only[hgi]
   rw[decide_eq_true (by omega),cond_true,if_pos (by omega),rg_len',if_pos (by omega),oD,if_pos (by omega),Int.toNat_natCast,lY _ _ _ _ (by omega)]
   rfl
 have s1:∀ d j k,j+d=(gp m id).length→d<k→gI.G1 k0 hx k g (((gp l id).length+j:Nat):Int) c l m (pG l m F id a G) (ku M (gp m id) (fun j=>fA l m F id a ((gp l id).length+j)) j) (gk l id l.length++mk' m id m.length) (rg (fF l m F id).length (fA l m F id a))=
   hx g c l m (pG l m F id a G) (pM l m F id a M):=by
  intro d
  induction d with
  |zero=>
   intro j k hj hk
   obtain⟨k,rfl⟩:∃ j,k=j+1:=⟨k - 1,by omega⟩
   have:j=(gp m id).length:=by omega
   subst this
   simp only[gI.G1,gI.R1]
   rw[hkl,decide_eq_false (by omega),cond_false]
   rfl
  |succ d ih=>
   intro j k hj hk
   obtain⟨k,rfl⟩:∃ j,k=j+1:=⟨k - 1,by omega⟩
   have IH:=ih (j+1) k (by omega) (by omega)
   refine Eq.trans ?_ IH
   have hgi:(gk l id l.length++mk' m id m.length).getD ((gp l id).length+j) (0,0,())=(-1,((gp m id).getD j 0:Int),()):=af6 (gp l id) (gp m id) j (by omega)
   have hlt:(gp m id).getD j 0<m.length:=EX (l:=m) (id:=id) (k:=m.length) (j:=j) (by show j<(gp m id).length;omega)
   simp only[gI.G1,gI.R1,Int.toNat_natCast]
   rw[hkl,decide_eq_true (by omega),cond_true,if_pos (by omega),aH _ (by omega)]
   simp only[hgi]
   rw[decide_eq_false (by omega),cond_false,if_pos (by omega),rg_len',if_pos (by omega),oD,if_pos (by omega),Int.toNat_natCast,lY _ _ _ _ (by omega)]
   rfl
 obtain⟨k',e1,e2⟩:=s0 (gp l id).length 0 k (by omega) (by omega)
 refine Eq.trans e2 ?_
 exact s1 (gp m id).length 0 k' (by omega) (by omega)
theorem WN(F:Nat→Int)(hF:iq F)(hW:tJ l m F)(id a:Int)(ha:0≤a∧a≤72057594037927936)(G M:List (Int×Unit))(hG:G.length=l.length)(hM:M.length=m.length):
  zM (c,l,m,id,a,pr l G,pr m M,())=some (pr l (pG l m F id a G),pr m (pM l m F id a M),()):=by
 have hle:=yj h F id
 have hlen:(fF l m F id).length=(gp l id).length+(gp m id).length:=A7 h F id
 have rg_len':=iY (fF l m F id).length (fA l m F id a)
 obtain⟨y,hy⟩:=agS h F hF id a ha
 simp only[zM,jd.FF,jd.T,aff h id F hF hW,hy,Option.bind_some]
 have hl:=h.2.1
 have hm:=h.2.2.1
 have olen:(ow l id l.length).length=(gp l id).length:=by simp[ow,gp]
 have mlen:(ow m id m.length).length=(gp m id).length:=by simp[ow,gp]
 have s0:∀ (k0:Nat) (hx:List (Int×Int×Unit)→List (Int×Int×Unit)→List (Int×Unit)→List (Int×Unit)→List (Int×Unit)→Option (List (Int×Int×Unit)×List (Int×Int×Unit)×Unit)) (k:Nat),(gp l id).length<k→
   jd.G0 k0 hx k ((gp l id).length:Int) 0 (pr l G) (pr m M) (ow l id l.length) (ow m id m.length) (rg (fF l m F id).length (fA l m F id a))=hx (pr l (pG l m F id a G)) (pr m M) (ow l id l.length) (ow m id m.length) (rg (fF l m F id).length (fA l m F id a)):=by
  intro k0 hx k hk
  refine run 0 (gp l id).length (fun k i=>jd.G0 k0 hx k ((gp l id).length:Int) (i:Nat) (pr l (ku G (gp l id) (fA l m F id a) i)) (pr m M) (ow l id l.length) (ow m id m.length) (rg (fF l m F id).length (fA l m F id a))) _ (fun k i _ hi=> ?_) (fun k=> ?_) k (by omega) (by omega)
  ·show jd.G0 k0 hx (k+1) _ (i:Nat) (pr l (ku G (gp l id) (fA l m F id a) i)) _ _ _ _=jd.G0 k0 hx k _ ((i+1:Nat):Int) (pr l (ku G (gp l id) (fA l m F id a) (i+1))) _ _ _ _
   have hgi:(ow l id l.length).getD i (0,())=(((gp l id).getD i 0:Int),()):=Yj (gp l id) i hi
   have hlt:(gp l id).getD i 0<l.length:=EX (l:=l) (id:=id) (k:=l.length) (j:=i) hi
   simp only[jd.G0,jd.R0,Int.toNat_natCast]
   rw[decide_eq_true (by omega),cond_true,olen,if_pos (by omega),rg_len',if_pos (by omega),qQ,oD,aH ((i:Int)+1) (by omega)]
   simp only[hgi]
   rw[if_pos (by omega),Int.toNat_natCast,lY _ _ _ _ (by omega),Bd _ _ _ _ (by rw[oD];omega),Yi]
   rfl
  ·simp only[jd.G0,jd.R0]
   rw[decide_eq_false (by omega),cond_false]
   rfl
 have s1:∀ (k0:Nat) (hx:List (Int×Int×Unit)→List (Int×Int×Unit)→Option (List (Int×Int×Unit)×List (Int×Int×Unit)×Unit)) (o0:List (Int×Int×Unit)) (k:Nat),(gp m id).length<k→
   jd.G1 k0 hx k ((gp m id).length:Int) 0 o0 (pr m M) (ow l id l.length) (rg (fF l m F id).length (fA l m F id a)) (ow m id m.length)=hx o0 (pr m (pM l m F id a M)):=by
  intro k0 hx o0 k hk
  refine run 0 (gp m id).length (fun k i=>jd.G1 k0 hx k ((gp m id).length:Int) (i:Nat) o0 (pr m (ku M (gp m id) (fun j=>fA l m F id a ((gp l id).length+j)) i)) (ow l id l.length) (rg (fF l m F id).length (fA l m F id a)) (ow m id m.length)) _ (fun k i _ hi=> ?_) (fun k=> ?_) k (by omega) (by omega)
  ·show jd.G1 k0 hx (k+1) _ (i:Nat) o0 (pr m (ku M (gp m id) (fun j=>fA l m F id a ((gp l id).length+j)) i)) _ _ _=jd.G1 k0 hx k _ ((i+1:Nat):Int) o0 (pr m (ku M (gp m id) (fun j=>fA l m F id a ((gp l id).length+j)) (i+1))) _ _ _
   have hgi:(ow m id m.length).getD i (0,())=(((gp m id).getD i 0:Int),()):=Yj (gp m id) i hi
   have hlt:(gp m id).getD i 0<m.length:=EX (l:=m) (id:=id) (k:=m.length) (j:=i) hi
   have hw:af (((gp l id).length:Int)+(i:Int))=(((gp l id).length+i:Nat):Int):=(aH _ (by omega)).trans (by omega)
   simp only[jd.G1,jd.R1,Int.toNat_natCast]
   rw[decide_eq_true (by omega),cond_true,mlen,if_pos (by omega),olen,hw,rg_len',if_pos (by omega),qQ,oD,aH ((i:Int)+1) (by omega)]
   simp only[hgi]
   rw[if_pos (by omega),Int.toNat_natCast,Int.toNat_natCast,lY _ _ _ _ (by omega),Bd _ _ _ _ (by rw[oD];omega),Yi]
   rfl
  ·simp only[jd.G1,jd.R1]
   rw[decide_eq_false (by omega),cond_false]
   rfl
 have hp1:=pX l id l.length
 have hp2:=pX m id m.length
 rw[olen,s0 _ _ _ (by show(iF l id l.length).length<_;omega)]
 simp only[jd.A0]
 rw[mlen,s1 _ _ _ _ (by show(iF m id m.length).length<_;omega)]
 rfl
end
noncomputable def stA(c:Int)(l m:List I4)(F:Nat→Int):Nat→List (Int×Unit)×List (Int×Unit)
 |0=>(pG l m F 0 c (rg l.length fun _=>0),pM l m F 0 c (rg m.length fun _=>0))
 |k+1=>(pG l m F (g4 l k).1 (fI (stA c l m F k).1 k) (stA c l m F k).1,pM l m F (g4 l k).1 (fI (stA c l m F k).1 k) (stA c l m F k).2)
theorem Yw(n q:Nat):fI (rg n fun _=>(0:Int)) q=0:=by
 rw[←qE];exact XV n q
section
variable {c:Int} {l m:List I4} (h:kQ c l m)
include h
theorem YF(F:Nat→Int)(hF:iq F)(id a:Int)(ha:0≤a∧a≤72057594037927936)(G:List (Int×Unit))(hG:∀ q,0≤fI G q∧fI G q≤1125899906842624)(q:Nat):0≤fI (pG l m F id a G) q∧fI (pG l m F id a G) q≤1125899906842624:=
 O3 G _ _ hG _ (fun i hi=>YK h F hF id a ha i (by rw[A7 h];show i<(gp l id).length+_;omega)) q
theorem Bc(F:Nat→Int)(hF:iq F):∀ k,(stA c l m F k).1.length=l.length∧(stA c l m F k).2.length=m.length∧∀ q,0≤fI (stA c l m F k).1 q∧fI (stA c l m F k).1 q≤1125899906842624
 |0=>by
  have hc:=h.1
  unfold dN at hc
  refine⟨by simp[stA,pG,oD,iY],by simp[stA,pM,oD,iY],fun q=> ?_⟩
  exact YF h F hF 0 c (by omega) _ (fun q=>by rw[Yw];omega) q
 |k+1=>by
  obtain⟨h1,h2,h3⟩:=Bc F hF k
  refine⟨by simp[stA,pG,oD,h1],by simp[stA,pM,oD,h2],fun q=> ?_⟩
  have:=h3 k
  exact YF h F hF _ _ (by omega) _ h3 q
theorem afI:∃ F,iq F∧tJ l m F∧Eb (c,l,m,())=some ((stA c l m F l.length).1,(stA c l m F l.length).2,()):=by
 obtain⟨F,hFs,hFl,hF,hW⟩:=aef h
 refine⟨fI F,hF,hW, ?_⟩
 have hl:=h.2.1
 have hm:=h.2.2.1
 have hc:=h.1
 unfold dN at hc
 simp only[Eb,gI.FF,gI.T]
 rw[if_pos (by omega),if_pos (by omega),Int.toNat_natCast,Int.toNat_natCast,qE,qE]
 have s0:∀ (k0:Nat) (hk0:90<k0) (hx:List (Int×Unit)→List (Int×Unit)→Option (List (Int×Unit)×List (Int×Unit)×Unit)) (k:Nat),l.length<k→
   gI.G0 k0 hx k ((0:Nat):Int) c l m (stA c l m (fI F) 0).1 (stA c l m (fI F) 0).2=hx (stA c l m (fI F) l.length).1 (stA c l m (fI F) l.length).2:=by
  intro k0 hk0 hx k hk
  refine run 0 l.length (fun k i=>gI.G0 k0 hx k (i:Nat) c l m (stA c l m (fI F) i).1 (stA c l m (fI F) i).2) _ (fun k i _ hi=> ?_) (fun k=> ?_) k (by omega) (by omega)
  ·show gI.G0 k0 hx (k+1) (i:Nat) c l m (stA c l m (fI F) i).1 (stA c l m (fI F) i).2=gI.G0 k0 hx k ((i+1:Nat):Int) c l m (stA c l m (fI F) (i+1)).1 (stA c l m (fI F) (i+1)).2
   obtain⟨h1,h2,h3⟩:=Bc h (fI F) hF i
   have hb:=h3 i
   simp only[gI.G0,gI.R0,bJ,Int.toNat_natCast]
   rw[decide_eq_true (by omega),cond_true,decide_eq_true (by omega),cond_true,if_pos (by omega),if_pos (by omega),Wi h _ F hFs hFl]
   simp only[Option.bind_some]
   rw[show((stA c l m (fI F) i).1.getD i (0,())).1=fI (stA c l m (fI F) i).1 i from rfl,Yv h (fI F) hF _ _ (by omega)]
   simp only[Option.bind_some]
   rw[Wh h k0 _ _ (fI F) _ _ _ _ h1 h2 k0 hk0]
   simp only[gI.A1]
   rw[aH _ (by omega)]
   rfl
  ·simp only[gI.G0,gI.R0]
   rw[decide_eq_false (by omega),cond_false]
 have s1:∀ (k0:Nat) (hk0:90<k0) (hx:List (Int×Unit)→List (Int×Unit)→Option (List (Int×Unit)×List (Int×Unit)×Unit)) (k:Nat),l.length<k→
   gI.G0 k0 hx (k+1) (-1) c l m (rg l.length fun _=>0) (rg m.length fun _=>0)=hx (stA c l m (fI F) l.length).1 (stA c l m (fI F) l.length).2:=by
  intro k0 hk0 hx k hk
  simp only[gI.G0,gI.R0]
  rw[decide_eq_true (by omega),cond_true,decide_eq_false (by omega),cond_false,Wi h _ F hFs hFl]
  simp only[Option.bind_some]
  rw[Yv h (fI F) hF _ _ (by omega)]
  simp only[Option.bind_some]
  rw[Wh h k0 _ _ (fI F) _ _ _ _ (iY _ _) (iY _ _) k0 hk0]
  simp only[gI.A1]
  rw[aH _ (by omega)]
  exact s0 k0 hk0 hx k hk
 rw[show 300+l.length+m.length=(299+l.length+m.length)+1 by omega]
 rw[s1 _ (by omega) _ _ (by omega)]
 rfl
theorem ad3(F:Nat→Int)(hF:iq F)(hW:tJ l m F):qp (c,l,m,())=some (pr l (stA c l m F l.length).1,pr m (stA c l m F l.length).2,()):=by
 have hl:=h.2.1
 have hm:=h.2.2.1
 have hc:=h.1
 unfold dN at hc
 have prz:∀ (l:List I4) (i:Nat),pr l (rg (i+1) fun _=>0)=pr l (rg i fun _=>0)++[((g4 l i).1,0,())]:=by
  intro l i
  unfold pr
  rw[show(rg (i+1) fun _=>(0:Int))=(rg i fun _=>0)++[(0,())] by unfold rg;rw[List.range_succ,List.map_append];rfl,List.mapIdx_concat,iY]
 simp only[qp,fH.FF,fH.T]
 have s0:∀ (k0:Nat) (hx:Int→List I4→List I4→List (Int×Int×Unit)→List (Int×Int×Unit)→Option (List (Int×Int×Unit)×List (Int×Int×Unit)×Unit)) (k:Nat),l.length<k→
   fH.G0 k0 hx k l (l.length:Int) 0 c l m [] []=hx c l m (pr l (rg l.length fun _=>0)) []:=by
  intro k0 hx k hk
  refine run 0 l.length (fun k i=>fH.G0 k0 hx k l (l.length:Int) (i:Nat) c l m (pr l (rg i fun _=>0)) []) _ (fun k i _ hi=> ?_) (fun k=> ?_) k (by omega) (by omega)
  ·show fH.G0 k0 hx (k+1) l _ (i:Nat) c l m (pr l (rg i fun _=>0)) []=fH.G0 k0 hx k l _ ((i+1:Nat):Int) c l m (pr l (rg (i+1) fun _=>0)) []
   simp only[fH.G0,fH.R0,bJ]
   rw[decide_eq_true (by omega),cond_true,if_pos (by omega),if_pos (by rw[qQ,iY];simp only[List.length_cons,List.length_nil,maxRow];omega),aH _ (by omega),prz]
   rfl
  ·simp only[fH.G0,fH.R0]
   rw[decide_eq_false (by omega),cond_false]
 have s1:∀ (k0:Nat) (hx:Int→List I4→List I4→List (Int×Int×Unit)→List (Int×Int×Unit)→Option (List (Int×Int×Unit)×List (Int×Int×Unit)×Unit)) (gs:List (Int×Int×Unit)) (k:Nat),m.length<k→
   fH.G1 k0 hx k m (m.length:Int) 0 c l m gs []=hx c l m gs (pr m (rg m.length fun _=>0)):=by
  intro k0 hx gs k hk
  refine run 0 m.length (fun k i=>fH.G1 k0 hx k m (m.length:Int) (i:Nat) c l m gs (pr m (rg i fun _=>0))) _ (fun k i _ hi=> ?_) (fun k=> ?_) k (by omega) (by omega)
  ·show fH.G1 k0 hx (k+1) m _ (i:Nat) c l m gs (pr m (rg i fun _=>0))=fH.G1 k0 hx k m _ ((i+1:Nat):Int) c l m gs (pr m (rg (i+1) fun _=>0))
   simp only[fH.G1,fH.R1,bJ]
   rw[decide_eq_true (by omega),cond_true,if_pos (by omega),if_pos (by rw[qQ,iY];simp only[List.length_cons,List.length_nil,maxRow];omega),aH _ (by omega),prz]
   rfl
  ·simp only[fH.G1,fH.R1]
   rw[decide_eq_false (by omega),cond_false]
 have s2:∀ (k0:Nat) (hx:List (Int×Int×Unit)→List (Int×Int×Unit)→Option (List (Int×Int×Unit)×List (Int×Int×Unit)×Unit)) (k:Nat),l.length<k→
   fH.G2 k0 hx k l (l.length:Int) 0 c l m (pr l (stA c l m F 0).1) (pr m (stA c l m F 0).2)=hx (pr l (stA c l m F l.length).1) (pr m (stA c l m F l.length).2):=by
  intro k0 hx k hk
  refine run 0 l.length (fun k i=>fH.G2 k0 hx k l (l.length:Int) (i:Nat) c l m (pr l (stA c l m F i).1) (pr m (stA c l m F i).2)) _ (fun k i _ hi=> ?_) (fun k=> ?_) k (by omega) (by omega)
  ·show fH.G2 k0 hx (k+1) l _ (i:Nat) c l m (pr l (stA c l m F i).1) (pr m (stA c l m F i).2)=fH.G2 k0 hx k l _ ((i+1:Nat):Int) c l m (pr l (stA c l m F (i+1)).1) (pr m (stA c l m F (i+1)).2)
   obtain⟨h1,h2,h3⟩:=Bc h F hF i
   have hb:=h3 i
   simp only[fH.G2,fH.R2,bJ,Int.toNat_natCast]
   rw[decide_eq_true (by omega),cond_true,if_pos (by omega),qQ,if_pos (by omega),Bd _ _ _ _ (by omega)]
   simp only
   rw[show(l.getD i (0,0,0,0,())).1=(g4 l i).1 from rfl,WN h F hF hW _ _ (by omega) _ _ h1 h2]
   simp only[Option.bind_some]
   rw[aH _ (by omega)]
   rfl
  ·simp only[fH.G2,fH.R2]
   rw[decide_eq_false (by omega),cond_false]
 rw[s0 _ _ _ (by omega)]
 simp only[fH.A0]
 rw[s1 _ _ _ _ (by omega)]
 simp only[fH.A1]
 rw[WN h F hF hW 0 c (by omega) _ _ (iY _ _) (iY _ _)]
 simp only[Option.bind_some]
 have:=s2 (300+l.length+m.length) (fH.A2 c l m) (300+l.length+m.length) (by omega)
 exact this
end
end Go.Rv
