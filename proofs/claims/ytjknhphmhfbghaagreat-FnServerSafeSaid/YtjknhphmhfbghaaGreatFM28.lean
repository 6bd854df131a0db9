/- Plain facts: shares2. -/
import Derived.Test.YtjknhphmhfbghaaGreatFM27
set_option linter.unusedVariables false
set_option linter.unusedSimpArgs false
set_option linter.unusedSectionVars false
namespace Go.Rv
theorem aeM(ps qs:List Nat)(i:Nat)(hi:i<ps.length):((ps.map fun(i:Nat)=>(((i:Int),(-1:Int),()):Int×Int×Unit))++qs.map fun(i:Nat)=>(((-1:Int),(i:Int),()):Int×Int×Unit)).getD i (0,0,())=((ps.getD i 0:Int), -1,()):=by
 rw[List.getD_eq_getElem?_getD,List.getElem?_append_left (by simpa using hi),List.getElem?_map,List.getElem?_eq_getElem hi,List.getD_eq_getElem?_getD,List.getElem?_eq_getElem hi]
 rfl
theorem ad3(ps qs:List Nat)(j:Nat)(hj:j<qs.length):((ps.map fun(i:Nat)=>(((i:Int),(-1:Int),()):Int×Int×Unit))++qs.map fun(i:Nat)=>(((-1:Int),(i:Int),()):Int×Int×Unit)).getD (ps.length+j) (0,0,())=(-1,(qs.getD j 0:Int),()):=by
 rw[List.getD_eq_getElem?_getD,List.getElem?_append_right (by simp),List.length_map,Nat.add_sub_cancel_left,List.getElem?_map,List.getElem?_eq_getElem hj,List.getD_eq_getElem?_getD,List.getElem?_eq_getElem hj]
 rfl
theorem Xl(ps:List Nat)(i:Nat)(hi:i<ps.length):(ps.map fun(i:Nat)=>(((i:Int),()):Int×Unit)).getD i (0,())=((ps.getD i 0:Int),()):=by
 rw[List.getD_eq_getElem?_getD,List.getElem?_map,List.getElem?_eq_getElem hi,List.getD_eq_getElem?_getD,List.getElem?_eq_getElem hi]
 rfl
def pr(l:List I4)(A:List (Int×Unit)):List (Int×Int×Unit):=A.mapIdx fun i x=>((g4 l i).1,x.1,())
theorem qR(l:List I4)(A:List (Int×Unit)):(pr l A).length=A.length:=by simp[pr]
theorem Be(l:List I4)(A:List (Int×Unit))(z:Int×Int×Unit)(i:Nat)(hi:i<A.length):(pr l A).getD i z=((g4 l i).1,fI A i,()):=by
 rw[List.getD_eq_getElem?_getD,pr,List.getElem?_mapIdx,List.getElem?_eq_getElem hi]
 simp[fI,List.getD_eq_getElem?_getD,hi]
theorem Xk(l:List I4)(A:List (Int×Unit))(i:Nat)(v:Int):(pr l A).set i ((g4 l i).1,v,())=pr l (A.set i (v,())):=by
 apply List.ext_getElem?
 intro j
 rw[pr,pr,List.getElem?_mapIdx,List.getElem?_set,List.getElem?_set,List.getElem?_mapIdx,List.length_mapIdx]
 by_cases e:i=j
 ·subst e
  rw[if_pos rfl,if_pos rfl]
  split <;>simp_all
 ·rw[if_neg e,if_neg e]
section
variable {c:Int} {l m:List I4} (h:lD c l m)
include h
theorem Vd(k0:Nat)(hx:Int→Int→List I4→List I4→List (Int×Unit)→List (Int×Unit)→Option (List (Int×Unit)×List (Int×Unit)×Unit))(g:Int)(F:Nat→Int)(id a:Int)(G M:List (Int×Unit))(hG:G.length=l.length)(hM:M.length=m.length)(k:Nat)(hk:90<k):
  gX.G1 k0 hx k g 0 c l m G M (gk l id l.length++mk' m id m.length) (rg (fM l m F id).length (fA l m F id a))=hx g c l m (pG l m F id a G) (pM l m F id a M):=by
 have hle:=yt h F id
 have hlen:(fM l m F id).length=(gp l id).length+(gp m id).length:=A8 h F id
 have hkl:(gk l id l.length++mk' m id m.length).length=(gp l id).length+(gp m id).length:=by simp[gk,mk',gp]
 have rg_len':=ji (fM l m F id).length (fA l m F id a)
 -- the groups
 have s0:∀ d i k,i+d=(gp l id).length→d≤k→∃ k',k'+d=k∧gX.G1 k0 hx k g (i:Nat) c l m (kP G (gp l id) (fA l m F id a) i) M (gk l id l.length++mk' m id m.length) (rg (fM l m F id).length (fA l m F id a))=
   gX.G1 k0 hx k' g ((gp l id).length:Nat) c l m (pG l m F id a G) M (gk l id l.length++mk' m id m.length) (rg (fM l m F id).length (fA l m F id a)):=by
  intro d
  induction d with
  |zero=>
   intro i k hi hk
   have:i=(gp l id).length:=by omega
   subst this
   exact⟨k,rfl,rfl⟩
  |succ d ih=>
   intro i k hi hk
   obtain⟨k,rfl⟩:∃ j,k=j+1:=⟨k - 1,by omega⟩
   obtain⟨k',e1,e2⟩:=ih (i+1) k (by omega) (by omega)
   refine⟨k',by omega,Eq.trans ?_ e2⟩
   have hgi:(gk l id l.length++mk' m id m.length).getD i (0,0,())=(((gp l id).getD i 0:Int), -1,()):=aeM (gp l id) (gp m id) i (by omega)
   have hlt:(gp l id).getD i 0<l.length:=EH (l:=l) (id:=id) (k:=l.length) (j:=i) (by show i<(gp l id).length;omega)
   simp only[gX.G1,gX.R1,Int.toNat_natCast]
   rw[hkl,decide_eq_true (by omega),cond_true,if_pos (by omega),aI ((i:Int)+1) (by omega)]
   simp only[hgi]
   rw[decide_eq_true (by omega),cond_true,if_pos (by omega),rg_len',if_pos (by omega),oD,if_pos (by omega),Int.toNat_natCast,mJ _ _ _ _ (by omega)]
   rfl
 have s1:∀ d j k,j+d=(gp m id).length→d<k→gX.G1 k0 hx k g (((gp l id).length+j:Nat):Int) c l m (pG l m F id a G) (kP M (gp m id) (fun j=>fA l m F id a ((gp l id).length+j)) j) (gk l id l.length++mk' m id m.length) (rg (fM l m F id).length (fA l m F id a))=
   hx g c l m (pG l m F id a G) (pM l m F id a M):=by
  intro d
  induction d with
  |zero=>
   intro j k hj hk
   obtain⟨k,rfl⟩:∃ j,k=j+1:=⟨k - 1,by omega⟩
   have:j=(gp m id).length:=by omega
   subst this
   simp only[gX.G1,gX.R1]
   rw[hkl,decide_eq_false (by omega),cond_false]
   rfl
  |succ d ih=>
   intro j k hj hk
   obtain⟨k,rfl⟩:∃ j,k=j+1:=⟨k - 1,by omega⟩
   have IH:=ih (j+1) k (by omega) (by omega)
   refine Eq.trans ?_ IH
   have hgi:(gk l id l.length++mk' m id m.length).getD ((gp l id).length+j) (0,0,())=(-1,((gp m id).getD j 0:Int),()):=ad3 (gp l id) (gp m id) j (by omega)
   have hlt:(gp m id).getD j 0<m.length:=EH (l:=m) (id:=id) (k:=m.length) (j:=j) (by show j<(gp m id).length;omega)
   simp only[gX.G1,gX.R1,Int.toNat_natCast]
   rw[hkl,decide_eq_true (by omega),cond_true,if_pos (by omega),aI _ (by omega)]
   simp only[hgi]
   rw[decide_eq_false (by omega),cond_false,if_pos (by omega),rg_len',if_pos (by omega),oD,if_pos (by omega),Int.toNat_natCast,mJ _ _ _ _ (by omega)]
   rfl
 obtain⟨k',e1,e2⟩:=s0 (gp l id).length 0 k (by omega) (by omega)
 refine Eq.trans e2 ?_
 exact s1 (gp m id).length 0 k' (by omega) (by omega)
theorem VB(F:Nat→Int)(hF:iJ F)(hW:tK l m F)(id a:Int)(ha:0≤a∧a≤72057594037927936)(G M:List (Int×Unit))(hG:G.length=l.length)(hM:M.length=m.length):
  zO (c,l,m,id,a,pr l G,pr m M,())=some (pr l (pG l m F id a G),pr m (pM l m F id a M),()):=by
 have hle:=yt h F id
 have hlen:(fM l m F id).length=(gp l id).length+(gp m id).length:=A8 h F id
 have rg_len':=ji (fM l m F id).length (fA l m F id a)
 obtain⟨y,hy⟩:=aeN h F hF id a ha
 simp only[zO,jv.FF,jv.T,ade h id F hF hW,hy,Option.bind_some]
 have hl:=h.2.1
 have hm:=h.2.2.1
 have olen:(ow l id l.length).length=(gp l id).length:=by simp[ow,gp]
 have mlen:(ow m id m.length).length=(gp m id).length:=by simp[ow,gp]
 have s0:∀ (k0:Nat) (hx:List (Int×Int×Unit)→List (Int×Int×Unit)→List (Int×Unit)→List (Int×Unit)→List (Int×Unit)→Option (List (Int×Int×Unit)×List (Int×Int×Unit)×Unit)) (k:Nat),(gp l id).length<k→
   jv.G0 k0 hx k ((gp l id).length:Int) 0 (pr l G) (pr m M) (ow l id l.length) (ow m id m.length) (rg (fM l m F id).length (fA l m F id a))=hx (pr l (pG l m F id a G)) (pr m M) (ow l id l.length) (ow m id m.length) (rg (fM l m F id).length (fA l m F id a)):=by
  intro k0 hx k hk
  refine run 0 (gp l id).length (fun k i=>jv.G0 k0 hx k ((gp l id).length:Int) (i:Nat) (pr l (kP G (gp l id) (fA l m F id a) i)) (pr m M) (ow l id l.length) (ow m id m.length) (rg (fM l m F id).length (fA l m F id a))) _ (fun k i _ hi=> ?_) (fun k=> ?_) k (by omega) (by omega)
  ·show jv.G0 k0 hx (k+1) _ (i:Nat) (pr l (kP G (gp l id) (fA l m F id a) i)) _ _ _ _=jv.G0 k0 hx k _ ((i+1:Nat):Int) (pr l (kP G (gp l id) (fA l m F id a) (i+1))) _ _ _ _
   have hgi:(ow l id l.length).getD i (0,())=(((gp l id).getD i 0:Int),()):=Xl (gp l id) i hi
   have hlt:(gp l id).getD i 0<l.length:=EH (l:=l) (id:=id) (k:=l.length) (j:=i) hi
   simp only[jv.G0,jv.R0,Int.toNat_natCast]
   rw[decide_eq_true (by omega),cond_true,olen,if_pos (by omega),rg_len',if_pos (by omega),qR,oD,aI ((i:Int)+1) (by omega)]
   simp only[hgi]
   rw[if_pos (by omega),Int.toNat_natCast,mJ _ _ _ _ (by omega),Be _ _ _ _ (by rw[oD];omega),Xk]
   rfl
  ·simp only[jv.G0,jv.R0]
   rw[decide_eq_false (by omega),cond_false]
   rfl
 have s1:∀ (k0:Nat) (hx:List (Int×Int×Unit)→List (Int×Int×Unit)→Option (List (Int×Int×Unit)×List (Int×Int×Unit)×Unit)) (o0:List (Int×Int×Unit)) (k:Nat),(gp m id).length<k→
   jv.G1 k0 hx k ((gp m id).length:Int) 0 o0 (pr m M) (ow l id l.length) (rg (fM l m F id).length (fA l m F id a)) (ow m id m.length)=hx o0 (pr m (pM l m F id a M)):=by
  intro k0 hx o0 k hk
  refine run 0 (gp m id).length (fun k i=>jv.G1 k0 hx k ((gp m id).length:Int) (i:Nat) o0 (pr m (kP M (gp m id) (fun j=>fA l m F id a ((gp l id).length+j)) i)) (ow l id l.length) (rg (fM l m F id).length (fA l m F id a)) (ow m id m.length)) _ (fun k i _ hi=> ?_) (fun k=> ?_) k (by omega) (by omega)
  ·show jv.G1 k0 hx (k+1) _ (i:Nat) o0 (pr m (kP M (gp m id) (fun j=>fA l m F id a ((gp l id).length+j)) i)) _ _ _=jv.G1 k0 hx k _ ((i+1:Nat):Int) o0 (pr m (kP M (gp m id) (fun j=>fA l m F id a ((gp l id).length+j)) (i+1))) _ _ _
   have hgi:(ow m id m.length).getD i (0,())=(((gp m id).getD i 0:Int),()):=Xl (gp m id) i hi
   have hlt:(gp m id).getD i 0<m.length:=EH (l:=m) (id:=id) (k:=m.length) (j:=i) hi
   have hw:af (((gp l id).length:Int)+(i:Int))=(((gp l id).length+i:Nat):Int):=(aI _ (by omega)).trans (by omega)
   simp only[jv.G1,jv.R1,Int.toNat_natCast]
   rw[decide_eq_true (by omega),cond_true,mlen,if_pos (by omega),olen,hw,rg_len',if_pos (by omega),qR,oD,aI ((i:Int)+1) (by omega)]
   simp only[hgi]
   rw[if_pos (by omega),Int.toNat_natCast,Int.toNat_natCast,mJ _ _ _ _ (by omega),Be _ _ _ _ (by rw[oD];omega),Xk]
   rfl
  ·simp only[jv.G1,jv.R1]
   rw[decide_eq_false (by omega),cond_false]
   rfl
 have hp1:=qf l id l.length
 have hp2:=qf m id m.length
 rw[olen,s0 _ _ _ (by show(iP l id l.length).length<_;omega)]
 simp only[jv.A0]
 rw[mlen,s1 _ _ _ _ (by show(iP m id m.length).length<_;omega)]
 rfl
end
noncomputable def stA(c:Int)(l m:List I4)(F:Nat→Int):Nat→List (Int×Unit)×List (Int×Unit)
 |0=>(pG l m F 0 c (rg l.length fun _=>0),pM l m F 0 c (rg m.length fun _=>0))
 |k+1=>(pG l m F (g4 l k).1 (fI (stA c l m F k).1 k) (stA c l m F k).1,pM l m F (g4 l k).1 (fI (stA c l m F k).1 k) (stA c l m F k).2)
theorem Xx(n q:Nat):fI (rg n fun _=>(0:Int)) q=0:=by
 rw[←qH];exact WQ n q
section
variable {c:Int} {l m:List I4} (h:lD c l m)
include h
theorem XG(F:Nat→Int)(hF:iJ F)(id a:Int)(ha:0≤a∧a≤72057594037927936)(G:List (Int×Unit))(hG:∀ q,0≤fI G q∧fI G q≤1125899906842624)(q:Nat):0≤fI (pG l m F id a G) q∧fI (pG l m F id a G) q≤1125899906842624:=
 NK G _ _ hG _ (fun i hi=>XL h F hF id a ha i (by rw[A8 h];show i<(gp l id).length+_;omega)) q
theorem Bd(F:Nat→Int)(hF:iJ F):∀ k,(stA c l m F k).1.length=l.length∧(stA c l m F k).2.length=m.length∧∀ q,0≤fI (stA c l m F k).1 q∧fI (stA c l m F k).1 q≤1125899906842624
 |0=>by
  have hc:=h.1
  unfold dP at hc
  refine⟨by simp[stA,pG,oD,ji],by simp[stA,pM,oD,ji],fun q=> ?_⟩
  exact XG h F hF 0 c (by omega) _ (fun q=>by rw[Xx];omega) q
 |k+1=>by
  obtain⟨h1,h2,h3⟩:=Bd F hF k
  refine⟨by simp[stA,pG,oD,h1],by simp[stA,pM,oD,h2],fun q=> ?_⟩
  have:=h3 k
  exact XG h F hF _ _ (by omega) _ h3 q
theorem adF:∃ F,iJ F∧tK l m F∧DW (c,l,m,())=some ((stA c l m F l.length).1,(stA c l m F l.length).2,()):=by
 obtain⟨F,hFs,hFl,hF,hW⟩:=acg h
 refine⟨fI F,hF,hW, ?_⟩
 have hl:=h.2.1
 have hm:=h.2.2.1
 have hc:=h.1
 unfold dP at hc
 simp only[DW,gX.FF,gX.T]
 rw[if_pos (by omega),if_pos (by omega),Int.toNat_natCast,Int.toNat_natCast,qH,qH]
 have s0:∀ (k0:Nat) (hk0:90<k0) (hx:List (Int×Unit)→List (Int×Unit)→Option (List (Int×Unit)×List (Int×Unit)×Unit)) (k:Nat),l.length<k→
   gX.G0 k0 hx k ((0:Nat):Int) c l m (stA c l m (fI F) 0).1 (stA c l m (fI F) 0).2=hx (stA c l m (fI F) l.length).1 (stA c l m (fI F) l.length).2:=by
  intro k0 hk0 hx k hk
  refine run 0 l.length (fun k i=>gX.G0 k0 hx k (i:Nat) c l m (stA c l m (fI F) i).1 (stA c l m (fI F) i).2) _ (fun k i _ hi=> ?_) (fun k=> ?_) k (by omega) (by omega)
  ·show gX.G0 k0 hx (k+1) (i:Nat) c l m (stA c l m (fI F) i).1 (stA c l m (fI F) i).2=gX.G0 k0 hx k ((i+1:Nat):Int) c l m (stA c l m (fI F) (i+1)).1 (stA c l m (fI F) (i+1)).2
   obtain⟨h1,h2,h3⟩:=Bd h (fI F) hF i
   have hb:=h3 i
   simp only[gX.G0,gX.R0,bZ,Int.toNat_natCast]
   rw[decide_eq_true (by omega),cond_true,decide_eq_true (by omega),cond_true,if_pos (by omega),if_pos (by omega),Ve h _ F hFs hFl]
   simp only[Option.bind_some]
   rw[show((stA c l m (fI F) i).1.getD i (0,())).1=fI (stA c l m (fI F) i).1 i from rfl,Xw h (fI F) hF _ _ (by omega)]
   simp only[Option.bind_some]
   rw[Vd h k0 _ _ (fI F) _ _ _ _ h1 h2 k0 hk0]
   simp only[gX.A1]
   rw[aI _ (by omega)]
   rfl
  ·simp only[gX.G0,gX.R0]
   rw[decide_eq_false (by omega),cond_false]
 have s1:∀ (k0:Nat) (hk0:90<k0) (hx:List (Int×Unit)→List (Int×Unit)→Option (List (Int×Unit)×List (Int×Unit)×Unit)) (k:Nat),l.length<k→
   gX.G0 k0 hx (k+1) (-1) c l m (rg l.length fun _=>0) (rg m.length fun _=>0)=hx (stA c l m (fI F) l.length).1 (stA c l m (fI F) l.length).2:=by
  intro k0 hk0 hx k hk
  simp only[gX.G0,gX.R0]
  rw[decide_eq_true (by omega),cond_true,decide_eq_false (by omega),cond_false,Ve h _ F hFs hFl]
  simp only[Option.bind_some]
  rw[Xw h (fI F) hF _ _ (by omega)]
  simp only[Option.bind_some]
  rw[Vd h k0 _ _ (fI F) _ _ _ _ (ji _ _) (ji _ _) k0 hk0]
  simp only[gX.A1]
  rw[aI _ (by omega)]
  exact s0 k0 hk0 hx k hk
 rw[show 300+l.length+m.length=(299+l.length+m.length)+1 by omega]
 rw[s1 _ (by omega) _ _ (by omega)]
 rfl
theorem ab3(F:Nat→Int)(hF:iJ F)(hW:tK l m F):qx (c,l,m,())=some (pr l (stA c l m F l.length).1,pr m (stA c l m F l.length).2,()):=by
 have hl:=h.2.1
 have hm:=h.2.2.1
 have hc:=h.1
 unfold dP at hc
 have prz:∀ (l:List I4) (i:Nat),pr l (rg (i+1) fun _=>0)=pr l (rg i fun _=>0)++[((g4 l i).1,0,())]:=by
  intro l i
  unfold pr
  rw[show(rg (i+1) fun _=>(0:Int))=(rg i fun _=>0)++[(0,())] by unfold rg;rw[List.range_succ,List.map_append];rfl,List.mapIdx_concat,ji]
 simp only[qx,fP.FF,fP.T]
 have s0:∀ (k0:Nat) (hx:Int→List I4→List I4→List (Int×Int×Unit)→List (Int×Int×Unit)→Option (List (Int×Int×Unit)×List (Int×Int×Unit)×Unit)) (k:Nat),l.length<k→
   fP.G0 k0 hx k l (l.length:Int) 0 c l m [] []=hx c l m (pr l (rg l.length fun _=>0)) []:=by
  intro k0 hx k hk
  refine run 0 l.length (fun k i=>fP.G0 k0 hx k l (l.length:Int) (i:Nat) c l m (pr l (rg i fun _=>0)) []) _ (fun k i _ hi=> ?_) (fun k=> ?_) k (by omega) (by omega)
  ·show fP.G0 k0 hx (k+1) l _ (i:Nat) c l m (pr l (rg i fun _=>0)) []=fP.G0 k0 hx k l _ ((i+1:Nat):Int) c l m (pr l (rg (i+1) fun _=>0)) []
   simp only[fP.G0,fP.R0,bZ]
   rw[decide_eq_true (by omega),cond_true,if_pos (by omega),if_pos (by rw[qR,ji];simp only[List.length_cons,List.length_nil,maxRow];omega),aI _ (by omega),prz]
   rfl
  ·simp only[fP.G0,fP.R0]
   rw[decide_eq_false (by omega),cond_false]
 have s1:∀ (k0:Nat) (hx:Int→List I4→List I4→List (Int×Int×Unit)→List (Int×Int×Unit)→Option (List (Int×Int×Unit)×List (Int×Int×Unit)×Unit)) (gs:List (Int×Int×Unit)) (k:Nat),m.length<k→
   fP.G1 k0 hx k m (m.length:Int) 0 c l m gs []=hx c l m gs (pr m (rg m.length fun _=>0)):=by
  intro k0 hx gs k hk
  refine run 0 m.length (fun k i=>fP.G1 k0 hx k m (m.length:Int) (i:Nat) c l m gs (pr m (rg i fun _=>0))) _ (fun k i _ hi=> ?_) (fun k=> ?_) k (by omega) (by omega)
  ·show fP.G1 k0 hx (k+1) m _ (i:Nat) c l m gs (pr m (rg i fun _=>0))=fP.G1 k0 hx k m _ ((i+1:Nat):Int) c l m gs (pr m (rg (i+1) fun _=>0))
   simp only[fP.G1,fP.R1,bZ]
   rw[decide_eq_true (by omega),cond_true,if_pos (by omega),if_pos (by rw[qR,ji];simp only[List.length_cons,List.length_nil,maxRow];omega),aI _ (by omega),prz]
   rfl
  ·simp only[fP.G1,fP.R1]
   rw[decide_eq_false (by omega),cond_false]
 have s2:∀ (k0:Nat) (hx:List (Int×Int×Unit)→List (Int×Int×Unit)→Option (List (Int×Int×Unit)×List (Int×Int×Unit)×Unit)) (k:Nat),l.length<k→
   fP.G2 k0 hx k l (l.length:Int) 0 c l m (pr l (stA c l m F 0).1) (pr m (stA c l m F 0).2)=hx (pr l (stA c l m F l.length).1) (pr m (stA c l m F l.length).2):=by
  intro k0 hx k hk
  refine run 0 l.length (fun k i=>fP.G2 k0 hx k l (l.length:Int) (i:Nat) c l m (pr l (stA c l m F i).1) (pr m (stA c l m F i).2)) _ (fun k i _ hi=> ?_) (fun k=> ?_) k (by omega) (by omega)
  ·show fP.G2 k0 hx (k+1) l _ (i:Nat) c l m (pr l (stA c l m F i).1) (pr m (stA c l m F i).2)=fP.G2 k0 hx k l _ ((i+1:Nat):Int) c l m (pr l (stA c l m F (i+1)).1) (pr m (stA c l m F (i+1)).2)
   obtain⟨h1,h2,h3⟩:=Bd h F hF i
   have hb:=h3 i
   simp only[fP.G2,fP.R2,bZ,Int.toNat_natCast]
   rw[decide_eq_true (by omega),cond_true,if_pos (by omega),qR,if_pos (by omega),Be _ _ _ _ (by omega)]
   simp only
   rw[show(l.getD i (0,0,0,0,())).1=(g4 l i).1 from rfl,VB h F hF hW _ _ (by omega) _ _ h1 h2]
   simp only[Option.bind_some]
   rw[aI _ (by omega)]
   rfl
  ·simp only[fP.G2,fP.R2]
   rw[decide_eq_false (by omega),cond_false]
 rw[s0 _ _ _ (by omega)]
 simp only[fP.A0]
 rw[s1 _ _ _ _ (by omega)]
 simp only[fP.A1]
 rw[VB h F hF hW 0 c (by omega) _ _ (ji _ _) (ji _ _)]
 simp only[Option.bind_some]
 have:=s2 (300+l.length+m.length) (fP.A2 c l m) (300+l.length+m.length) (by omega)
 exact this
end
end Go.Rv
