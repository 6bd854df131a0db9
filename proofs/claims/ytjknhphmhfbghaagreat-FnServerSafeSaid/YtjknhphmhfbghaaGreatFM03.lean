/- A function of the library by hand: RvHapp. -/
import Derived.Test.YtjknhphmhfbghaaGreatFM02
set_option linter.unusedVariables false
set_option linter.unusedSimpArgs false
set_option linter.unusedSectionVars false
namespace Go.Rv
open Go.Proofs Go.RowKit Go.Shelf
attribute [local go_sem] Oper.semAt_some
theorem ac9:(Tryz.prog.info? 166).map (fun i=>(i.zero,i.size,i.bytes))=some (some (.agg #[.int .i64 0,.int .i64 0,.int .i64 0]),3,24):=by kernel_rfl
def Fv(W:World)(B:Nat)(x:aP):Prop:=W.heap[B]? =some (.cells #[.int .i64 x.1,.int .i64 x.2.1,.int .i64 x.2.2.1] 166 (0,0))
theorem Fv.kept{W W':World}{B:Nat}{x:aP}(h:Fv W B x){row:Option Nat}(hg:W.grownBy W' row)(hr:∀ r,row=some r→∃ o:Obj,W.heap[r]? =some o∧o.isCells=false):Fv W' B x:=by
 refine(hg.block B (Array.getElem?_eq_some_iff.1 h).1 fun e=> ?_).trans h
 obtain⟨o,ho,hc⟩:=hr B e.symm
 rw[show W.heap[B]? =_ from h]at ho
 cases ho
 cases hc
theorem acJ(W:World)(cs:List Value)(t:TypeId):∀ (j:Nat) (u:Value),cs[j]? =some u→(W.alloc (.cells cs.toArray t)).cell? ((⟨W.heap.size,0,none⟩:Addr).add j)=some u:=by
 intro j u h
 have e:=World.alloc_heap_new W (.cells cs.toArray t)
 have hb:((⟨W.heap.size,0,none⟩:Addr).add j).block=W.heap.size:=by unfold Addr.add;split <;>simp_all
 have ho:((⟨W.heap.size,0,none⟩:Addr).add j).off=j:=by unfold Addr.add;split <;>simp_all
 have hs:((⟨W.heap.size,0,none⟩:Addr).add j).spot=none:=by unfold Addr.add;split <;>simp_all
 unfold World.cell?
 rw[hb,e]
 simp[hs,ho,h]
theorem VJ(x:aP):∀ u∈dW x,u.oneCell'=true:=by
 intro u hu
 simp only[dW,List.mem_cons,List.not_mem_nil,or_false]at hu
 rcases hu with rfl |rfl |rfl <;>rfl
theorem adm(xs:List aP):(xs.flatMap dW).length=xs.length*3:=by
 induction xs with
 |nil=>rfl
 |cons x r ih=>simp only[List.flatMap_cons,List.length_append,ih,List.length_cons,dW,List.length_nil];omega
set_option maxRecDepth 100000 in
set_option maxHeartbeats 2000000 in
theorem appendSeq_in(Bs:Nat)(sv:Value)(zs:List aP)(hz:zs.length≤1048576)(w:World)(hBs:Bs<w.heap.size)(hc:w.cell? ⟨Bs,0,none⟩=some sv)(hI:sQ w.heap.size w sv zs):
  CallsIn Fence.wide 9 Tryz.prog 179 #[.slice none 0 0,.func (.func 171) #[] #[.pointer (some ⟨Bs,0,none⟩)]] w fun e W'=>
   ∃ v,e= .returned v∧W'.ownsRow w.heap.size 166 3 v zs.length (zs.flatMap dW)∧(v= .slice none 0 0↔zs=[])∧Go.RowKit.Below w.heap.size w W':=by
 have h1:1≤9:=by omega
 obtain⟨i0,hi,hz0,hz1,hz2⟩:=info_parts ac9
 refine callsIn_of_wp_marks Tryz.func179 rfl trivial ?_ rfl
 simp only[Tryz.ntmps179,List.size_toArray,List.length_cons,List.length_nil,Nat.reduceAdd,Nat.reduceSub,Array.replicate_succ,Array.replicate_zero,List.push_toArray,List.append_toArray,List.nil_append,List.cons_append]
 gi_wp2
 have bO:=Boxed.new w 137 (.slice none 0 0)
 have hB0:Go.RowKit.Below w.heap.size w (w.alloc (.cells #[.slice none 0 0] 137)):=(Go.RowKit.Below.refl _ w).alloc (Nat.le_refl _) _
 have hsz:(w.alloc (.cells #[.slice none 0 0] 137)).heap.size=w.heap.size+1:=by simp
 obtain⟨W0,hW0⟩:∃ W0,w.alloc (.cells #[.slice none 0 0] 137)=W0:=⟨_,rfl⟩
 rw[hW0]at bO hB0 hsz ⊢
 clear hW0
 refine wpIn_rangeFunc_ownH (F:=Fence.wide) (n:=9) rfl h1 (gf:=171) (lb:= #[.pointer (some ⟨Bs,0,none⟩)]) rfl trivial (enters_of Tryz.func171 (by kernel_rfl) rfl)
  (values_stops Bs w.heap.size sv zs (by omega) W0 (by omega) (by omega) ((hB0.cell (p:=⟨Bs,0,none⟩) hBs).trans hc) (hI.below hB0)) belowK_t (belowK_b (by omega)) (Go.RowKit.Below.refl _ _) (fun _=>rfl)
  (fun pre W=>(∃ v,Boxed W w.heap.size 137 v∧W.ownsRow w.heap.size 166 3 v pre.length (pre.flatMap dW)∧(v= .slice none 0 0↔pre=[]))∧Go.RowKit.Below w.heap.size w W)
  (fun _ _ _=>False)
  (OwnFrom.and (Own.from (holdsRow_own w.heap.size w.heap.size 137 166 3 (fun pre:List aP=>pre.length) (fun pre=>pre.flatMap dW) (fun pre v=>v= .slice none 0 0↔pre=[])) _) (ownFrom_below (Nat.le_refl _) (by omega)))
  (fun _ _ _ _ _ hs _ _=>hs)
  ⟨⟨_,bO,World.ownsRow_nil _ _ _ _,by simp⟩,hB0⟩
  (fun x a' W=>∃ Bx,w.heap.size<Bx∧Fv W Bx x∧a'={ tmps:= #[.slice none 0 0,.func (.func 171) #[] #[.pointer (some ⟨Bs,0,none⟩)],.pointer (some ⟨w.heap.size,0,none⟩),undef,.slice none 0 0,.pointer (some ⟨Bx,0,none⟩),.func (.func 171) #[] #[.pointer (some ⟨Bs,0,none⟩)],.agg #[.int .i64 x.1,.int .i64 x.2.1,.int .i64 x.2.2.1],undef,undef,undef,undef,undef],defers:=[] })
  (fun x a' _ X Y row hs hg hr=>by obtain⟨Bx,h1,h2,h3⟩:=hs;exact⟨Bx,h1,h2.kept hg (fun r e=>(hr r e).2),h3⟩)
  ?assign ?body ?done ?stop
 case assign=>
  rintro l pre x W K ⟨⟨v,hv,hrow,hnil⟩,hB1⟩ hK
  gi_wp2
  exact hK _ _ ((KeepsOthers.alloc _ _).from _) ((Go.RowKit.Below.refl _ W).alloc hB1.size _) ⟨⟨v,hv.alloc _,hrow.alloc _,hnil⟩,hB1.alloc hB1.size _⟩ ⟨W.heap.size,hv.lt,World.alloc_heap_new W _,rfl⟩
 case body=>
  rintro l pre x a' W hl ⟨r,hr⟩ ⟨⟨v,hv,hrow,hnil⟩,hB1⟩ ⟨Bx,hBx,bX,rfl⟩ hlt
  have cB:=hv.cell
  have x0:W.cell? ⟨Bx,0,none⟩=some (.int .i64 x.1):=by simp[World.cell?, show W.heap[Bx]? =_ from bX]
  have x1:W.cell? ⟨Bx,1,none⟩=some (.int .i64 x.2.1):=by simp[World.cell?, show W.heap[Bx]? =_ from bX]
  have x2:W.cell? ⟨Bx,2,none⟩=some (.int .i64 x.2.2.1):=by simp[World.cell?, show W.heap[Bx]? =_ from bX]
  have bd1:pre.length+1≤maxLen:=by unfold maxLen;omega
  have bd2:(pre.length+1)*24≤140737488355328:=by omega
  have bd3:w.heap.size≤(W.alloc (.cells (dW x).toArray 166)).heap.size:=by have:=hB1.size;simp;omega
  gi_wp2_with (gi_at_builtin;refine wpListIn_append_own _ rfl _ _ 137 rfl w.heap.size 166 i0 _ 3 24 Tryz.underlying137 hi hz0 hz1 hz2 rfl (by decide) _ _ _ rfl (hrow.alloc _) ⟨W.heap.size,0,none⟩ 1 1 (dW x) rfl rfl (acJ W (dW x) 166) (VJ x) bd1 bd2 bd3 ?_;intro v' w1 hown' hgrow _;obtain⟨g',cap',rfl⟩:=ownsRow_succ hown';obtain⟨hv1,hv2,hr2,hk2,hb2⟩:=hv.appended (by decide) hrow hB1.size (Nat.le_refl _) hown' hgrow;have hc1:=hv1.cell;have hf1:=hv1.frozen)
  exact⟨hk2.from _,hb2,⟨_,hv2,by simpa [dW]using hr2,by simp⟩,hB1.trans hb2⟩
 case done=>
  rintro D ys W hD rfl ⟨⟨v,hv,hrow,hnil⟩,hB⟩ hK
  have hc:=hv.cell
  gi_wp2
  refine⟨by simp,.inl ⟨_,_,rfl,run_takeDeferred hK, ?_⟩⟩
  exact⟨_,results_tmp rfl _ _ _,v,rfl,ownsRow_putObj hrow _ hK rfl,hnil,hB.trans (belowK_b (w:=w) (Nat.le_refl _) W D _ _ (by omega) hK rfl rfl)⟩
 case stop=>
  rintro D c pre W _ _ h _
  exact h.elim
end Go.Rv
