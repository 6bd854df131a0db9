/- A runner of programs on pure values, proved sound against the model: part RvD. It is about every program; the law's own text is the last. -/
import Derived.Test.YtjknhphmhfbghaaGreatFRvC
import Derived.ChangeArms
import Derived.DataReads
import Derived.Deep.Slices
import Derived.WalkKit
import Derived.ProofKit
import Derived.OpenShut
import Derived.ShutString
import Derived.ChangeOld
import Derived.SizedLaws
import Derived.WideShapes
import Derived.Carry
import Derived.ChangeCalls
import Derived.JoinedTies
import Derived.Handed
import Derived.IntWalk
import Derived.KernelRfl
set_option linter.unusedVariables false
set_option linter.unusedSimpArgs false
namespace Go.Rv
open Go.RowKit Go.ChangeShapes Go.WideShapes
def CT.vU:CT→Nat
 | .int .i64=>8 | .int .u64=>8 | .int _=>1 | .bool=>1 | .str=>16 | .sl _=>24 | .sh _=>24
def ah.vU:List CT→Nat
 | []=>0
 |c::cs=>c.vU+ah.vU cs
def ae7(k:IntKind)(z:Int):Prop:=k.min≤z∧z≤k.max
theorem add_zero(a:Addr):a.add 0=a:=by cases a;rfl
mutual
def CT.ok:(c:CT)→c.V→Prop
 | .int k,z=>ae7 k z
 | .bool,_=>True
 | .str,s=>s.size≤140737488351232
 | .sl e,xs=>ah.vU e*(lst e xs).length≤140737488351232∧∀ x∈lst e xs,ah.ok e x
 | .sh e,xs=>ah.vU e*(lst e xs).length≤140737488351232∧∀ x∈lst e xs,ah.ok e x
def ah.ok:(cs:List CT)→ah.V cs→Prop
 | [],_=>True
 |c::cs,x=>CT.ok c x.1∧ah.ok cs x.2
end
def tN(rec:TypeId→List CT→Bool)(P:Program):List Field→Nat→List CT→Bool
 | [],_,cs=>cs.isEmpty
 |f::fs,o,cs=>decide (f.offset=o)&&decide (P.cellsOf f.type≤cs.length)&&rec f.type (cs.take (P.cellsOf f.type))&&tN rec P fs (o+P.cellsOf f.type) (cs.drop (P.cellsOf f.type))
def qm(P:Program):Nat→TypeId→List CT→Bool
 |0,_,_=>false
 |n+1,t,cs=>match P.underlying t with
  |some (.int k)=>match cs with | [.int k']=>decide (k=k') |_=>false
  |some .bool=>match cs with | [.bool]=>true |_=>false
  |some .string=>match cs with | [.str]=>true |_=>false
  |some (.slice e)=>match cs with | [.sl es]=>qm P n e es&&decide (P.cellsOf e=es.length)&&decide (0<es.length)&&decide (ah.vU es≤P.bytesOf e) |_=>false
  |some (.struct fs)=>decide (P.cellsOf t=cs.length)&&tN (qm P n) P fs.toList 0 cs
  |_=>false
theorem TK{I J:Nat→Prop}{w:World}:∀ (a b:List CT) (x:ah.V a) (y:ah.V b) (us vs:List Value),jh I J w a x us→jh I J w b y vs→jh I J w (a++b) (lW a b x y) (us++vs)
 | [],b,x,y,us,vs,h,h'=>by simp only[jh]at h;subst h;exact h'
 |c::a,b,x,y,us,vs,h,h'=>by
  simp only[jh]at h
  obtain⟨u,t,rfl,h1,h2⟩:=h
  exact⟨u,t++vs,rfl,h1,TK a b x.2 y t vs h2 h'⟩
theorem Nu:∀ (a b:List CT) (x:ah.V a) (y:ah.V b),ah.ok a x→ah.ok b y→ah.ok (a++b) (lW a b x y)
 | [],b,x,y,h,h'=>h'
 |c::a,b,x,y,h,h'=>by
  simp only[ah.ok]at h
  exact⟨h.1,Nu a b x.2 y h.2 h'⟩
theorem cell_lt{w:World}{a:Addr}{u:Value}(h:w.cell? a=some u):a.block<w.heap.size:=by
 unfold World.cell? at h
 cases hb:w.heap[a.block]? with
 |none=>rw[hb]at h;cases h
 |some o=>exact(Array.getElem?_eq_some_iff.1 hb).1
theorem TB{I J:Nat→Prop}{w:World}:∀ (e:List CT) (x:ah.V e) (us:List Value) (a:Addr),(∀ (c:CT) (x:c.V) (u:Value),c∈e→yg I J w c x u→aZ I w c x u)→jh I J w e x us→(∀ i,i<e.length→w.cell? (a.add i)=us[i]?)→bH I w e x a
 | [],_,_,_,_,_,_=>by simp[bH]
 |c::e,x,us,a,hs,h,hc=>by
  simp only[jh]at h
  obtain⟨u,t,rfl,h1,h2⟩:=h
  simp only[bH]
  refine⟨⟨u,by simpa [add_zero]using hc 0 (by simp),hs _ _ _ (by simp) h1⟩,TB e x.2 t (a.add 1) (fun c x u hm=>hs c x u (by simp[hm])) h2 fun i hi=> ?_⟩
  have:=hc (i+1) (by simpa using hi)
  rw[Go.Deep.add_add,Nat.add_comm 1 i]
  simpa using this
def noSh:CT→Bool
 | .sh _=>false
 |_=>true
theorem abz{I J:Nat→Prop}{w:World}{c:CT}{x:c.V}{u:Value}(hn:noSh c=true)(h:yg I J w c x u):aZ I w c x u:=by
 cases c with
 |sh e=>cases hn
 |_=>exact h
theorem VF{rec:TypeId→List CT→Bool}{P:Program}(hrec:∀ t cs,rec t cs=true→∀ c∈cs,noSh c=true):∀ (fs:List Field) (o:Nat) (cs:List CT),tN rec P fs o cs=true→∀ c∈cs,noSh c=true
 | [],o,cs,h,c,hc=>by
  simp[tN]at h
  subst h
  cases hc
 |f::fs,o,cs,h,c,hc=>by
  simp only[tN,Bool.and_eq_true]at h
  rw[←List.take_append_drop (P.cellsOf f.type) cs]at hc
  rcases List.mem_append.1 hc with hc |hc
  ·exact hrec _ _ h.1.2 c hc
  ·exact VF hrec fs _ _ h.2 c hc
theorem Ut{P:Program}:∀ (n:Nat) (t:TypeId) (cs:List CT),qm P n t cs=true→∀ c∈cs,noSh c=true
 |0,_,_,h,_,_=>by cases h
 |n+1,t,cs,h,c,hc=>by
  unfold qm at h
  split at h
  ·split at h
   ·simp at hc;subst hc;rfl
   ·cases h
  ·split at h
   ·simp at hc;subst hc;rfl
   ·cases h
  ·split at h
   ·simp at hc;subst hc;rfl
   ·cases h
  ·split at h
   ·simp at hc;subst hc;rfl
   ·cases h
  ·simp only[Bool.and_eq_true]at h
   exact VF (fun t cs=>Ut n t cs) _ _ _ h.2 c hc
  ·cases h
section
variable {H:Type} {enc:TypeId×Value→H} {P:Program} {w:World} {base:Nat} {spare:Nat→Bool} {held:Bool}
theorem SH:∀ (ts:List TypeId) (ds:List (DataW H)) (i:Nat) (t:TypeId) (d:DataW H),(DataW.weightsEach P ts ds).all (· ≤reachBytes)=true→ts[i]? =some t→ds[i]? =some d→(d.weights P t).all (· ≤reachBytes)=true
 |t::ts,d::ds,0,t',d',h,h1,h2=>by
  simp at h1 h2
  subst h1 h2
  simp only[DataW.weightsEach,List.all_append,Bool.and_eq_true]at h
  exact h.1
 |t::ts,d::ds,i+1,t',d',h,h1,h2=>by
  simp only[DataW.weightsEach,List.all_append,Bool.and_eq_true]at h
  exact SH ts ds i t' d' h.2 (by simpa using h1) (by simpa using h2)
 | [],_,_,_,_,_,h1,_=>by simp at h1
 |_::_,[],_,_,_,_,_,h2=>by simp at h2
theorem Tq:∀ (e:TypeId) (ds:List (DataW H)),(DataW.weightsAll P e ds).all (· ≤reachBytes)=true→∀ d∈ds,(d.weights P e).all (· ≤reachBytes)=true
 |e,[],_,d,hd=>by cases hd
 |e,d::ds,h,d',hd=>by
  simp only[DataW.weightsAll,List.all_append,Bool.and_eq_true]at h
  rcases List.mem_cons.1 hd with rfl |hd
  ·exact h.1
  ·exact Tq e ds h.2 d' hd
theorem Xu(J:Nat→Prop){rec:TypeId→List CT→Bool}{n:Nat} (hrec:∀ (t:TypeId) (cs:List CT) (us:List Value) (x:DataW H×List MemPlace),rec t cs=true→DataW.trod enc P w base spare held n t us=some x→(x.1.weights P t).all (· ≤reachBytes)=true→
   ∃ v:ah.V cs,jh (fun b=>b<w.heap.size) J w cs v us∧ah.ok cs v):
  ∀ (fs:List Field) (o:Nat) (cs:List CT) (us:List Value) (xs:List (DataW H×List MemPlace)),tN rec P fs o cs=true→us.length=o+cs.length→
   (∀ (i:Nat) (f:Field),fs[i]? =some f→DataW.trod enc P w base spare held n f.type ((us.drop f.offset).take (P.cellsOf f.type))=xs[i]?)→xs.length=fs.length→
   (∀ (i:Nat) (f:Field) (x:DataW H×List MemPlace),fs[i]? =some f→xs[i]? =some x→(x.1.weights P f.type).all (· ≤reachBytes)=true)→
   ∃ v:ah.V cs,jh (fun b=>b<w.heap.size) J w cs v (us.drop o)∧ah.ok cs v
 | [],o,cs,us,xs,h,hl,ht,hxl,hw=>by
  simp[tN]at h
  subst h
  refine⟨(), ?_,trivial⟩
  simp only[jh]
  exact List.drop_eq_nil_of_le (by simp at hl;omega)
 |f::fs,o,cs,us,xs,h,hl,ht,hxl,hw=>by
  simp only[tN,Bool.and_eq_true,decide_eq_true_eq]at h
  obtain⟨⟨⟨rfl,hle⟩,h1⟩,h2⟩:=h
  cases xs with
  |nil=>simp at hxl
  |cons x xs=>
   have t0:=ht 0 f rfl
   obtain⟨v1,r1,o1⟩:=hrec _ _ _ x h1 (by simpa using t0) (hw 0 f x rfl rfl)
   obtain⟨v2,r2,o2⟩:=Xu J hrec fs (f.offset+P.cellsOf f.type) (cs.drop (P.cellsOf f.type)) us xs h2 (by simp;omega)
    (fun i g hg=>by have:=ht (i+1) g (by simpa using hg);simpa using this) (by simpa using hxl) (fun i g y hg hy=>hw (i+1) g y (by simpa using hg) (by simpa using hy))
   have e:cs.take (P.cellsOf f.type)++cs.drop (P.cellsOf f.type)=cs:=List.take_append_drop _ _
   have eu:us.drop f.offset=(us.drop f.offset).take (P.cellsOf f.type)++us.drop (f.offset+P.cellsOf f.type):=by
    rw[←List.drop_drop];exact(List.take_append_drop _ _).symm
   have c1:=TK _ _ v1 v2 _ _ r1 r2
   have c2:=Nu _ _ v1 v2 o1 o2
   rw[←eu]at c1
   generalize lW _ _ v1 v2=v at c1 c2
   revert v
   rw[e]
   exact fun v c1 c2=>⟨v,c1,c2⟩
theorem NM(J:Nat→Prop):∀ (m:Nat) (t:TypeId) (cs:List CT) (n:Nat) (us:List Value) (x:DataW H×List MemPlace),qm P m t cs=true→DataW.trod enc P w base spare held n t us=some x→(x.1.weights P t).all (· ≤reachBytes)=true→
   ∃ v:ah.V cs,jh (fun b=>b<w.heap.size) J w cs v us∧ah.ok cs v
 |0,_,_,_,_,_,h,_,_=>by cases h
 |m+1,t,cs,n,us,x,h,ht,hw=>by
  unfold qm at h
  split at h
  ·rename_i k hu
   split at h
   ·rename_i k'
    have hk:k=k':=of_decide_eq_true h
    subst hk
    obtain⟨z,rfl,_,hz⟩:=DataW.trod_int hu ht
    refine⟨(z,()),⟨_,_,rfl,rfl,rfl⟩, ?_,trivial⟩
    simp only[Lit.wf,Bool.and_eq_true,decide_eq_true_eq]at hz
    exact hz
   ·cases h
  ·rename_i hu
   split at h
   ·obtain⟨b,rfl,_⟩:=DataW.trod_bool hu ht
    exact⟨(b,()),⟨_,_,rfl,rfl,rfl⟩,trivial,trivial⟩
   ·cases h
  ·rename_i hu
   split at h
   ·obtain⟨s,rfl,rfl,_⟩:=DataW.trod_string hu ht
    refine⟨(s,()),⟨_,_,rfl,rfl,rfl⟩, ?_,trivial⟩
    have hw':s.size≤140737488351232:=by
     simp only[DataW.weights,reachBytes,List.all_cons,List.all_nil,Bool.and_true,Array.length_toList]at hw
     have h9:=of_decide_eq_true hw
     exact h9
    exact hw'
   ·cases h
  ·rename_i e hu
   split at h
   ·rename_i es
    simp only[Bool.and_eq_true,decide_eq_true_eq]at h
    obtain⟨⟨⟨h1,h2⟩,h3⟩,h4⟩:=h
    rcases DataW.trod_slice hu ht with ⟨rfl,_⟩ | ⟨ad,l,c,elems,rest,n',_,rfl,rfl,hb,hl,hc,hel,hi,_,_⟩
    ·refine⟨([],()),⟨_,_,rfl, ?_,rfl⟩,⟨Nat.zero_le _,fun x hx=>by cases hx⟩,trivial⟩
     exact⟨none,0,rfl,Nat.le_refl _,Or.inl rfl⟩
    ·simp only[DataW.weights,hu,List.all_cons,List.all_append,Bool.and_eq_true,decide_eq_true_eq,List.length_map]at hw
     obtain⟨w1,w2,w3⟩:=hw
     have step:∀ i,i<l→∃ v:ah.V es,bH (fun b=>b<w.heap.size) w es v (ad.add (i*es.length))∧ah.ok es v∧ad.block<w.heap.size:=by
      intro i hil
      have h5:=hi i hil
      have hei:elems[i]? =some (elems[i]'(by omega)):=List.getElem?_eq_getElem (by omega)
      rw[hei]at h5
      obtain⟨cs,hcs,htr⟩:=Option.bind_eq_some_iff.1 h5
      have hwi:=Tq e _ w2 (elems[i]'(by omega)).1 (List.mem_map.2 ⟨_,List.getElem_mem _,rfl⟩)
      obtain⟨v,r,o⟩:=NM J m e es n' cs _ h1 htr hwi
      obtain⟨_,hcl,hat⟩:=World.cells?_some hcs
      rw[h2]at hcl hat
      have hat':∀ j,j<es.length→w.cell? ((ad.add (i*es.length)).add j)=cs[j]? :=fun j hj=>hat j hj
      refine⟨v,TB es v cs _ (fun c x u hm=>abz (Ut m e es h1 c hm)) r hat',o, ?_⟩
      have:=hat' 0 h3
      rw[List.getElem?_eq_getElem (by omega)]at this
      have h7:= @cell_lt w ((ad.add (i*es.length)).add 0) _ this
      rwa [ru,ru]at h7
     have build:∀ k,k≤l→∃ vs:List (ah.V es),vs.length=k∧(∀ i v,vs[i]? =some v→bH (fun b=>b<w.heap.size) w es v (ad.add (i*es.length)))∧∀ v∈vs,ah.ok es v:=by
      intro k
      induction k with
      |zero=>exact fun _=>⟨[],rfl,by simp,by simp⟩
      |succ k ih=>
       intro hk
       obtain⟨vs,a1,a2,a3⟩:=ih (by omega)
       obtain⟨v,b1,b2,_⟩:=step k (by omega)
       refine⟨vs++[v],by simp[a1],fun i v' h'=> ?_,fun v' hv'=> ?_⟩
       ·rcases Nat.lt_or_ge i vs.length with hlt |hge
        ·rw[List.getElem?_append_left hlt]at h'
         exact a2 i v' h'
        ·rw[List.getElem?_append_right hge]at h'
         have hi0:i - vs.length=0:=by
          have:=(List.getElem?_eq_some_iff.1 h').1
          simp at this
          omega
         rw[hi0]at h'
         simp at h'
         subst h'
         have:i=k:=by omega
         subst this
         exact b1
       ·rcases List.mem_append.1 hv' with hv' |hv'
        ·exact a3 v' hv'
        ·simp at hv';subst hv';exact b2
     obtain⟨vs,a1,a2,a3⟩:=build l (Nat.le_refl _)
     refine⟨(vs,()),⟨_,_,rfl, ?_,rfl⟩,⟨?_,a3⟩,trivial⟩
     ·refine⟨some ad,c,by rw[show(lst es vs).length=l from a1],by rw[show(lst es vs).length=l from a1];exact hl, ?_⟩
      by_cases h0:l=0
      ·exact Or.inl (a1.trans h0)
      ·obtain⟨_,_,_,hlt⟩:=step 0 (by omega)
       exact Or.inr ⟨ad,rfl,hlt,a2⟩
     ·have hvl:(lst es vs).length=l:=a1
      rw[hvl]
      unfold reachBytes at w1
      have:ah.vU es*l≤(elems.length+rest.length)*P.bytesOf e:=by
       rw[Nat.mul_comm]
       exact Nat.mul_le_mul (by omega) h4
      omega
   ·cases h
  ·rename_i fs hu
   simp only[Bool.and_eq_true,decide_eq_true_eq]at h
   obtain⟨xs,n',rfl,rfl,hlen,hxl,hg⟩:=DataW.trod_struct hu ht
   simp only[DataW.weights,hu]at hw
   have:=Xu (rec:=qm P m) (n:=n') J (fun t cs us x=>NM J m t cs n' us x) fs.toList 0 cs us xs h.2 (by omega) (fun i f hf=>hg i f (by simpa using hf)) (by simpa using hxl)
    (fun i f x hf hx=>SH _ _ i f.type x.1 hw (by simp at hf;simp[hf]) (by simp[hx]))
   simpa using this
  ·cases h
def vJ(P:Program):List TypeId→List bF→Bool
 | [],[]=>true
 |t::ts,.v agg cs::ps=>qm P 9 t cs&&(match P.underlying t with |some (.struct _)=>agg |_=> !agg)&&P.readableRec t&&decide (t<P.types.size)&&vJ P ts ps
 |_,_=>false
theorem aeL(J:Nat→Prop){t:TypeId}{agg:Bool}{cs:List CT}{v:Value}{b0:Nat}{r:_root_.Go.Reach}(h1:qm P 9 t cs=true)(h2:(match P.underlying t with |some (.struct _)=>agg |_=> !agg)=true)(hv:Value.okWide P w r b0 t v):kz agg v.cells.toList v:=by
 unfold qm at h1
 split at h1
 ·rename_i k hu
  obtain⟨n,rfl⟩:=okWide_int hu hv
  rw[hu]at h2
  cases agg <;>simp_all [kz,Value.cells]
 ·rename_i hu
  obtain⟨n,rfl⟩:=okWide_bool hu hv
  rw[hu]at h2
  cases agg <;>simp_all [kz,Value.cells]
 ·rename_i hu
  obtain⟨n,rfl⟩:=okWide_string hu hv
  rw[hu]at h2
  cases agg <;>simp_all [kz,Value.cells]
 ·rename_i e hu
  obtain⟨a,l,c,rfl⟩:=okWide_slice hu hv
  rw[hu]at h2
  cases agg <;>simp_all [kz,Value.cells]
 ·rename_i fs hu
  obtain⟨cs,rfl,_⟩:=okWide_struct hu hv
  rw[hu]at h2
  cases agg <;>simp_all [kz,Value.cells]
 ·cases h1
end
section
variable {H:Type} {enc:TypeId×Value→H} {P:Program}
theorem WZ{W:World}{b0:Nat}{r:_root_.Go.Reach}:∀ (ts:List TypeId) (ins:List bF) (vs:List Value) (ds:List (DataW H)) (p:List MemPlace),vJ P ts ins=true→
  (∀ (j:Nat) t v,ts[j]? =some t→vs[j]? =some v→Value.okWide P W r b0 t v)→DataW.TrodAll enc P W 0 (fun _=>true) true ts vs ds p→(DataW.weightsEach P ts ds).all (· ≤reachBytes)=true→
  ∃ x:ah.V (cu ins),jG (fun b=>b<W.heap.size∧b∉([]:List Nat)) (fun _=>False) W ins x vs []∧ah.ok (cu ins) x
 | [],[],vs,ds,p,_,_,hA,_=>by
  obtain⟨rfl,rfl,rfl⟩:=trodAll_nil hA
  exact⟨(),⟨rfl,rfl⟩,trivial⟩
 |t::ts,.v agg cs::ins,vs,ds,p,h,hval,hA,hw=>by
  simp only[vJ,Bool.and_eq_true]at h
  obtain⟨⟨⟨⟨h1,h2⟩,_⟩,_⟩,h3⟩:=h
  obtain⟨v,vs',d,ds',p1,q1,rfl,rfl,rfl,h0,hr⟩:=trodAll_cons hA
  simp only[DataW.weightsEach,List.all_append,Bool.and_eq_true]at hw
  obtain⟨x2,a2,o2⟩:=WZ ts ins vs' ds' q1 h3 (fun j t v ht hv=>hval (j+1) t v (by simpa using ht) (by simpa using hv)) hr hw.2
  obtain⟨n,hn⟩:=h0
  obtain⟨x1,a1,o1⟩:=NM (fun _=>False) 9 t cs n _ _ h1 hn hw.1
  have hg:=aeL (w:=W) (fun _=>False) h1 h2 (hval 0 t v rfl rfl)
  refine⟨lW cs (cu ins) x1 x2, ?_,Nu _ _ _ _ o1 o2⟩
  refine⟨v,vs',[],[],rfl,rfl, ?_, ?_⟩
  ·show BQ _ _ W (.v agg cs) (splitV cs (cu ins) (lW cs (cu ins) x1 x2)).1 v []
   rw[uU]
   exact⟨v.cells.toList,by simpa using a1,hg,rfl⟩
  ·show jG _ _ W ins (splitV cs (cu ins) (lW cs (cu ins) x1 x2)).2 vs' []
   rw[uU]
   exact a2
 | [],_::_,_,_,_,h,_,_,_=>by cases h
 |_::_,[],_,_,_,h,_,_,_=>by cases h
 |_::_,.r _::_,_,_,_,h,_,_,_=>by cases h
 |_::_,.cl _ _::_,_,_,_,h,_,_,_=>by cases h
 |_::_,.w _ _::_,_,_,_,h,_,_,_=>by cases h
 |_::_,.c _ _::_,_,_,_,h,_,_,_=>by cases h
 |_::_,.m _::_,_,_,_,h,_,_,_=>by cases h
theorem WY(hl:laidOutB P=true){W W':World}(bel:Go.RowKit.Below W.heap.size W W'):∀ (ts:List TypeId) (ins:List bF) (vs:List Value) (ds:List (DataW H)) (p:List MemPlace),vJ P ts ins=true→
  DataW.TrodAll enc P W 0 (fun _=>true) true ts vs ds p→DataW.TrodAll enc P W' 0 (fun b=>decide (b<W.heap.size)) true ts vs ds p
 | [],[],vs,ds,p,_,hA=>by
  obtain⟨rfl,rfl,rfl⟩:=trodAll_nil hA
  exact trodAll_mk0
 |t::ts,.v agg cs::ins,vs,ds,p,h,hA=>by
  simp only[vJ,Bool.and_eq_true,decide_eq_true_eq]at h
  obtain⟨⟨⟨⟨h1,h2⟩,h4⟩,h5⟩,h3⟩:=h
  obtain⟨v,vs',d,ds',p1,q1,rfl,rfl,rfl,h0,hr⟩:=trodAll_cons hA
  have lt:∀ x∈p1,x.block<W.heap.size:=by obtain⟨m,hm⟩:=h0;exact DataW.trod_lt m _ _ _ hm
  exact trodAll_cons_mk (Below.trod hl h4 h5 h0 bel lt) (WY hl bel ts ins _ _ _ h3 hr)
 | [],_::_,_,_,_,h,_=>by cases h
 |_::_,[],_,_,_,h,_=>by cases h
 |_::_,.r _::_,_,_,_,h,_=>by cases h
 |_::_,.cl _ _::_,_,_,_,h,_=>by cases h
 |_::_,.w _ _::_,_,_,_,h,_=>by cases h
 |_::_,.c _ _::_,_,_,_,h,_=>by cases h
 |_::_,.m _::_,_,_,_,h,_=>by cases h
end
theorem ac4{w:World}{J:Nat→Prop}{us:List Value}{bs:List Nat}(h:bT w J [CT.bool] ((true,()):ah.V [CT.bool]) us bs):us=[.bool true]:=by
 simp only[bT]at h
 obtain⟨u,t,rfl,h1,h2⟩:=h
 simp only[aZ]at h1
 rw[h1,h2.1]
theorem acj{C:Checked}{f:FuncId}{fn:Func}{s:ChangeSpec}{S:aG}{H:Type}{enc:TypeId×Value→H}
  (hl:laidOutB C.prog=true)
  (hvars:s.vars=[]) (hres:∃ t,fn.resultTypes.toList=[t]∧C.prog.underlying t=some .bool)
  (hspec:∀ ds:List (DataW H),ds.length=fn.params.size→s.fn H ds={ results:=[.lit (.bool true)],args:=ds })
  (hpack:S.pack=[]) (ins':List bF) (hpars:vJ C.prog fn.params.toList ins'=true) (W:World) (J:Nat→Prop) (hJ:∀ b,J b→b<W.heap.size) (conv:ah.V (cu ins')→ah.V (cu S.ins))
  (hconv:∀ x vs,jG (fun b=>b<W.heap.size∧b∉([]:List Nat)) (fun _=>False) W ins' x vs []→jG (fun b=>b<W.heap.size∧b∉([]:List Nat)) J W S.ins (conv x) vs []) (houts:S.outs=[(false,[.bool])])
  {Dr:Kn} (htab:Dr.tab J W) (ok:aF Dr C.prog f S)
  (pure:∀ x:ah.V (cu ins'),ah.ok (cu ins') x→∃ y,S.F (conv x)=some y∧∀ us bs w J,bT w J (dL S.outs) (splitV (dL S.outs) (dZ S.ins) y).1 us bs→us=[.bool true])
  {base:Nat} {args:Array Value} {ds gs:List (DataW H)} {before:List MemPlace}
  (hval:∀ (j:Nat) t v,fn.params[j]? =some t→args[j]? =some v→Value.okWide C.prog W .any base t v)
  (hW:DataW.Whole enc C.prog fn.params.toList s.vars false W args.toList ds gs before)
  (hsz:(DataW.weightsEach C.prog (fn.params.toList++s.plain.varTypes C.prog) (ds++gs)).all (· ≤reachBytes)=true):
  Calls C.prog f args W fun e W'=>∃ v,e= .returned v∧s.post enc C.prog fn false true false false W args v W':=by
 have hW':=hW
 obtain⟨p,q,hA,hV,rfl,hfz,hnd⟩:=hW
 rw[hvars]at hV
 obtain⟨rfl,rfl⟩:=trodVars_none hV
 have hlen:=trodAll_length hA
 rw[show fn.params.toList++s.plain.varTypes C.prog=fn.params.toList++s.plain.varTypes C.prog from rfl]at hsz
 have hsz':(DataW.weightsEach C.prog fn.params.toList ds).all (· ≤reachBytes)=true:=by
  have hv0:s.plain.varTypes C.prog=[]:=by simp[ChangeSpec.plain,DataSpec.varTypes,hvars]
  rw[hv0]at hsz
  simpa using hsz
 obtain⟨x,hx,hok⟩:=WZ fn.params.toList ins' args.toList ds p hpars (fun j t v ht hv=>hval j t v (by simpa using ht) (by simpa using hv)) hA hsz'
 obtain⟨y,hy,hans⟩:=pure x hok
 have hc:=ok.2 W [] J (conv x) y args.toList args.toList (fun b hb=>⟨hJ b hb,by simp⟩) List.nodup_nil htab (hconv x _ hx) hy (by rw[hpack];rfl)
 rw[show args.toList.toArray=args by simp]at hc
 refine hc.mono ?_
 rintro e W' ⟨hup,us,vs,bs,bs',hans',hown,hgr,_,_,_⟩
 rw[houts]at hans'
 obtain rfl:e= .returned (rJ vs):=hans'
 have hus:=hans us bs W' _ hown
 subst hus
 have hgr':vs=[.bool true]:=by
  rw[houts]at hgr
  obtain⟨a,b,v,rest,h1,h2,rfl,h3,h4,h5⟩:=hgr
  have h3':a=[v]:=h3
  subst h3' h4 h5
  simp at h1
  rw[h1]
 subst hgr'
 obtain⟨t,ht,hb⟩:=hres
 have bel:=hup.below
 refine⟨_,rfl,ds,[],_,[],p,[],hW', ?_, ?_, ?_,bel.frame _,fun h=>by cases h⟩
 ·rw[ht,List.append_nil,hspec ds (by simpa using hlen.2)]
  have hn:fn.resultTypes.size=1:=by rw[←Array.length_toList,ht];rfl
  rw[hn]
  exact trodAll_mk1 (shut_bool hb true)
 ·rw[List.append_nil,hspec ds (by simpa using hlen.2)]
  exact WY hl bel.toBelow _ _ _ _ _ hpars hA
 ·rw[List.append_nil,hspec ds (by simpa using hlen.2),hvars]
  rfl
theorem adG{C:Checked}{os:Os}{f:FuncId}{fn:Func}{s:ChangeSpec}{S:aG}{H:Type}{enc:TypeId×Value→H}
  (own:ownKnob C.prog.godebug=none) (started:os.Started) (noInit:C.prog.inits.idxOf? f=none) (hfn:C.prog.funcs[f]? =some fn)
  (hl:laidOutB C.prog=true)
  (hvars:s.vars=[]) (hres:∃ t,fn.resultTypes.toList=[t]∧C.prog.underlying t=some .bool)
  (hspec:∀ ds:List (DataW H),ds.length=fn.params.size→s.fn H ds={ results:=[.lit (.bool true)],args:=ds })
  (hpack:S.pack=[]) (ins':List bF) (hpars:vJ C.prog fn.params.toList ins'=true) (J:World→Nat→Prop) (hJ:∀ W b,J W b→b<W.heap.size) (conv:ah.V (cu ins')→ah.V (cu S.ins))
  (hconv:∀ W x vs,jG (fun b=>b<W.heap.size∧b∉([]:List Nat)) (fun _=>False) W ins' x vs []→jG (fun b=>b<W.heap.size∧b∉([]:List Nat)) (J W) W S.ins (conv x) vs []) (houts:S.outs=[(false,[.bool])])
  {Dr:Kn} (htab:∀ J w,Dr.tab J w) (ok:aF Dr C.prog f S)
  (pure:∀ x:ah.V (cu ins'),ah.ok (cu ins') x→∃ y,S.F (conv x)=some y∧∀ us bs w J,bT w J (dL S.outs) (splitV (dL S.outs) (dZ S.ins) y).1 us bs→us=[.bool true])
  {conds:List PathCond}
  (witness:∃ (w:World) (tape:Tape) (i:Input),w.os=os∧(w.forCall tape i).Shaped C.prog∧i.vars=[]∧Input.okWide C.prog (w.forCall tape i) .any w.heap.size f i∧
   s.pre6 enc C.prog fn conds false (w.forCall tape i).memory i.args∧({}:Assume).holds C.prog (lone (Frame.enter C.prog f i.args .normal) [] (w.forCall tape i))):
  ReturnsInHanded {} C os f .any (s.pre6 enc C.prog fn conds false) (s.post enc C.prog fn false true false false):=by
 refine returnsInHanded_of_change_sized own started noInit hfn witness ?_
 intro W base args ds gs before hval hW _ hsz _
 exact acj hl hvars hres hspec hpack ins' hpars W (J W) (hJ W) conv (hconv W) houts (htab _ _) ok pure hval hW hsz
theorem aee(e:List CT)(W:World)(x:ah.V (cu [.v false [.sl e]]))(vs:List Value)(h:jG (fun b=>b<W.heap.size∧b∉([]:List Nat)) (fun _=>False) W [.v false [.sl e]] x vs []):
  jG (fun b=>b<W.heap.size∧b∉([]:List Nat)) (fun b=>b<W.heap.size∧b∉([]:List Nat)) W [.v false [.sh e]] x vs []:=by
 obtain⟨v,t,b1,b2,h1,h2,⟨us,⟨u,t',h3,h4,h5⟩,h6,h7⟩,h8⟩:=h
 exact⟨v,t,b1,b2,h1,h2,⟨us,⟨u,t',h3,h4,h5⟩,h6,h7⟩,h8⟩
def CT.noSh:CT→Bool
 | .sh _=>false
 |_=>true
end Go.Rv
set_option linter.unusedVariables false
set_option linter.unusedSimpArgs false
namespace Go.Rv
abbrev af(n:Int):Int:=IntKind.i64.wrap n
abbrev rd{α:Type}(z:α)(xs:List α)(i:Int):α:=xs.getD i.toNat z
abbrev mn(a b:Int):Int:=if b<a then b else a
abbrev mx(a b:Int):Int:=if b>a then b else a
abbrev bt(s:ByteArray)(i:Int):Int:=((s.get! i.toNat).toNat:Int)
abbrev seq(a b:ByteArray):Bool:=a.toList==b.toList
def aV:List (FuncId×List FuncId×aG)→dX
 | [],_,_=>none
 | (g',fs',S)::r,g,fs=>if g=g'∧fs=fs' then some S else aV r g fs
inductive nR (Dr:Kn) (P:Program):List (FuncId×List FuncId×aG)→Prop where
 |nil:nR Dr P []
 |cons {g:FuncId} {fs:List FuncId} {S:aG} {r:List (FuncId×List FuncId×aG)}:aF Dr P g S→nR Dr P r→nR Dr P ((g,fs,S)::r)
theorem NP{Dr:Kn}{P:Program}{l:List (FuncId×List FuncId×aG)}(hl:nR Dr P l):∀ g fs S,aV l g fs=some S→aF Dr P g S:=by
 induction hl with
 |nil=>intro g fs S h;cases h
 |cons h1 _ ih=>
  intro g fs S h
  simp only[aV]at h
  split at h
  ·rename_i hc
   obtain⟨rfl,rfl⟩:=hc
   cases h
   exact h1
  ·exact ih g fs S h
abbrev Tb:=List (FuncId×List FuncId×aG)
theorem nR.c{Dr:Kn}{P:Program}{g:FuncId}{S:aG}{r:List (FuncId×List FuncId×aG)}(h:aF Dr P g S)(t:nR Dr P r):nR Dr P ((g,[],S)::r):= .cons h t
theorem nR.cf{Dr:Kn}{P:Program}{g:FuncId}(fs:List FuncId){S:aG}{r:List (FuncId×List FuncId×aG)}(h:aF Dr P g S)(t:nR Dr P r):nR Dr P ((g,fs,S)::r):= .cons h t
theorem bC{Dr:Kn}{P:Program}{l:List (FuncId×List FuncId×aG)}{f:FuncId}{S:aG}(hm:P.follows .mixedOrders=true)(hl:nR Dr P l)(he:Ba P f=true)(h:∀ x,dw P (aV l) (fun _=>([],[])) 0 f S.ins S.outs S.pack x=S.F x):aF Dr P f S:=
 Nk hm (NP hl) he fun x _ e=>⟨_,0,(h x).trans e⟩
theorem dI{Dr:Kn}{P:Program}{l:List (FuncId×List FuncId×aG)}{f:FuncId}{S:aG}(hm:P.follows .mixedOrders=true)(hl:nR Dr P l)(he:Ba P f=true)(h:∀ x,∃ cfg k,dw P (aV l) cfg k f S.ins S.outs S.pack x=S.F x):aF Dr P f S:=
 Nk hm (NP hl) he fun x _ e=>by obtain⟨cfg,k,h⟩:=h x;exact⟨cfg,k,h.trans e⟩
theorem bK{α:Nat→Prop}(h0:α 0)(hs:∀ k,α k→α (k+1)):∀ k,α k
 |0=>h0
 |k+1=>hs k (bK h0 hs k)
noncomputable def dH(P:Program)(f:FuncId):Code:=((P.funcs[f]?).bind (·.body)).getD .skip
def qO(l:List UInt8):ByteArray:=⟨l.toArray⟩
end Go.Rv
set_option linter.unusedVariables false
set_option linter.unusedSimpArgs false
namespace Go.Rv
theorem aI(n:Int)(h: -9223372036854775808≤n∧n≤9223372036854775807):af n=n:=IntWalk.i64_in n h
theorem u64_in(n:Int)(h:0≤n∧n≤18446744073709551615):IntKind.u64.wrap n=n:=IntWalk.u64_in n h
noncomputable def bb(P:Prop):Bool:= @decide P (Classical.propDecidable P)
theorem fG{P:Prop}:bb P=true↔P:=by unfold bb;exact @decide_eq_true_iff P (Classical.propDecidable P)
theorem adw{P:Prop}:bb P=false↔¬ P:=by
 rw[←Bool.not_eq_true,fG]
theorem lQ{P Q:Prop}(h:P↔Q):bb P=bb Q:=by rw[propext h]
theorem dD{P:Prop}(h:P):bb P=true:=fG.2 h
theorem eU{P:Prop}(h:¬ P):bb P=false:=adw.2 h
theorem yA{P:Prop}[h:Decidable P]:bb P=decide P:=by
 by_cases p:P
 ·rw[dD p,decide_eq_true p]
 ·rw[eU p,decide_eq_false p]
theorem scan{α:Type}(n:Nat)(p:Nat→Prop)(g:Nat→Nat→α)(yes no:α)(hs:∀ k i,i<n→(∀ j,j<i→p j)→(p i→g (k+1) i=g k (i+1))∧(¬ p i→g (k+1) i=no))(he:(∀ j,j<n→p j)→∀ k,g (k+1) n=yes):
  ∀ k i,i≤n→n - i<k→(∀ j,j<i→p j)→((∀ j,j<n→p j)→g k i=yes)∧((¬ ∀ j,j<n→p j)→g k i=no):=by
 intro k
 induction k with
 |zero=>intro i _ h;omega
 |succ k ih=>
  intro i hi hk hb
  by_cases hin:i<n
  ·by_cases hp:p i
   ·rw[(hs k i hin hb).1 hp]
    refine ih (i+1) (by omega) (by omega) fun j hj=> ?_
    by_cases hji:j=i
    ·rw[hji];exact hp
    ·exact hb j (by omega)
   ·rw[(hs k i hin hb).2 hp]
    exact⟨fun h=>absurd (h i hin) hp,fun _=>rfl⟩
  ·have:i=n:=by omega
   subst this
   exact⟨fun h=>he h k,fun h=>absurd hb h⟩
theorem Fa{n:Nat}{p:Nat→Prop}{Q:Prop}{g:Nat→Nat→Option (Bool×Unit)}(hs:∀ k i,i<n→(∀ j,j<i→p j)→(p i→g (k+1) i=g k (i+1))∧(¬ p i→g (k+1) i=some (false,())))(he:(∀ j,j<n→p j)→∀ k,g (k+1) n=some (bb Q,()))(k:Nat)(hk:n<k):
  g k 0=some (bb ((∀ j,j<n→p j)∧Q),()):=by
 have:=scan n p g _ _ hs he k 0 (by omega) (by omega) (by intro j hj;omega)
 by_cases h:∀ j,j<n→p j
 ·rw[this.1 h,lQ (show((∀ j,j<n→p j)∧Q)↔Q from⟨fun x=>x.2,fun x=>⟨h,x⟩⟩)]
 ·rw[this.2 h,eU fun x=>h x.1]
theorem Bz{n:Nat}{p:Nat→Prop}{g:Nat→Nat→Option (Bool×Unit)}(hs:∀ k i,i<n→(∀ j,j<i→p j)→(p i→g (k+1) i=g k (i+1))∧(¬ p i→g (k+1) i=some (false,())))(he:(∀ j,j<n→p j)→∀ k,g (k+1) n=some (true,()))(k:Nat)(hk:n<k):
  g k 0=some (bb (∀ j,j<n→p j),()):=by
 rw[Fa (Q:=True) hs (fun h k=>by rw[he h k,dD trivial]) k hk,lQ (show((∀ j,j<n→p j)∧True)↔_ from⟨fun x=>x.1,fun x=>⟨x,trivial⟩⟩)]
theorem run{α:Type}(a n:Nat)(g:Nat→Nat→α)(done:α)(hs:∀ k i,a≤i→i<n→g (k+1) i=g k (i+1))(he:∀ k,g (k+1) n=done)(k:Nat)(ha:a≤n)(hk:n - a<k):g k a=done:=by
 have key:∀ k i,a≤i→i≤n→n - i<k→g k i=done:=by
  intro k
  induction k with
  |zero=>intro i _ _ h;omega
  |succ k ih=>
   intro i h1 h2 h3
   by_cases h:i<n
   ·rw[hs k i h1 h];exact ih (i+1) (by omega) (by omega) (by omega)
   ·have:i=n:=by omega
    subst this;exact he k
 exact key k a (Nat.le_refl _) ha hk
def sumTo:Nat→(Nat→Int)→Int
 |0,_=>0
 |n+1,f=>sumTo n f+f n
theorem mF(B:Int)(f:Nat→Int):∀ n,(∀ q,q<n→0≤f q∧f q≤B)→0≤sumTo n f∧sumTo n f≤n*B
 |0,_=>by simp[sumTo]
 |n+1,h=>by
  have h1:=mF B f n fun q hq=>h q (by omega)
  have h2:=h n (by omega)
  simp only[sumTo]
  rw[show((n+1:Nat):Int)=(n:Int)+1 by omega,Int.add_mul,Int.one_mul]
  omega
theorem sumTo_congr(f g:Nat→Int):∀ n,(∀ q,q<n→f q=g q)→sumTo n f=sumTo n g
 |0,_=>rfl
 |n+1,h=>by simp only[sumTo];rw[sumTo_congr f g n fun q hq=>h q (by omega),h n (by omega)]
theorem LU(f:Nat→Int):∀ n,(∀ q,q<n→f q=0)→sumTo n f=0
 |0,_=>rfl
 |n+1,h=>by simp only[sumTo];rw[LU f n fun q hq=>h q (by omega),h n (by omega)];rfl
theorem bZ{α:Type}(z:α)(l:List α)(i:Nat):rd z l (i:Int)=l.getD i z:=rfl
end Go.Rv
