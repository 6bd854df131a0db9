/- A runner of programs on pure values, proved sound against the model: part RvB. It is about every program; the law's own text is the last. -/
import Derived.Test.YtmgahpicfjpjaaaGreatERvA
import Derived.Orders
set_option linter.unusedVariables false
set_option linter.unusedSimpArgs false
namespace Go.Rv
open Go.RowKit
variable {Dr:Kn}
variable {R:Type} {P:Program} {tbl:dW} {env:Env} {ob:List Ob} {o:Oper} {K:PV→List Ob→Option R} {r:R}
def yc(I J:Nat→Prop)(w:World):(c:CT)→c.V→Value→Prop
 | .sh e,x,u=>aZ J w (.sl e) x u
 | .int k,x,u=>aZ I w (.int k) x u
 | .bool,x,u=>aZ I w .bool x u
 | .str,x,u=>aZ I w .str x u
 | .sl e,x,u=>aZ I w (.sl e) x u
def iW(I J:Nat→Prop)(w:World):(cs:List CT)→ah.V cs→List Value→Prop
 | [],_,us=>us=[]
 |c::cs,x,us=>∃ u t,us=u::t∧yc I J w c x.1 u∧iW I J w cs x.2 t
def OwnAt(w:World)(h:Value)(b:Nat)(e:List CT)(xs:List (ah.V e)):Prop:=
 ¬ gK h∧∃ cap us t,h= .slice (some ⟨b,0,none⟩) xs.length cap∧xs.length≤cap∧cap≤maxLen∧w.heap[b]? =some (.cells us t (0,0))∧us.size=cap*e.length∧∀ i x,xs[i]? =some x→bH (fun _=>False) w e x ⟨b,i*e.length,none⟩
def bP(w:World)(J:Nat→Prop):(cs:List CT)→ah.V cs→List Value→List Nat→Prop
 | [],_,us,bs=>us=[]∧bs=[]
 | .sl e::cs,x,us,bs=>∃ h t,us=h::t∧((lst e x.1=[]∧gK h∧bP w J cs x.2 t bs)∨∃ b bt,bs=b::bt∧OwnAt w h b e (lst e x.1)∧bP w J cs x.2 t bt)
 | .sh e::cs,x,us,bs=>∃ u t,us=u::t∧aZ J w (.sl e) (lst e x.1) u∧bP w J cs x.2 t bs
 | .int k::cs,x,us,bs=>∃ u t,us=u::t∧aZ (fun _=>False) w (.int k) x.1 u∧bP w J cs x.2 t bs
 | .bool::cs,x,us,bs=>∃ u t,us=u::t∧aZ (fun _=>False) w .bool x.1 u∧bP w J cs x.2 t bs
 | .str::cs,x,us,bs=>∃ u t,us=u::t∧aZ (fun _=>False) w .str x.1 u∧bP w J cs x.2 t bs
theorem rU{w:World}{J:Nat→Prop}:∀ (cs:List CT) (x:ah.V cs) (us:List Value) (bs:List Nat),bP w J cs x us bs→us.length=cs.length
 | [],x,us,bs,h=>by simp[bP]at h;simp[h]
 |c::cs,x,us,bs,h=>by
  cases c with
  |sl e=>
   simp only[bP]at h
   obtain⟨hd,t,rfl,h | ⟨b,bt,_,_,h⟩⟩:=h
   ·simp[rU cs _ _ _ h.2.2]
   ·simp[rU cs _ _ _ h]
  |_=>
   simp only[bP]at h
   obtain⟨u,t,rfl,_,h⟩:=h
   simp[rU cs _ _ _ h]
def jQ(agg:Bool)(us:List Value)(v:Value):Prop:=match agg with |true=>v= .agg us.toArray |false=>us=[v]
def pY:List (Bool×List CT)→List Value→List Value→Prop
 | [],us,vs=>us=[]∧vs=[]
 | (agg,cs)::r,us,vs=>∃ a b v rest,us=a++b∧a.length=cs.length∧vs=v::rest∧jQ agg a v∧pY r b rest
def rZ(I:Nat→Prop)(w:World):(caps:List (List CT))→ah.V (lM caps)→List Value→Prop
 | [],_,us=>us=[]
 |cs::r,x,us=>∃ ad t,us= .pointer (some ad)::t∧I ad.block∧bH I w cs (splitV cs (lM r) x).1 ad∧rZ I w r (splitV cs (lM r) x).2 t
def BP(I J:Nat→Prop)(w:World):(p:bF)→ah.V p.cells→Value→List Nat→Prop
 | .v agg cs,x,v,bs=>∃ us,iW I J w cs x us∧jQ agg us v∧bs=[]
 | .r cs,x,v,bs=>∃ ad,v= .pointer (some ad)∧I ad.block∧bH I w cs x ad∧bs=[]
 | .cl h caps,x,v,bs=>∃ us,v= .func (.func h) #[] us.toArray∧rZ I w caps x us∧bs=[]
 | .w agg cs,x,v,bs=>∃ us,bP w J cs x us bs∧jQ agg us v
 | .c agg cs,x,v,bs=>∃ us,bP w J cs x us bs∧jQ agg us v
 | .m cs,x,v,bs=>∃ b pre us post t bt,bs=b::bt∧v= .pointer (some ⟨b,pre.length,none⟩)∧w.heap[b]? =some (.cells (pre++us++post).toArray t (0,0))∧bP w J cs x us bt
def jP(I J:Nat→Prop)(w:World):(ins:List bF)→ah.V (cO ins)→List Value→List Nat→Prop
 | [],_,vs,bs=>vs=[]∧bs=[]
 |p::r,x,vs,bs=>∃ v t b1 b2,vs=v::t∧bs=b1++b2∧BP I J w p (splitV p.cells (cO r) x).1 v b1∧jP I J w r (splitV p.cells (cO r) x).2 t b2
def Q5(w w':World)(J:Nat→Prop):(p:bF)→ah.V p.io→Value→List Nat→Prop
 | .w agg cs,y,v,bs=>∃ us,jQ agg us v∧bP w' J cs y us bs
 | .m cs,y,v,bs=>∃ b pre us0 us post t t' bt,bs=b::bt∧v= .pointer (some ⟨b,pre.length,none⟩)∧w.heap[b]? =some (.cells (pre++us0++post).toArray t (0,0))∧us0.length=cs.length∧w'.heap[b]? =some (.cells (pre++us++post).toArray t' (0,0))∧bP w' J cs y us bt
 | .v _ _,_,_,bs=>bs=[]
 | .r _,_,_,bs=>bs=[]
 | .cl _ _,_,_,bs=>bs=[]
 | .c _ _,_,_,bs=>bs=[]
def vV(w w':World)(J:Nat→Prop):(ins:List bF)→ah.V (dV ins)→List Value→List Nat→Prop
 | [],_,vs,bs=>vs=[]∧bs=[]
 |p::r,y,vs,bs=>∃ v t b1 b2,vs=v::t∧bs=b1++b2∧Q5 w w' J p (splitV p.io (dV r) y).1 v b1∧vV w w' J r (splitV p.io (dV r) y).2 t b2
def rH:List Value→Value
 | [v]=>v
 |vs=> .tuple vs.toArray
def Bo:Bool→World→World→List Nat→List Value→Ending→Prop
 |false,_,_,_,vs,e=>e= .returned (rH vs)
 |true,w,w',bs,vs,e=>∃ (b:Nat) (pr us po:List Value) (t:TypeId),vs=[.agg us.toArray]∧e= .returned (.pointer (some ⟨b,pr.length,none⟩))∧w'.heap[b]? =some (.cells (pr++us++po).toArray t (0,0))∧w.heap.size≤b∧b∉bs
theorem ac8:∀ {outs:List (Bool×List CT)} {us vs:List Value},pY outs us vs→l7 outs=false∧vM outs=outs
 |outs,us,vs,h=>by
  unfold l7 vM
  split
  ·obtain⟨_,b,_,rest,_,_,_,_,h⟩:=h
   obtain⟨a,_,_,_,_,hl,_,hg,_⟩:=h
   have:a=[_]:=hg
   rw[this]at hl
   simp at hl
  ·exact⟨rfl,rfl⟩
def aF(Dr:Kn)(P:Program)(f:FuncId)(S:aG):Prop:=
 (∀ args w,(callFunc f args).run P w= .ok (.enter f args) w)∧
 ∀ (w:World) (T:List Nat) (J:Nat→Prop) (x:ah.V (cO S.ins)) (y:ah.V (dI S.outs++dV S.ins)) (vals avals:List Value),
  (∀ b,J b→b<w.heap.size∧b∉T)→T.Nodup→Dr.tab J w→jP (fun b=>b<w.heap.size∧b∉T) J w S.ins x vals T→S.F x=some y→yA S.pack vals avals→
  Calls P f avals.toArray w fun e w'=>aO Dr w.heap.size T w w'∧∃ us vs bs bs',Bo (l7 S.outs) w w' (bs++bs') vs e∧bP w' J (dI S.outs) (splitV (dI S.outs) (dV S.ins) y).1 us bs∧pY (vM S.outs) us vs∧
   vV w w' J S.ins (splitV (dI S.outs) (dV S.ins) y).2 vals bs'∧(bs++bs').Nodup∧∀ b∈bs++bs',b∈T∨w.heap.size≤b
theorem uX:∀ (cs ds:List CT) (x:ah.V cs) (y:ah.V ds),splitV cs ds (lI cs ds x y)=(x,y)
 | [],ds,x,y=>rfl
 |c::cs,ds,x,y=>by
  simp only[lI,splitV]
  rw[uX cs ds x.2 y]
  rfl
theorem adZ{e:List CT}{q:Nat}{y:List (ah.V e)}(h:sK ob (.sl e) (.own q)=some y):∃ e' xs,ob[q]? =some (.arr e' xs)∧fB e' e xs=some y:=by
 have h':(match ob[q]? with |some (.arr e' xs)=>fB e' e xs |_=>none)=some y:=h
 clear h
 split at h'
 ·rename_i e' xs hq
  exact⟨e',xs,hq,h'⟩
 ·cases h'
theorem Nz{e:List CT}{q:Nat}{y:List (ah.V e)}(h:xW ob (.sl e) (.own q)=some y):∃ e' xs,ob[q]? =some (.arr e' xs)∧fB e' e xs=some y:=by
 have h':(match ob[q]? with |some (.arr e' xs)=>fB e' e xs |_=>none)=some y:=h
 clear h
 split at h'
 ·rename_i e' xs hq
  exact⟨e',xs,hq,h'⟩
 ·cases h'
theorem adY{e:List CT}{q sz off len:Nat}{y:List (ah.V e)}(h:sK ob (.sl e) (.ref q sz off len)=some y):∃ e' xs,ob[q]? =some (.arr e' xs)∧off+len≤xs.length∧fB e' e ((xs.drop off).take len)=some y:=by
 have h':(match ob[q]? with |some (.arr e' xs)=>if off+len≤xs.length then fB e' e ((xs.drop off).take len)else none |_=>none)=some y:=h
 clear h
 split at h'
 ·rename_i e' xs hq
  split at h'
  ·rename_i hol
   exact⟨e',xs,hq,hol,h'⟩
  ·cases h'
 ·cases h'
theorem aev{X:Cx Dr}{g:Gh}{w:World}(s:aJ X g ob w){I':Nat→Prop}(hI:∀ b,X.I b→I' b){c:CT}{p:PV}{y:c.V}{u:Value}(hro:∀ o∈bI p,aI g ob o→I' (g.A o))(h:sK ob c p=some y)(hr:au g ob.length X.I w p u):
  yc I' g.J w c y u:=by
 have old:∀ {c:CT} {y:c.V},CT.nS c p=some y→aZ I' w c y u:=fun h=>aZ.keep hI (fun _ _=>rfl) _ _ _ (xQ s.jI h hr)
 have fromSl:∀ {e:List CT} {ys:List (ah.V e)} (q:Nat) (e':List CT) (xs:List (ah.V e')),q∈bI p→ob[q]? =some (.arr e' xs)→mg X.I w e ys u→(∀ a c n,u= .slice (some a) n c→n≠0→a.block=g.A q)→(ys.length=0∨aI g ob q)→aZ I' w (.sl e) ys u:=by
  intro e ys q e' xs hq hob hs hblk hb
  obtain⟨a,cap,k1,k2,k3⟩:=hs
  simp only[aZ]
  refine⟨a,cap,k1,k2, ?_⟩
  by_cases h0:ys.length=0
  ·exact Or.inl h0
  rcases k3 with k3 | ⟨ad,rfl,k5⟩
  ·exact Or.inl k3
  ·refine Or.inr ⟨ad,rfl, ?_,fun i x hx=>bH.keep hI (fun _ _=>rfl) _ _ _ rfl (k5 i x hx)⟩
   rw[hblk ad cap _ k1 h0]
   rcases hb with hb |hb
   ·exact absurd hb h0
   ·exact hro q hq hb
 cases c with
 |int k=>
  have h':CT.nS (.int k) p=some y:=by cases p <;>exact h
  exact old h'
 |bool=>
  have h':CT.nS .bool p=some y:=by cases p <;>exact h
  exact old h'
 |str=>
  have h':CT.nS .str p=some y:=by cases p <;>exact h
  exact old h'
 |sl e=>
  cases p with
  |own q=>
   have hsl:=AX s (e:=e) (v:= .own q) h hr
   obtain⟨e',xs,hq,h'⟩:=adZ h
   simp only[au]at hr
   have hlen:=pO h' (fun e ys=>ys.length=xs.length) rfl
   obtain⟨k1,k2,kp,h3⟩:=s.arr q e' xs hq
   refine fromSl q e' xs (by simp[bI]) hq hsl ?_ ?_
   ·intro a c n hu hn
    rw[hr.2.1]at hu
    rcases h3 with h3 | ⟨_,cap,us,t',h3,_⟩
    ·obtain⟨a',ha'⟩:=h3.2
     rw[ha']at hu
     simp only[Value.slice.injEq]at hu
     omega
    ·rw[h3]at hu
     simp only[Value.slice.injEq,Option.some.injEq]at hu
     rw[←hu.1]
   ·rcases h3 with h3 | ⟨hne,_⟩
    ·exact Or.inl (by rw[hlen,h3.1];rfl)
    ·exact Or.inr (Or.inr ⟨_,_,hq,hne⟩)
  |ref q sz off len=>
   have hsl:=AX s (e:=e) (v:= .ref q sz off len) h hr
   obtain⟨e',xs,hq,hol,h'⟩:=adY h
   simp only[au]at hr
   obtain⟨_,hsz,aq,l,c,a',c',hH,hu,hlc,h4⟩:=hr
   have hlen:=pO h' (fun e ys=>ys.length=len) (by simp;omega)
   obtain⟨k1,k2,kp,h3⟩:=s.arr q e' xs hq
   refine fromSl q e' xs (by simp[bI]) hq hsl ?_ ?_
   ·intro a c n hu' hn
    rw[hu]at hu'
    simp only[Value.slice.injEq]at hu'
    rcases h4 with h4 | ⟨ad,had,ha'⟩
    ·omega
    ·rcases h3 with h3 | ⟨_,cap,us,t',h3,_⟩
     ·have:xs.length=0:=by rw[h3.1];rfl
      omega
     ·rw[h3,had]at hH
      simp only[Value.slice.injEq,Option.some.injEq]at hH
      rw[ha']at hu'
      have:=Option.some.inj hu'.1
      rw[←this,rf, ←hH.1]
   ·rcases h3 with h3 | ⟨hne,_⟩
    ·have:xs.length=0:=by rw[h3.1];rfl
     exact Or.inl (by rw[hlen];omega)
    ·exact Or.inr (Or.inr ⟨_,_,hq,hne⟩)
  |_=>exact old h
 |sh e=>
  cases p with
  |sh e' xs=>
   have h':fB e' e xs=some y:=h
   simp only[au]at hr
   exact pO h' (fun e ys=>aZ g.J w (.sl e) ys u) hr
  |_=>cases h
theorem Fp{X:Cx Dr}{g:Gh}{w:World}(s:aJ X g ob w){I':Nat→Prop}(hI:∀ b,X.I b→I' b):∀ (cs:List CT) (ps:List PV) (x:ah.V cs) (us:List Value),(∀ o∈aX ps,aI g ob o→I' (g.A o))→jc ob cs ps=some x→aB g ob.length X.I w ps us→iW I' g.J w cs x us
 | [],[],x,us,_,h,hr=>by simpa [aB,iW]using hr
 | [],_::_,x,us,_,h,hr=>by simp[jc]at h
 |_::_,[],x,us,_,h,hr=>by simp[jc]at h
 |c::cs,p::ps,x,us,hro,h,hr=>by
  simp only[jc]at h
  split at h
  ·rename_i y z h1 h2
   have:=Option.some.inj h
   subst this
   simp only[aB]at hr
   obtain⟨u,t,rfl,k1,k2⟩:=hr
   simp only[iW]
   exact⟨u,t,rfl,aev s hI (fun o ho=>hro o (by simp[aX,ho])) h1 k1,Fp s hI cs ps z t (fun o ho=>hro o (by simp[aX,ho])) h2 k2⟩
  ·cases h
theorem Eu{I I':Nat→Prop}{w:World}:∀ (e:List CT) (x:ah.V e) (a:Addr),e.all CT.scalar=true→bH I w e x a→bH I' w e x a
 | [],_,_,_,_=>by simp[bH]
 |c::cs,x,a,h,hr=>by
  simp only[List.all_cons,Bool.and_eq_true]at h
  simp only[bH]at hr ⊢
  obtain⟨⟨u,hu,hc⟩,hr⟩:=hr
  refine⟨⟨u,hu, ?_⟩,Eu cs x.2 _ h.2 hr⟩
  cases c with
  |sl e=>simp[CT.scalar]at h
  |sh e=>simp[CT.scalar]at h
  |_=>simpa [aZ]using hc
theorem xU{X:Cx Dr}{g:Gh}{w:World}(s:aJ X g ob w):∀ (cs:List CT) (ps:List PV) (y:ah.V cs) (us:List Value),cs.all CT.flat=true→(aX ps).Nodup→fP ob cs ps=some y→aB g ob.length X.I w ps us→
  ∃ bs,bP w g.J cs y us bs∧bs.Nodup∧∀ b∈bs,∃ o∈aX ps,aI g ob o∧b=g.A o
 | [],[],y,us,_,_,h,hr=>by
  simp only[aB]at hr
  exact⟨[],by simp[bP,hr],List.nodup_nil,by simp⟩
 | [],_::_,y,us,_,_,h,hr=>by simp[fP]at h
 |_::_,[],y,us,_,_,h,hr=>by simp[fP]at h
 |c::cs,p::ps,y,us,hf,hn,h,hr=>by
  simp only[List.all_cons,Bool.and_eq_true]at hf
  simp only[fP]at h
  split at h <;>try (cases h;done)
  rename_i y1 y2 h1 h2
  have:=Option.some.inj h
  subst this
  simp only[aB]at hr
  obtain⟨u,t,rfl,hu,ht⟩:=hr
  simp only[aX]at hn ⊢
  have hn2:=List.nodup_append.1 hn
  obtain⟨bs,k1,k2,k3⟩:=xU s cs ps y2 t hf.2 hn2.2.1 h2 ht
  have k3':∀ b∈bs,∃ o∈bI p++aX ps,aI g ob o∧b=g.A o:=fun b hb=>by
   obtain⟨o,ho,hk⟩:=k3 b hb
   exact⟨o,List.mem_append.2 (Or.inr ho),hk⟩
  cases c with
  |sl e=>
   cases p with
   |own q=>
    obtain⟨e',xs,hq,h'⟩:=Nz h1
    obtain⟨he,hy⟩:=EU h'
    subst he
    subst hy
    simp only[au]at hu
    obtain⟨_,hu1,_⟩:=hu
    obtain⟨_,_,_,ka⟩:=s.arr q e' _ hq
    rcases ka with ka | ⟨hne,cap,cells,te,n1,n2,n2',n3,n4,n5,n6⟩
    ·exact⟨bs,by simp only[bP];exact⟨u,t,rfl,Or.inl ⟨ka.1,by rw[hu1];exact ka.2,k1⟩⟩,k2,k3'⟩
    ·have hbk:aI g ob q:=Or.inr ⟨_,_,hq,hne⟩
     refine⟨g.A q::bs, ?_, ?_, ?_⟩
     ·simp only[bP]
      exact⟨u,t,rfl,Or.inr ⟨g.A q,bs,rfl,⟨by rw[hu1];exact hne,cap,cells,te,by rw[hu1,n1],n2,n2',n3,n4,fun i x hx=>Eu _ _ _ hf.1 (n5 i x hx)⟩,k1⟩⟩
     ·refine List.nodup_cons.2 ⟨fun hm=> ?_,k2⟩
      obtain⟨o,ho,hob,hA⟩:=k3 _ hm
      have:=s.inj q o hbk hob hA
      subst this
      exact hn2.2.2 _ (by simp[bI]) _ ho rfl
     ·intro b hb'
      rcases List.mem_cons.1 hb' with rfl |hb'
      ·exact⟨q,by simp[bI],hbk,rfl⟩
      ·exact k3' b hb'
   |nils=>
    have h3:some ([]:List (ah.V e))=some y1:=h1
    have:=Option.some.inj h3
    subst this
    simp only[au]at hu
    exact⟨bs,⟨u,t,rfl,Or.inl ⟨rfl,⟨none,hu⟩,k1⟩⟩,k2,k3'⟩
   |emp=>
    have h3:some ([]:List (ah.V e))=some y1:=h1
    have:=Option.some.inj h3
    subst this
    simp only[au]at hu
    exact⟨bs,⟨u,t,rfl,Or.inl ⟨rfl,hu,k1⟩⟩,k2,k3'⟩
   |_=>cases h1
  |sh e=>
   cases p with
   |sh e' xs=>
    have h':fB e' e xs=some y1:=h1
    simp only[au]at hu
    refine⟨bs, ?_,k2,k3'⟩
    simp only[bP]
    exact⟨u,t,rfl,pO h' (fun e ys=>aZ g.J w (.sl e) ys u) hu,k1⟩
   |_=>cases h1
  |int k=>
   have h3:CT.nS (.int k) p=some y1:=by cases p <;>exact h1
   have:=xQ s.jI h3 hu
   exact⟨bs,by simp only[bP];exact⟨u,t,rfl,by simpa [aZ]using this,k1⟩,k2,k3'⟩
  |bool=>
   have h3:CT.nS .bool p=some y1:=by cases p <;>exact h1
   have:=xQ s.jI h3 hu
   exact⟨bs,by simp only[bP];exact⟨u,t,rfl,by simpa [aZ]using this,k1⟩,k2,k3'⟩
  |str=>
   have h3:CT.nS .str p=some y1:=by cases p <;>exact h1
   have:=xQ s.jI h3 hu
   exact⟨bs,by simp only[bP];exact⟨u,t,rfl,by simpa [aZ]using this,k1⟩,k2,k3'⟩
theorem Fv{g:Gh}{n:Nat}{I:Nat→Prop}{w:World}{b:Bool}{cs:List CT}{v:PV}{u:Value}{vs:List PV}(h:au g n I w v u)(hs:lH b cs v=true)(hf:flat v=some vs):∃ us,aB g n I w vs us∧jQ b us u∧us.length=cs.length:=by
 obtain⟨us,m1,m2⟩:=vG h hf
 have hl:=jv _ _ m2
 refine⟨us,m2, ?_⟩
 cases v <;>simp only[Rv.flat,Option.some.injEq]at hf <;>(try (simp[lH]at hs;done)) <;>(try (cases hf;done))
 case agg ws=>
  subst hf
  simp only[lH,Bool.and_eq_true,beq_iff_eq]at hs
  simp only[au]at h
  obtain⟨us',rfl,_⟩:=h
  have:us'=us:=by simpa [Value.cells]using m1
  subst this
  obtain⟨rfl,hs2⟩:=hs
  exact⟨rfl,by rw[hl];exact hs2⟩
 all_goals
  subst hf
  simp only[lH,Bool.and_eq_true,beq_iff_eq,Bool.not_eq_true']at hs
  obtain⟨rfl,hs2⟩:=hs
  simp only[aB]at m2
  obtain⟨u',t',rfl,hu',rfl⟩:=m2
  have hone:u.cells= #[u]:=by
   have:=Xb h rfl
   cases u <;>first |rfl |simp[Value.oneCell']at this
  rw[hone]at m1
  have:u=u':=by simpa using m1
  subst this
  exact⟨rfl,by simp[hs2]⟩
end Go.Rv
set_option linter.unusedVariables false
set_option linter.unusedSimpArgs false
namespace Go.Rv
open Go.RowKit
variable {Dr:Kn}
variable {R:Type} {P:Program} {tbl:dW} {env:Env} {ob:List Ob} {o:Oper} {K:PV→List Ob→Option R} {r:R}
theorem aJ.slot{X:Cx Dr}{g g':Gh}{w:World}(s:aJ X g ob w)(hJ:g'.J=g.J)(ha:∀ o,o<ob.length→Agree g g' o):aJ X g' (ob++[Ob.dead]) w∧Keep g ob.length X.I w g' (ob++[Ob.dead]).length w:=by
 have hk:Keep g ob.length X.I w g' (ob++[Ob.dead]).length w:=⟨by simp,ha,hJ,s.jI,fun _ _=>rfl⟩
 have old:∀ (o:Nat) (Z:Ob),(ob++[Ob.dead])[o]? =some Z→Z= .dead∨(o<ob.length∧ob[o]? =some Z):=fun o Z h=>by
  rcases Nat.lt_trichotomy o ob.length with h1 |h1 |h1
  ·rw[List.getElem?_append_left h1]at h;exact Or.inr ⟨h1,h⟩
  ·subst h1;simp at h;exact Or.inl h.symm
  ·rw[List.getElem?_eq_none (by simp;omega)]at h;simp at h
 have blk:∀ o,aI g' (ob++[Ob.dead]) o→o<ob.length∧aI g ob o:=fun o h=>by
  rcases h with ⟨cells,h⟩ | ⟨e,xs,h,hn⟩
  ·rcases old o _ h with h1 | ⟨h1,h2⟩
   ·cases h1
   ·exact⟨h1,Or.inl ⟨_,h2⟩⟩
  ·rcases old o _ h with h1 | ⟨h1,h2⟩
   ·cases h1
   ·rw[(ha o h1).H]at hn
    exact⟨h1,Or.inr ⟨_,_,h2,hn⟩⟩
 refine⟨⟨fun o cells h=> ?_,fun o e xs h=> ?_,fun o o' h h' e=> ?_,fun o h=> ?_,s.bnd,by rw[hJ];exact s.jI,s.upd,s.bsz,by have:=s.nle;simp;omega,fun o ho=>(s.kept o ho).trans (ha o (by have:=s.nle;omega)),by rw[hJ];exact s.keptJ⟩,hk⟩
 ·rcases old o _ h with h1 | ⟨h1,h2⟩
  ·cases h1
  ·obtain⟨us,t,k1,k2,k3,k4,k5⟩:=s.box o cells h2
   have ag:=ha o h1
   exact⟨us,t,by rw[ag.A,ag.pre,ag.post];exact k1,aB.keep hk _ _ k2,by rw[ag.A];exact k3,by rw[ag.S];exact k4,by rw[ag.L];exact k5⟩
 ·rcases old o _ h with h1 | ⟨h1,h2⟩
  ·cases h1
  ·obtain⟨k1,k2,kp,k3⟩:=s.arr o e xs h2
   have ag:=ha o h1
   refine⟨by rw[ag.S];exact k1,by rw[ag.L];exact k2,by rw[ag.pre];exact kp, ?_⟩
   unfold sV at*
   rw[ag.A,ag.H]
   exact k3
 ·obtain⟨h1,h2⟩:=blk o h
  obtain⟨h3,h4⟩:=blk o' h'
  rw[(ha o h1).A,(ha o' h3).A]at e
  exact s.inj o o' h2 h4 e
 ·obtain⟨h1,h2⟩:=blk o h
  rw[(ha o h1).A]
  exact s.base o h2
theorem aJ.Fe{X:Cx Dr}{g:Gh}{w:World}(s:aJ X g ob w){q:Nat}(hq:ob[q]? =some .dead)(Y:Ob)
  (hbox:∀ cells,Y= .box cells→∃ us t,w.heap[g.A q]? =some (.cells (g.pre q++us++g.post q).toArray t (0,0))∧aB g ob.length X.I w cells us∧¬ X.I (g.A q)∧g.S q=0∧g.L q=1)
  (harr:∀ e xs,Y= .arr e xs→g.S q=e.length∧g.L q=xs.length∧g.pre q=[]∧sV g X.I w q e xs)
  (hb:(∃ cells,Y= .box cells)∨(∃ e xs,Y= .arr e xs∧¬ gK (g.H q))→(X.B≤g.A q∨g.A q∈X.T)∧∀ o,aI g ob o→g.A o≠g.A q):
  aJ X g (ob.set q Y) w:=by
 have blk:∀ o,aI g (ob.set q Y) o→(o=q∧((∃ cells,Y= .box cells)∨(∃ e xs,Y= .arr e xs∧¬ gK (g.H q))))∨(o≠q∧aI g ob o):=fun o h=>by
  rcases h with ⟨cells,h⟩ | ⟨e,xs,h,hn⟩
  ·rcases lF h with ⟨h1,h2⟩ | ⟨h1,h2⟩
   ·exact Or.inl ⟨h1,Or.inl ⟨_,h2.symm⟩⟩
   ·exact Or.inr ⟨h1,Or.inl ⟨_,h2⟩⟩
  ·rcases lF h with ⟨h1,h2⟩ | ⟨h1,h2⟩
   ·subst h1;exact Or.inl ⟨rfl,Or.inr ⟨_,_,h2.symm,hn⟩⟩
   ·exact Or.inr ⟨h1,Or.inr ⟨_,_,h2,hn⟩⟩
 refine⟨fun o cells h=> ?_,fun o e xs h=> ?_,fun o o' h h' e=> ?_,fun o h=> ?_,s.bnd,s.jI,s.upd,s.bsz,by simpa using s.nle,s.kept,s.keptJ⟩
 ·rw[List.length_set]
  rcases lF h with ⟨h1,h2⟩ | ⟨h1,h2⟩
  ·subst h1;exact hbox _ h2.symm
  ·exact s.box o cells h2
 ·rcases lF h with ⟨h1,h2⟩ | ⟨h1,h2⟩
  ·subst h1;exact harr _ _ h2.symm
  ·exact s.arr o e xs h2
 ·rcases blk o h with ⟨h1,h2⟩ | ⟨h1,h2⟩ <;>rcases blk o' h' with ⟨h3,h4⟩ | ⟨h3,h4⟩
  ·rw[h1,h3]
  ·rw[h1]at e;exact absurd e.symm ((hb h2).2 o' h4)
  ·rw[h3]at e;exact absurd e ((hb h4).2 o h2)
  ·exact s.inj o o' h2 h4 e
 ·rcases blk o h with ⟨h1,h2⟩ | ⟨h1,h2⟩
  ·rw[h1];exact(hb h2).1
  ·exact s.base o h2
theorem afL{g:Gh}{n:Nat}{I:Nat→Prop}{w:World}{c:CT}{x:c.V}{u:Value}(h:yc I g.J w c x u):au g n I w (c.tH x) u:=by
 cases c <;>simpa [CT.tH,au,aZ,yc]using h
theorem Xy{I:Nat→Prop}{w:World}{h:Value}{b:Nat}{e:List CT}{xs:List (ah.V e)}(ho:OwnAt w h b e xs)(hI:¬ I b):
  ¬ gK h∧∃ cap us t,h= .slice (some ⟨b,0,none⟩) xs.length cap∧xs.length≤cap∧cap≤maxLen∧w.heap[b]? =some (.cells us t (0,0))∧us.size=cap*e.length∧(∀ i x,xs[i]? =some x→bH I w e x ⟨b,i*e.length,none⟩)∧¬ I b:=by
 obtain⟨h0,cap,us,t,h1,h2,h3,h4,h5,h6⟩:=ho
 exact⟨h0,cap,us,t,h1,h2,h3,h4,h5,fun i x hx=>bH.keep (fun _ h=>h.elim) (fun _ h=>h.elim) _ _ _ rfl (h6 i x hx),hI⟩
theorem qF{X:Cx Dr}{w:World}{J:Nat→Prop}:∀ (cs:List CT) (y:ah.V cs) (us:List Value) (bs:List Nat) (g:Gh) (ob:List Ob),bP w J cs y us bs→g.J=J→bs.Nodup→
  (∀ b∈bs,(X.B≤b∨b∈X.T)∧¬ X.I b∧∀ o,aI g ob o→g.A o≠b)→aJ X g ob w→
  ∃ g',aJ X g' (ob++(bn cs y ob.length).2) w∧Keep g ob.length X.I w g' (ob++(bn cs y ob.length).2).length w∧aB g' (ob++(bn cs y ob.length).2).length X.I w (bn cs y ob.length).1 us∧
   ∀ o,aI g' (ob++(bn cs y ob.length).2) o→(o<ob.length∧aI g ob o)∨g'.A o∈bs
 | [],y,us,bs,g,ob,h,hJ,hn,hd,s=>by
  simp only[bP]at h
  obtain⟨rfl,rfl⟩:=h
  exact⟨g,by simpa [bn]using s,by simpa [bn]using s.refl,by simp[bn,aB],fun o ho=>by simp[bn]at ho;exact Or.inl ⟨ho.lt,ho⟩⟩
 | .sl e::cs,y,us,bs,g,ob,h,hJ,hn,hd,s=>by
  simp only[bP]at h
  obtain⟨hd',t,rfl,h⟩:=h
  have step:∀ (b0:Nat) (g1:Gh),aJ X g1 (ob++[Ob.arr e y.1]) w→Keep g ob.length X.I w g1 (ob++[Ob.arr e y.1]).length w→(g1.H ob.length=hd')→(∃ a l c,hd'= .slice a l c)→
    (∀ o,aI g1 (ob++[Ob.arr e y.1]) o→(o<ob.length∧aI g ob o)∨g1.A o=b0)→∀ bt,(∀ b∈bt,b∈bs)→(b0∈bs∨∀ o,aI g1 (ob++[Ob.arr e y.1]) o→o<ob.length∧aI g ob o)→bP w J cs y.2 t bt→bt.Nodup→(∀ b∈bt,∀ o,aI g1 (ob++[Ob.arr e y.1]) o→g1.A o≠b)→
    ∃ g',aJ X g' (ob++(bn (.sl e::cs) y ob.length).2) w∧Keep g ob.length X.I w g' (ob++(bn (.sl e::cs) y ob.length).2).length w∧aB g' (ob++(bn (.sl e::cs) y ob.length).2).length X.I w (bn (.sl e::cs) y ob.length).1 (hd'::t)∧
     ∀ o,aI g' (ob++(bn (.sl e::cs) y ob.length).2) o→(o<ob.length∧aI g ob o)∨g'.A o∈bs:=by
   intro b0 g1 s1 k1 hH hsl hblk1 bt hsub hb0 ho hnb hdb
   obtain⟨g2,s2,k2,r2,n2⟩:=qF cs y.2 t bt g1 (ob++[Ob.arr e y.1]) ho (by rw[k1.J,hJ]) hnb (fun b hb=>⟨(hd b (hsub b hb)).1,(hd b (hsub b hb)).2.1,hdb b hb⟩) s1
   have e1:(ob++[Ob.arr e y.1]).length=ob.length+1:=by simp
   rw[e1]at s2 k2 r2 n2
   have e2:ob++[Ob.arr e y.1]++(bn cs y.2 (ob.length+1)).2=ob++(bn (.sl e::cs) y ob.length).2:=by simp[bn]
   rw[e2]at s2 k2 r2 n2
   rw[e1]at k1
   refine⟨g2,s2,k1.trans k2, ?_,fun o ho=> ?_⟩
   ·have e3:(bn (.sl e::cs) y ob.length).1= .own ob.length::(bn cs y.2 (ob.length+1)).1:=by simp[bn]
    rw[e3]
    simp only[aB]
    refine⟨hd',t,rfl, ?_,r2⟩
    simp only[au]
    exact⟨Nat.lt_of_lt_of_le (Nat.lt_succ_self _) k2.le,by rw[(k2.agr _ (Nat.lt_succ_self _)).H,hH],hsl⟩
   ·rcases n2 o ho with ⟨h1,h2⟩ |h1
    ·rcases hb0 with hb0 |hb0
     ·rcases hblk1 o h2 with h3 |h3
      ·exact Or.inl h3
      ·right;rw[(k2.agr o h1).A,h3];exact hb0
     ·exact Or.inl (hb0 o h2)
    ·exact Or.inr (hsub _ h1)
  rcases h with ⟨hx,hemp,ho⟩ | ⟨b,bt,rfl,hown,ho⟩
  ·have hnew:∀ o,aI (g.push ob.length 0 hd' 0 e.length) (ob++[Ob.arr e y.1]) o→o<ob.length∧aI g ob o:=by
    rintro o (⟨cells,h⟩ | ⟨e',xs,h,hne⟩)
    ·rcases Nat.lt_trichotomy o ob.length with h1 |h1 |h1
     ·rw[List.getElem?_append_left h1]at h
      exact⟨h1,Or.inl ⟨_,h⟩⟩
     ·subst h1;simp at h
     ·rw[List.getElem?_eq_none (by simp;omega)]at h;simp at h
    ·rcases Nat.lt_trichotomy o ob.length with h1 |h1 |h1
     ·rw[List.getElem?_append_left h1]at h
      simp only[Gh.push,Gh.dA,if_neg (Nat.ne_of_lt h1)]at hne
      exact⟨h1,Or.inr ⟨_,_,h,hne⟩⟩
     ·subst h1;simp[Gh.push,Gh.dA]at hne;exact absurd hemp hne
     ·rw[List.getElem?_eq_none (by simp;omega)]at h;simp at h
   obtain⟨a0,ha0⟩:=hemp
   refine step 0 (g.push ob.length 0 hd' 0 e.length) (s.add _ 0 _ _ _ (fun _ h=>by cases h) ?_ ?_) (by simpa using Keep.push s.jI) (by simp[Gh.push,Gh.dA]) ⟨_,_,_,ha0⟩ (fun o ho=>Or.inl (hnew o ho)) bs (fun _ h=>h) (Or.inr hnew) ho hn ?_
   ·intro e' xs hx'
    cases hx'
    exact⟨rfl,by rw[show y.1=[]from hx];rfl,Or.inl ⟨hx,⟨a0,ha0⟩⟩⟩
   ·rintro(⟨_,h⟩ | ⟨_,_,_,h⟩)
    ·cases h
    ·exact absurd ⟨a0,ha0⟩ h
   ·intro b hb o ho
    obtain⟨h1,h2⟩:=hnew o ho
    rw[(NU (Nat.ne_of_lt h1)).A]
    exact(hd b hb).2.2 o h2
  ·obtain⟨hb1,hb2,hb3⟩:=hd b (by simp)
   have hrow:=Xy (I:=X.I) hown hb2
   have hbt:=List.nodup_cons.1 hn
   obtain⟨hne,cap,cells,te,o1,o2,o2',o3,o4,o5,o6⟩:=hrow
   have hcase:∀ o,aI (g.push ob.length b hd' (lst e y.1).length e.length) (ob++[Ob.arr e y.1]) o→(o<ob.length∧aI g ob o)∨(g.push ob.length b hd' (lst e y.1).length e.length).A o=b:=by
    intro o h
    have hlt:o<ob.length∨o=ob.length:=by have:=h.lt;simp at this;omega
    rcases hlt with h1 |h1
    ·left
     refine⟨h1, ?_⟩
     rcases h with ⟨c',h⟩ | ⟨e',xs,h,hne⟩
     ·rw[List.getElem?_append_left h1]at h;exact Or.inl ⟨_,h⟩
     ·rw[List.getElem?_append_left h1]at h
      simp only[Gh.push,Gh.dA,if_neg (Nat.ne_of_lt h1)]at hne
      exact Or.inr ⟨_,_,h,hne⟩
    ·right;subst h1;simp[Gh.push,Gh.dA]
   refine step b (g.push ob.length b hd' (lst e y.1).length e.length) (s.add _ b _ _ _ (fun _ h=>by cases h) ?_ ?_) (by simpa using Keep.push s.jI) (by simp[Gh.push,Gh.dA]) ⟨_,_,_,o1⟩ hcase bt (fun _ h=>List.mem_cons_of_mem _ h) (Or.inl (by simp)) ho hbt.2 ?_
   ·intro e' xs hx'
    cases hx'
    exact⟨rfl,rfl,Or.inr ⟨hne,cap,cells,te,o1,o2,o2',o3,o4,o5,o6⟩⟩
   ·intro _
    exact⟨hb1,hb3⟩
   ·intro b' hb' o ho
    rcases hcase o ho with ⟨h1,h2⟩ |h1
    ·rw[(NU (Nat.ne_of_lt h1)).A]
     exact(hd b' (List.mem_cons_of_mem _ hb')).2.2 o h2
    ·rw[h1]
     intro e'
     exact hbt.1 (e'▸hb')
 | .sh e::cs,y,us,bs,g,ob,h,hJ,hn,hd,s=>by
  simp only[bP]at h
  obtain⟨u,t,rfl,hr,ho⟩:=h
  obtain⟨g',s',k',r',n'⟩:=qF cs y.2 t bs g ob ho hJ hn hd s
  refine⟨g',s',k', ?_,n'⟩
  simp only[bn,aB]
  exact⟨u,t,rfl,by simp only[CT.tH,au];rw[k'.J,hJ];exact hr,r'⟩
 | .int k::cs,y,us,bs,g,ob,h,hJ,hn,hd,s=>by
  simp only[bP]at h
  obtain⟨u,t,rfl,hr,ho⟩:=h
  obtain⟨g',s',k',r',n'⟩:=qF cs y.2 t bs g ob ho hJ hn hd s
  refine⟨g',s',k', ?_,n'⟩
  simp only[bn,aB]
  exact⟨u,t,rfl,by simpa [CT.tH,au,aZ]using hr,r'⟩
 | .bool::cs,y,us,bs,g,ob,h,hJ,hn,hd,s=>by
  simp only[bP]at h
  obtain⟨u,t,rfl,hr,ho⟩:=h
  obtain⟨g',s',k',r',n'⟩:=qF cs y.2 t bs g ob ho hJ hn hd s
  refine⟨g',s',k', ?_,n'⟩
  simp only[bn,aB]
  exact⟨u,t,rfl,by simpa [CT.tH,au,aZ]using hr,r'⟩
 | .str::cs,y,us,bs,g,ob,h,hJ,hn,hd,s=>by
  simp only[bP]at h
  obtain⟨u,t,rfl,hr,ho⟩:=h
  obtain⟨g',s',k',r',n'⟩:=qF cs y.2 t bs g ob ho hJ hn hd s
  refine⟨g',s',k', ?_,n'⟩
  simp only[bn,aB]
  exact⟨u,t,rfl,by simpa [CT.tH,au,aZ]using hr,r'⟩
theorem Vj{g:Gh}{n:Nat}{I:Nat→Prop}{w:World}:∀ (outs:List (Bool×List CT)) (ps:List PV) (us vs:List Value) (res:List PV),aB g n I w ps us→pY outs us vs→xR outs ps=some res→aB g n I w res vs
 | [],ps,us,vs,res,h,hg,hr=>by
  simp only[pY]at hg
  simp only[xR,Option.some.injEq]at hr
  subst hr
  simp[aB,hg.2]
 | (b,cs)::r,ps,us,vs,res,h,hg,hr=>by
  simp only[pY]at hg
  obtain⟨a,c,v,rest,rfl,hl,rfl,hv,hg⟩:=hg
  simp only[xR]at hr
  have hd:=uZ _ _ cs.length h
  have ht:=uY _ _ cs.length h
  rw[←hl,List.drop_left]at hd
  rw[←hl,List.take_left]at ht
  rw[←hl]at hr
  split at hr
  ·rename_i rest' hrr
   have ih:=Vj r _ _ rest rest' hd hg hrr
   split at hr
   ·obtain rfl:=Option.some.inj hr
    simp only[aB]
    exact⟨v,rest,rfl,by simp only[au];exact⟨_,hv,ht⟩,ih⟩
   ·rename_i pv hp
    obtain rfl:=Option.some.inj hr
    rw[hp]at ht
    simp only[aB]at ht
    obtain⟨u,t,h1,h2,h3⟩:=ht
    have hv':a=[v]:=hv
    rw[hv']at h1
    simp only[List.cons.injEq]at h1
    simp only[aB]
    exact⟨v,rest,rfl,by rw[h1.1];exact h2,ih⟩
   ·cases hr
  ·cases hr
theorem adL{g:Gh}{n:Nat}{I:Nat→Prop}{w:World}(res:List PV)(vs:List Value)(h:aB g n I w res vs):au g n I w (EO res) (rH vs):=by
 match res,vs,h with
 | [],vs,h=>
  simp only[aB]at h
  subst h
  simp only[EO,rH,au]
  exact⟨[],rfl,by simp[aB]⟩
 | [p],vs,h=>
  simp only[aB]at h
  obtain⟨u,t,rfl,h1,rfl⟩:=h
  exact h1
 |p::q::r,vs,h=>
  have h':=h
  simp only[aB]at h
  obtain⟨u,t,rfl,h1,u2,t2,rfl,h2,h3⟩:=h
  simp only[EO,rH,au]
  exact⟨_,rfl,h'⟩
end Go.Rv
set_option linter.unusedVariables false
set_option linter.unusedSimpArgs false
namespace Go.Rv
open Go.RowKit
variable {Dr:Kn}
variable {R:Type} {P:Program} {tbl:dW} {env:Env} {ob:List Ob} {o:Oper} {K:PV→List Ob→Option R} {r:R}
theorem XP:∀ (a b:List PV),aX (a++b)=aX a++aX b
 | [],b=>rfl
 |v::r,b=>by simp[aX,XP r b]
theorem AO{v:PV}{vs:List PV}(h:flat v=some vs):aX vs=bI v:=by
 cases v <;>simp only[flat,Option.some.injEq]at h <;>(try (cases h;done)) <;>subst h <;>simp[bI,aX]
theorem Nq{I J:Nat→Prop}{w:World}(hJ:∀ b,J b→I b):∀ (cs:List CT) (x:ah.V cs) (us:List Value) (ad:Addr),iW I J w cs x us→(∀ i u,us[i]? =some u→w.cell? (ad.add i)=some u)→bH I w cs x ad
 | [],x,us,ad,h,hc=>by simp[bH]
 |c::cs,x,us,ad,h,hc=>by
  simp only[iW]at h
  obtain⟨u,t,rfl,h1,h2⟩:=h
  simp only[bH]
  refine⟨⟨u,by simpa [Addr.add]using hc 0 u rfl, ?_⟩,Nq hJ cs x.2 t _ h2 fun i z hz=>by
   have:=hc (i+1) z (by simpa using hz)
   rw[kT,Nat.add_comm];exact this⟩
  cases c with
  |sh e=>
   have:=aZ.keep hJ (fun _ _=>rfl) _ _ _ h1
   simpa only[aZ]using this
  |_=>exact h1
theorem Vy{X:Cx Dr}{g:Gh}{w:World}(s:aJ X g ob w){n:Nat}{v:PV}{u:Value}{cells:List PV}(h:lG ob n v=some cells)(hr:au g ob.length X.I w v u):
  ∃ ad us,u= .pointer (some ad)∧aB g ob.length X.I w cells us∧us.length=n∧(∀ i z,us[i]? =some z→w.cell? (ad.add i)=some z)∧(X.I ad.block∨∃ q∈bI v,aI g ob q∧ad.block=g.A q):=by
 cases v with
 |ptr q i sz j=>
  have h':(match ob[q]? with |some (.box cells)=>if i=0∧j+n≤cells.length then some ((cells.drop j).take n)else none |_=>none)=some cells:=h
  clear h
  split at h'<;>try (cases h';done)
  rename_i cs hq
  split at h'<;>try (cases h';done)
  rename_i hc
  obtain⟨hi,hb⟩:=hc
  obtain rfl:=Option.some.inj h'
  obtain⟨us,t,h1,h2,h3⟩:=Bl (N:=0) s hq hi hr
  have hlen:=jv _ _ h3
  refine⟨_,(us.drop j).take n,h1,uY _ _ _ (uZ _ _ _ h3),by simp;omega,fun k z hz=> ?_,Or.inr ⟨q,by simp[bI],Or.inl ⟨_,hq⟩,rfl⟩⟩
  rw[dR]
  have hk:k<n:=by
   rcases Nat.lt_or_ge k n with h |h
   ·exact h
   ·rw[List.getElem?_eq_none (by simp;omega)]at hz;simp at hz
  rw[List.getElem?_take_of_lt hk,List.getElem?_drop]at hz
  rw[Nat.add_assoc]
  exact AU (X:=X) h2 hz
 |eptr e x j=>
  have h':tu e x j n=some cells:=h
  simp only[au]at hr
  obtain⟨ad,h1,h2,h3⟩:=hr
  obtain⟨us,m1,m2,m3⟩:=EY e _ _ h3 n j cells h'
  exact⟨_,us,h1,m2 _ _,m1,fun k z hz=>by rw[kT];exact m3 k z hz,Or.inl (by rw[rf];exact h2)⟩
 |_=>cases h
theorem VZ{X:Cx Dr}{g:Gh}{w:World}(s:aJ X g ob w){I':Nat→Prop}(hI:∀ b,X.I b→I' b):∀ (caps:List (List CT)) (ps:List PV) (us:List Value) (cells:List PV) (x:ah.V (lM caps)),qU ob caps ps=some cells→aB g ob.length X.I w ps us→
  (∀ o∈aX ps++aX cells,aI g ob o→I' (g.A o))→jc ob (lM caps) cells=some x→rZ I' w caps x us
 | [],[],us,cells,x,h,hr,hro,hx=>by
  simp only[aB]at hr
  simp[rZ,hr]
 | [],_::_,us,cells,x,h,hr,hro,hx=>by simp[qU]at h
 |_::_,[],us,cells,x,h,hr,hro,hx=>by simp[qU]at h
 |cs::r,v::vs,us,cells,x,h,hr,hro,hx=>by
  simp only[qU]at h
  split at h <;>try (cases h;done)
  rename_i c1 c2 h1 h2
  obtain rfl:=Option.some.inj h
  simp only[aB]at hr
  obtain⟨u,t,rfl,r1,r2⟩:=hr
  obtain⟨ad,us1,k1,k2,k3,k4,k5⟩:=Vy s h1 r1
  have hlc:c1.length=cs.length:=by rw[←jv _ _ k2,k3]
  have inV_app:∀ (as bs:List CT) (p q:List PV) (z:ah.V (as++bs)),p.length=as.length→jc ob (as++bs) (p++q)=some z→jc ob as p=some (splitV as bs z).1∧jc ob bs q=some (splitV as bs z).2:=by
   intro as
   induction as with
   |nil=>
    intro bs p q z hl hz
    have:p=[]:=List.eq_nil_of_length_eq_zero hl
    subst this
    exact⟨rfl,hz⟩
   |cons c as ih=>
    intro bs p q z hl hz
    cases p with
    |nil=>simp at hl
    |cons p0 p=>
     have hz':jc ob (c::(as++bs)) (p0::(p++q))=some z:=hz
     simp only[jc]at hz'
     split at hz'<;>try (cases hz';done)
     rename_i y ys e1 e2
     obtain rfl:=Option.some.inj hz'
     obtain⟨k1,k2⟩:=ih bs p q ys (by simpa using hl) e2
     refine⟨?_,k2⟩
     simp only[jc,e1,k1]
     rfl
  obtain⟨x1,x2⟩:=inV_app cs (lM r) c1 c2 x hlc hx
  simp only[aX,XP]at hro
  have hc:=Fp s hI cs c1 _ us1 (fun o ho=>hro o (by simp[ho])) x1 k2
  simp only[rZ]
  refine⟨ad,t,by rw[k1], ?_,Nq (fun b hb=>hI b (s.jI b hb)) cs _ us1 ad hc k4,VZ s hI r vs t c2 _ h2 r2 (fun o ho=>hro o ?_) x2⟩
  ·rcases k5 with k5 | ⟨q,hq,hb,he⟩
   ·exact hI _ k5
   ·rw[he];exact hro q (by simp[hq]) hb
  ·rcases List.mem_append.1 ho with ho |ho <;>simp[ho]
theorem agO{X:Cx Dr}{g:Gh}{w:World}(s:aJ X g ob w)(p:bF)(v:PV)(x:ah.V p.cells)(u:Value)(hok:p.ok=true)(h:yV ob p v=some x)(hr:au g ob.length X.I w v u)(hnd:(jL ob p v).Nodup):
  ∃ bs,bs.Nodup∧(∀ b∈bs,∃ o∈jL ob p v,aI g ob o∧b=g.A o)∧∀ I',(∀ b,X.I b→I' b)→(∀ o∈YC ob p v,aI g ob o→I' (g.A o))→BP I' g.J w p x u bs:=by
 have ownCase:∀ (b:Bool) (cs:List CT) (x:ah.V cs),cs.all CT.flat=true→(bI v).Nodup→(if lH b cs v=true then(flat v).bind (fP ob cs)else none)=some x→
   ∃ bs,bs.Nodup∧(∀ b∈bs,∃ o∈bI v,aI g ob o∧b=g.A o)∧∃ us,bP w g.J cs x us bs∧jQ b us u:=by
  intro b cs x hf hnd h
  split at h <;>try (cases h;done)
  rename_i hsh
  obtain⟨vs,h1,h2⟩:=Option.bind_eq_some_iff.1 h
  obtain⟨us,k1,k2,k3⟩:=Fv hr hsh h1
  have hids:=AO h1
  obtain⟨bs,m1,m2,m3⟩:=xU s cs vs x us hf (by rw[hids];exact hnd) h2 k1
  rw[hids]at m3
  exact⟨bs,m2,m3,us,m1,k2⟩
 cases p with
 |v b cs=>
  have h':(if lH b cs v=true then(flat v).bind (jc ob cs)else none)=some x:=h
  clear h
  split at h'<;>try (cases h';done)
  rename_i hsh
  obtain⟨vs,h1,h2⟩:=Option.bind_eq_some_iff.1 h'
  obtain⟨us,k1,k2,k3⟩:=Fv hr hsh h1
  refine⟨[],List.nodup_nil,by simp,fun I' hI hro=>⟨us,Fp s hI cs vs x us (fun o ho=>hro o (by rw[AO h1]at ho;exact ho)) h2 k1,k2,rfl⟩⟩
 |r cs=>
  have h':(lG ob cs.length v).bind (jc ob cs)=some x:=h
  clear h
  obtain⟨vs,h1,h2⟩:=Option.bind_eq_some_iff.1 h'
  obtain⟨ad,us,k1,k2,k3,k4,k5⟩:=Vy s h1 hr
  refine⟨[],List.nodup_nil,by simp,fun I' hI hro=>⟨ad,k1, ?_, ?_,rfl⟩⟩
  ·rcases k5 with k5 | ⟨q,hq,hb,he⟩
   ·exact hI _ k5
   ·rw[he];exact hro q (List.mem_append.2 (Or.inl hq)) hb
  ·exact Nq (fun b hb=>hI b (s.jI b hb)) cs x us ad (Fp s hI cs vs x us (fun o ho=>hro o (List.mem_append.2 (Or.inr (by rw[h1];exact ho)))) h2 k2) k4
 |cl f caps=>
  cases v with
  |fn f' ps=>
   have h':(if f=f' then(qU ob caps ps).bind (jc ob (lM caps))else none)=some x:=h
   clear h
   split at h'<;>try (cases h';done)
   rename_i hf
   subst hf
   obtain⟨vs,h1,h2⟩:=Option.bind_eq_some_iff.1 h'
   simp only[au]at hr
   obtain⟨us,k1,k2⟩:=hr
   refine⟨[],List.nodup_nil,by simp,fun I' hI hro=>⟨us,k1,VZ s hI caps ps us vs x h1 k2 (fun o ho=>hro o ?_) h2,rfl⟩⟩
   show o∈aX ps++aX ((qU ob caps ps).getD [])
   rw[h1]
   exact ho
  |_=>cases h
 |w b cs=>
  obtain⟨bs,k1,k2,us,k3,k4⟩:=ownCase b cs x hok hnd h
  exact⟨bs,k1,k2,fun _ _ _=>⟨us,k3,k4⟩⟩
 |c b cs=>
  obtain⟨bs,k1,k2,us,k3,k4⟩:=ownCase b cs x hok hnd h
  exact⟨bs,k1,k2,fun _ _ _=>⟨us,k3,k4⟩⟩
 |m cs=>
  cases v with
  |ptr q i sz j=>
   have h':(lG ob cs.length (.ptr q i sz j)).bind (fP ob cs)=some x:=h
   clear h
   obtain⟨vs,h1,h2⟩:=Option.bind_eq_some_iff.1 h'
   have h1':(match ob[q]? with |some (.box cells)=>if i=0∧j+cs.length≤cells.length then some ((cells.drop j).take cs.length)else none |_=>none)=some vs:=h1
   split at h1'<;>try (cases h1';done)
   rename_i cells hq
   split at h1'<;>try (cases h1';done)
   rename_i hc
   obtain⟨hi,hb⟩:=hc
   obtain rfl:=Option.some.inj h1'
   obtain⟨us,t,m1,m2,m3⟩:=Bl (N:=0) s hq hi hr
   have hlen:=jv _ _ m3
   have hnd':(q::aX ((cells.drop j).take cs.length)).Nodup:=by
    have:jL ob (.m cs) (.ptr q i sz j)=q::aX ((cells.drop j).take cs.length):=by
     show q::aX ((lG ob cs.length (.ptr q i sz j)).getD [])=_
     rw[h1];rfl
    rw[this]at hnd
    exact hnd
   have hio:jL ob (.m cs) (.ptr q i sz j)=q::aX ((cells.drop j).take cs.length):=by
    show q::aX ((lG ob cs.length (.ptr q i sz j)).getD [])=_
    rw[h1];rfl
   have hnd2:=List.nodup_cons.1 hnd'
   obtain⟨bs,n1,n2,n3⟩:=xU s cs _ x _ hok hnd2.2 h2 (uY _ _ cs.length (uZ _ _ j m3))
   have hbq:aI g ob q:=Or.inl ⟨_,hq⟩
   refine⟨g.A q::bs,List.nodup_cons.2 ⟨fun hm=> ?_,n2⟩,fun b hb'=> ?_,fun I' hI hro=> ?_⟩
   ·obtain⟨o,ho,hob,hA⟩:=n3 _ hm
    have:=s.inj q o hbq hob hA
    subst this
    exact hnd2.1 ho
   ·rw[hio]
    rcases List.mem_cons.1 hb' with rfl |hb'
    ·exact⟨q,by simp,hbq,rfl⟩
    ·obtain⟨o,ho,hk⟩:=n3 b hb'
     exact⟨o,List.mem_cons_of_mem _ ho,hk⟩
   ·refine⟨g.A q,g.pre q++us.take j,(us.drop j).take cs.length,us.drop (j+cs.length)++g.post q,t,bs,rfl, ?_, ?_,n1⟩
    ·rw[m1]
     congr 2
     simp;omega
    ·rw[m2]
     have:us=us.take j++(us.drop j).take cs.length++us.drop (j+cs.length):=by
      rw[List.append_assoc, ←List.drop_drop,List.take_append_drop,List.take_append_drop]
     conv=>lhs;rw[this]
     simp only[List.append_assoc]
  |_=>cases h
theorem WM{X:Cx Dr}{g:Gh}{w:World}(s:aJ X g ob w):∀ (ins:List bF) (ps:List PV) (x:ah.V (cO ins)) (us:List Value),ins.all bF.ok=true→jM ob ins ps=some x→aB g ob.length X.I w ps us→(fD ob ins ps).Nodup→
  ∃ bs,bs.Nodup∧(∀ b∈bs,∃ o∈fD ob ins ps,aI g ob o∧b=g.A o)∧∀ I',(∀ b,X.I b→I' b)→(∀ o∈Bz ob ins ps,aI g ob o→I' (g.A o))→jP I' g.J w ins x us bs
 | [],[],x,us,hok,h,hr,hnd=>by
  simp only[aB]at hr
  exact⟨[],List.nodup_nil,by simp,fun _ _ _=>⟨hr,rfl⟩⟩
 | [],_::_,x,us,hok,h,hr,hnd=>by simp[jM]at h
 |_::_,[],x,us,hok,h,hr,hnd=>by simp[jM]at h
 |p::r,v::vs,x,us,hok,h,hr,hnd=>by
  simp only[jM]at h
  split at h <;>try (cases h;done)
  rename_i a b h1 h2
  obtain rfl:=Option.some.inj h
  simp only[aB]at hr
  obtain⟨u,t,rfl,r1,r2⟩:=hr
  simp only[List.all_cons,Bool.and_eq_true]at hok
  simp only[fD]at hnd ⊢
  simp only[Bz]
  have hn2:=List.nodup_append.1 hnd
  obtain⟨b1,k1,k2,k3⟩:=agO s p v a u hok.1 h1 r1 hn2.1
  obtain⟨b2,m1,m2,m3⟩:=WM s r vs b t hok.2 h2 r2 hn2.2.1
  refine⟨b1++b2,List.nodup_append.2 ⟨k1,m1,fun a1 ha1 a2 ha2 e=> ?_⟩,fun z hz=> ?_,fun I' hI hro=> ?_⟩
  ·obtain⟨o1,p1,q1,e1⟩:=k2 a1 ha1
   obtain⟨o2,p2,q2,e2⟩:=m2 a2 ha2
   have:=s.inj o1 o2 q1 q2 (by rw[←e1, ←e2,e])
   exact hn2.2.2 _ p1 _ p2 this
  ·rcases List.mem_append.1 hz with hz |hz
   ·obtain⟨o,ho,hk⟩:=k2 z hz
    exact⟨o,List.mem_append.2 (Or.inl ho),hk⟩
   ·obtain⟨o,ho,hk⟩:=m2 z hz
    exact⟨o,List.mem_append.2 (Or.inr ho),hk⟩
  ·simp only[jP,uX]
   exact⟨u,t,b1,b2,rfl,rfl,k3 I' hI fun o ho=>hro o (List.mem_append.2 (Or.inl ho)),m3 I' hI fun o ho=>hro o (List.mem_append.2 (Or.inr ho))⟩
end Go.Rv
set_option linter.unusedVariables false
set_option linter.unusedSimpArgs false
namespace Go.Rv
open Go.RowKit
variable {Dr:Kn}
variable {R:Type} {P:Program} {tbl:dW} {env:Env} {ob:List Ob} {o:Oper} {K:PV→List Ob→Option R} {r:R}
theorem Vm{e:List CT}{v:PV}{y:List (ah.V e)}(h:xW ob (.sl e) v=some y):(∃ q,v= .own q)∨v= .nils∨v= .emp:=by
 cases v with
 |own q=>exact Or.inl ⟨q,rfl⟩
 |nils=>exact Or.inr (Or.inl rfl)
 |emp=>exact Or.inr (Or.inr rfl)
 |_=>cases h
theorem VQ{c:CT}{cs:List CT}{p:PV}{ps:List PV}{y:ah.V (c::cs)}(h:fP ob (c::cs) (p::ps)=some y):xW ob c p=some y.1∧fP ob cs ps=some y.2:=by
 simp only[fP]at h
 split at h <;>try (cases h;done)
 rename_i y1 y2 h1 h2
 obtain rfl:=Option.some.inj h
 exact⟨h1,h2⟩
theorem zN{c:CT}{p:PV}{y:c.V}(h:xW ob c p=some y)(hc:∀ e,c≠ .sl e):bI p=[]:=by
 cases c with
 |sl e=>exact absurd rfl (hc e)
 |sh e=>cases p <;>first |rfl |cases h
 |_=>cases p <;>first |rfl |cases h
theorem Oc{X:Cx Dr}{g0 gc:Gh}{ob0:List Ob}{w w':World}(s0:aJ X g0 ob0 w)(ha:∀ o,o<ob0.length→Agree g0 gc o):∀ (cs:List CT) (x0 y:ah.V cs) (vs:List PV) (us:List Value) (bs:List Nat) (obc:List Ob),aJ X gc obc w'→
  aB g0 ob0.length X.I w vs us→fP ob0 cs vs=some x0→bP w' g0.J cs y us bs→(aX vs).Nodup→(∀ o∈aX vs,obc[o]? =some .dead)→bs.Nodup→(∀ b∈bs,(X.B≤b∨b∈X.T)∧¬ X.I b∧∀ o,aI gc obc o→gc.A o≠b)→
  aJ X gc (setRows cs y vs obc) w'∧(setRows cs y vs obc).length=obc.length∧(∀ o,aI gc (setRows cs y vs obc) o→aI gc obc o∨gc.A o∈bs)∧∀ o,o∉aX vs→(setRows cs y vs obc)[o]? =obc[o]?
 | [],x0,y,vs,us,bs,obc,s,hr,hx,ho,hnd,hdead,hbn,hb=>by
  have:setRows [] y vs obc=obc:=by cases vs <;>rfl
  rw[this]
  exact⟨s,rfl,fun o h=>Or.inl h,fun _ _=>rfl⟩
 |c::cs,x0,y,[],us,bs,obc,s,hr,hx,ho,hnd,hdead,hbn,hb=>by simp[fP]at hx
 |c::cs,x0,y,v::vs,us,bs,obc,s,hr,hx,ho,hnd,hdead,hbn,hb=>by
  obtain⟨hx1,hx2⟩:=VQ hx
  simp only[aB]at hr
  obtain⟨u,t,rfl,r1,r2⟩:=hr
  simp only[aX]at hnd hdead
  have hn2:=List.nodup_append.1 hnd
  have skip:bI v=[]→setRows (c::cs) y (v::vs) obc=setRows cs y.2 vs obc→∀ bs',(∀ b∈bs',b∈bs)→bP w' g0.J cs y.2 t bs'→bs'.Nodup→
    aJ X gc (setRows (c::cs) y (v::vs) obc) w'∧(setRows (c::cs) y (v::vs) obc).length=obc.length∧(∀ o,aI gc (setRows (c::cs) y (v::vs) obc) o→aI gc obc o∨gc.A o∈bs)∧∀ o,o∉aX (v::vs)→(setRows (c::cs) y (v::vs) obc)[o]? =obc[o]? :=by
   intro hi hset bs' hsub ho' hn'
   rw[hset]
   obtain⟨k1,k2,k3,k4⟩:=Oc s0 ha cs x0.2 y.2 vs t bs' obc s r2 hx2 ho' hn2.2.1 (fun o ho=>hdead o (by simp[ho])) hn' (fun b hb'=>hb b (hsub b hb'))
   refine⟨k1,k2,fun o h=> ?_,fun o h=>k4 o (fun hm=>h (by simp[aX,hm]))⟩
   rcases k3 o h with h |h
   ·exact Or.inl h
   ·exact Or.inr (hsub _ h)
  cases c with
  |sl e=>
   simp only[bP]at ho
   obtain⟨hd,t',e1,ho⟩:=ho
   simp only[List.cons.injEq]at e1
   obtain⟨rfl,rfl⟩:=e1
   rcases Vm hx1 with ⟨q,rfl⟩ |rfl |rfl
   ·obtain⟨e',xs0,hq,hcast⟩:=Nz hx1
    obtain⟨he,_⟩:=EU hcast
    subst he
    obtain⟨a1,a2,a3,a4⟩:=s0.arr q e' xs0 hq
    have hql:q<ob0.length:=(List.getElem?_eq_some_iff.1 hq).1
    have ag:=ha q hql
    simp only[au]at r1
    obtain⟨_,r1,_⟩:=r1
    have hqd:obc[q]? =some .dead:=hdead q (by simp[bI])
    have hset:setRows (.sl e'::cs) y (.own q::vs) obc=setRows cs y.2 vs (obc.set q (.arr e' y.1)):=rfl
    have one:∀ bt,(∀ b∈bt,b∈bs)→bP w' g0.J cs y.2 t bt→bt.Nodup→aJ X gc (obc.set q (.arr e' y.1)) w'→(∀ o,aI gc (obc.set q (.arr e' y.1)) o→aI gc obc o∨(gc.A o∈bs∧gc.A o∉bt))→
      aJ X gc (setRows (.sl e'::cs) y (.own q::vs) obc) w'∧(setRows (.sl e'::cs) y (.own q::vs) obc).length=obc.length∧(∀ o,aI gc (setRows (.sl e'::cs) y (.own q::vs) obc) o→aI gc obc o∨gc.A o∈bs)∧∀ o,o∉aX (.own q::vs)→(setRows (.sl e'::cs) y (.own q::vs) obc)[o]? =obc[o]? :=by
     intro bt hsub ho' hn' s1 hblk
     rw[hset]
     obtain⟨k1,k2,k3,k4⟩:=Oc s0 ha cs x0.2 y.2 vs t bt (obc.set q (.arr e' y.1)) s1 r2 hx2 ho' hn2.2.1 (fun o ho=>by
      rw[List.getElem?_set_ne (fun e=>hn2.2.2 q (by simp[bI]) o ho e)]
      exact hdead o (by simp[ho])) hn' (fun b hb'=>⟨(hb b (hsub b hb')).1,(hb b (hsub b hb')).2.1,fun o ho e=>by
       rcases hblk o ho with h |h
       ·exact(hb b (hsub b hb')).2.2 o h e
       ·exact h.2 (by rw[e];exact hb')⟩)
     refine⟨k1,by rw[k2];simp,fun o h=> ?_,fun o h=> ?_⟩
     ·rcases k3 o h with h |h
      ·rcases hblk o h with h |h
       ·exact Or.inl h
       ·exact Or.inr h.1
      ·exact Or.inr (hsub _ h)
     ·simp only[aX,bI,List.mem_append,List.mem_singleton,not_or]at h
      rw[k4 o h.2,List.getElem?_set_ne (Ne.symm h.1)]
    rcases ho with ⟨hy,hemp,ho⟩ | ⟨b,bt,rfl,hown,ho⟩
    ·have hL:xs0.length=0:=by
      rcases a4 with a4 | ⟨hne,_⟩
      ·rw[a4.1];rfl
      ·exact absurd (by rw[←r1];exact hemp) hne
     have hemp':gK (gc.H q):=by rw[ag.H, ←r1];exact hemp
     refine one bs (fun _ h=>h) ho hbn (s.Fe hqd _ (fun _ h=>by cases h) ?_ ?_) ?_
     ·intro e1 xs1 hh
      cases hh
      refine⟨by rw[ag.S];exact a1,by rw[ag.L,a2,hL];rw[show y.1=[]from hy];rfl,by rw[ag.pre];exact a3,Or.inl ⟨hy,hemp'⟩⟩
     ·rintro(⟨_,hh⟩ | ⟨_,_,_,hh⟩)
      ·cases hh
      ·exact absurd hemp' hh
     ·rintro o (⟨cells,hh⟩ | ⟨e1,xs1,hh,hn⟩)
      ·rcases lF hh with ⟨_,h2⟩ | ⟨_,h2⟩
       ·cases h2
       ·exact Or.inl (Or.inl ⟨_,h2⟩)
      ·rcases lF hh with ⟨h1,h2⟩ | ⟨_,h2⟩
       ·subst h1;exact absurd hemp' hn
       ·exact Or.inl (Or.inr ⟨_,_,h2,hn⟩)
    ·obtain⟨hb1,hb2,hb3⟩:=hb b (by simp)
     obtain⟨hne,cap,us',te,o1,o2,o2',o3,o4,o5,o6⟩:=Xy (I:=X.I) hown hb2
     have hbt:=List.nodup_cons.1 hbn
     rcases a4 with a4 | ⟨hne0,cap0,us0,t0,n1,n2,n2',n3,n4,n5,n6⟩
     ·exact absurd (by rw[r1];exact a4.2) hne
     rw[r1,n1]at o1
     simp only[Value.slice.injEq,Option.some.injEq,Addr.mk.injEq,and_true]at o1
     obtain⟨hA,hlen,hcap⟩:=o1
     have hlen':xs0.length=(lst e' y.1).length:=hlen
     have hAq:gc.A q=b:=by rw[ag.A];exact hA
     refine one bt (fun _ h=>List.mem_cons_of_mem _ h) ho hbt.2 (s.Fe hqd _ (fun _ h=>by cases h) ?_ ?_) ?_
     ·intro e1 xs1 hh
      cases hh
      refine⟨by rw[ag.S];exact a1,by rw[ag.L,a2];exact hlen',by rw[ag.pre];exact a3,Or.inr ⟨by rw[ag.H];exact hne0,cap,us',te, ?_,o2,o2',by rw[hAq];exact o3,o4,by rw[hAq];exact o5,by rw[hAq];exact o6⟩⟩
      rw[ag.H,n1,hAq,hA,hlen,hcap]
     ·intro _
      rw[hAq]
      exact⟨hb1,hb3⟩
     ·rintro o (⟨cells,hh⟩ | ⟨e1,xs1,hh,hn⟩)
      ·rcases lF hh with ⟨_,h2⟩ | ⟨_,h2⟩
       ·cases h2
       ·exact Or.inl (Or.inl ⟨_,h2⟩)
      ·rcases lF hh with ⟨h1,h2⟩ | ⟨_,h2⟩
       ·subst h1
        exact Or.inr ⟨by rw[hAq];simp,by rw[hAq];exact hbt.1⟩
       ·exact Or.inl (Or.inr ⟨_,_,h2,hn⟩)
   all_goals
    rcases ho with ⟨hy,hemp,ho⟩ | ⟨b,bt,rfl,hown,ho⟩
    ·exact skip rfl rfl bs (fun _ h=>h) ho hbn
    ·exact skip rfl rfl bt (fun _ h=>List.mem_cons_of_mem _ h) ho (List.nodup_cons.1 hbn).2
  |sh e=>
   simp only[bP]at ho
   obtain⟨u',t',e1,_,ho⟩:=ho
   simp only[List.cons.injEq]at e1
   obtain⟨rfl,rfl⟩:=e1
   have hi:=zN hx1 (fun e h=>by cases h)
   exact skip hi (by cases v <;>rfl) bs (fun _ h=>h) ho hbn
  |int k=>
   simp only[bP]at ho
   obtain⟨u',t',e1,_,ho⟩:=ho
   simp only[List.cons.injEq]at e1
   obtain⟨rfl,rfl⟩:=e1
   have hi:=zN hx1 (fun e h=>by cases h)
   exact skip hi (by cases v <;>rfl) bs (fun _ h=>h) ho hbn
  |bool=>
   simp only[bP]at ho
   obtain⟨u',t',e1,_,ho⟩:=ho
   simp only[List.cons.injEq]at e1
   obtain⟨rfl,rfl⟩:=e1
   have hi:=zN hx1 (fun e h=>by cases h)
   exact skip hi (by cases v <;>rfl) bs (fun _ h=>h) ho hbn
  |str=>
   simp only[bP]at ho
   obtain⟨u',t',e1,_,ho⟩:=ho
   simp only[List.cons.injEq]at e1
   obtain⟨rfl,rfl⟩:=e1
   have hi:=zN hx1 (fun e h=>by cases h)
   exact skip hi (by cases v <;>rfl) bs (fun _ h=>h) ho hbn
theorem af5{b:Bool}{us us':List Value}{v:Value}(h:jQ b us v)(h':jQ b us' v):us=us':=by
 cases b with
 |true=>
  have h1:v= .agg us.toArray:=h
  have h2:v= .agg us'.toArray:=h'
  rw[h1]at h2
  simpa using h2
 |false=>
  have h1:us=[v]:=h
  have h2:us'=[v]:=h'
  rw[h1,h2]
theorem ahg{X:Cx Dr}{g0 gc:Gh}{ob0 obc:List Ob}{w w':World}(s0:aJ X g0 ob0 w)(hw:∀ b,X.I b→w'.heap[b]? =w.heap[b]?)(hJ:gc.J=g0.J)(hle:ob0.length≤obc.length)(ha:∀ o,o<ob0.length→Agree g0 gc o)(s:aJ X gc obc w')(p:bF)(v:PV)(x:ah.V p.cells)(y:ah.V p.io)(u:Value)(bs:List Nat)(ob':List Ob)
  (hin:yV ob0 p v=some x) (hr:au g0 ob0.length X.I w v u) (hio:Q5 w w' g0.J p y u bs) (hnd:(jL ob0 p v).Nodup) (hdead:∀ o∈jL ob0 p v,obc[o]? =some .dead) (hbn:bs.Nodup)
  (hb:∀ b∈bs,(X.B≤b∨b∈X.T)∧¬ X.I b∧∀ o,aI gc obc o→gc.A o≠b) (h:yU ob0 p v y obc=some ob'):
  ∃ g',aJ X g' ob' w'∧Keep gc obc.length X.I w' g' ob'.length w'∧(∀ o,aI g' ob' o→(o<obc.length∧aI gc obc o)∨g'.A o∈bs)∧∀ o,o<obc.length→o∉jL ob0 p v→ob'[o]? =obc[o]? :=by
 have same:obc=ob'→∃ g',aJ X g' ob' w'∧Keep gc obc.length X.I w' g' ob'.length w'∧(∀ o,aI g' ob' o→(o<obc.length∧aI gc obc o)∨g'.A o∈bs)∧∀ o,o<obc.length→o∉jL ob0 p v→ob'[o]? =obc[o]? :=by
  intro e
  subst e
  exact⟨gc,s,s.refl,fun o ho=>Or.inl ⟨ho.lt,ho⟩,fun _ _ _=>rfl⟩
 cases p with
 |v b cs=>exact same (Option.some.inj h)
 |r cs=>exact same (Option.some.inj h)
 |cl f caps=>exact same (Option.some.inj (by cases v <;>exact h))
 |c b cs=>exact same (Option.some.inj h)
 |w b cs=>
  have h1:(flat v).map (fun vs=>setRows cs y vs obc)=some ob':=h
  obtain⟨vs,hf,rfl⟩:=Option.map_eq_some_iff.1 h1
  have h2:(if lH b cs v=true then(flat v).bind (fP ob0 cs)else none)=some x:=hin
  split at h2 <;>try (cases h2;done)
  rename_i hsh
  rw[hf]at h2
  have hx0:fP ob0 cs vs=some x:=h2
  obtain⟨us,k1,k2,k3⟩:=Fv hr hsh hf
  obtain⟨us',m1,m2⟩:=hio
  obtain rfl:=af5 k2 m1
  have hids:jL ob0 (.w b cs) v=aX vs:=by rw[AO hf];rfl
  rw[hids]at hnd hdead ⊢
  obtain⟨n1,n2,n3,n4⟩:=Oc s0 ha cs x y vs us bs obc s k1 hx0 m2 hnd hdead hbn hb
  refine⟨gc,n1,by rw[n2];exact s.refl,fun o ho=> ?_,fun o _ ho=>n4 o ho⟩
  rcases n3 o ho with h |h
  ·exact Or.inl ⟨h.lt,h⟩
  ·exact Or.inr h
 |m cs=>
  cases v with
  |ptr q i sz j=>
   have h1:(match ob0[q]? with |some (.box cells)=>some ((obc++(bn cs y obc.length).2).set q (.box (qj cells j (bn cs y obc.length).1))) |_=>none)=some ob':=h
   have h2:(lG ob0 cs.length (.ptr q i sz j)).bind (fP ob0 cs)=some x:=hin
   obtain⟨vs,hc1,hc2⟩:=Option.bind_eq_some_iff.1 h2
   have hc1':(match ob0[q]? with |some (.box cells)=>if i=0∧j+cs.length≤cells.length then some ((cells.drop j).take cs.length)else none |_=>none)=some vs:=hc1
   have hid:jL ob0 (.m cs) (.ptr q i sz j)=q::aX vs:=by
    show q::aX ((lG ob0 cs.length (.ptr q i sz j)).getD [])=_
    rw[hc1];rfl
   rw[hid]at hnd hdead ⊢
   split at hc1'<;>try (cases hc1';done)
   rename_i cells hq
   split at hc1'<;>try (cases hc1';done)
   rename_i hc
   obtain⟨hi,hbnd⟩:=hc
   obtain rfl:=Option.some.inj hc1'
   rw[hq]at h1
   obtain rfl:=Option.some.inj h1
   obtain⟨us,t,m1,m2,m3⟩:=Bl (N:=0) s0 hq hi hr
   obtain⟨_,_,_,_,mI,mS,mL⟩:=s0.box q cells hq
   have hlen:=jv _ _ m3
   obtain⟨b,pre,us0,us',post,t1,t2,bt,rfl,p1,p2,p3,p4,p5⟩:=hio
   rw[m1]at p1
   simp only[Value.pointer.injEq,Option.some.injEq,Addr.mk.injEq,and_true]at p1
   obtain⟨hA,hpre⟩:=p1
   subst hA
   rw[m2]at p2
   simp only[Option.some.injEq,Obj.cells.injEq,and_true]at p2
   obtain⟨p2,rfl⟩:=p2
   have p2':g0.pre q++us++g0.post q=pre++us0++post:=by simpa using congrArg Array.toList p2
   have hus':us'.length=cs.length:=rU _ _ _ _ p5
   have hsplit:pre=g0.pre q++us.take j∧post=us.drop (j+cs.length)++g0.post q:=by
    have e1:=congrArg (List.take pre.length) p2'
    have e2:=congrArg (List.drop (pre.length+us0.length)) p2'
    rw[List.append_assoc pre,List.take_left]at e1
    rw[show pre++us0++post=(pre++us0)++post from rfl,show pre.length+us0.length=(pre++us0).length by simp,List.drop_left]at e2
    rw[←hpre,List.append_assoc,List.take_length_add_append,List.take_append_of_le_length (by omega)]at e1
    rw[List.length_append, ←hpre,p3,Nat.add_assoc,List.append_assoc,List.drop_length_add_append,List.drop_append_of_le_length (by omega)]at e2
    exact⟨e1.symm,e2.symm⟩
   have hbt:=List.nodup_cons.1 hbn
   obtain⟨g',s',k',r',n'⟩:=qF cs y us' bt gc obc p5 hJ hbt.2 (fun b' hb'=>hb b' (List.mem_cons_of_mem _ hb')) s
   have hql:q<ob0.length:=(List.getElem?_eq_some_iff.1 hq).1
   have ag:Agree g0 g' q:=(ha q hql).trans (k'.agr q (by omega))
   have hqd:(obc++(bn cs y obc.length).2)[q]? =some .dead:=by
    rw[List.getElem?_append_left (by omega)]
    exact hdead q (by simp)
   have hbq:=hb (g0.A q) (by simp)
   have hk0:Keep g0 ob0.length X.I w g' (obc++(bn cs y obc.length).2).length w':=⟨Nat.le_trans hle k'.le,fun o ho=>(ha o ho).trans (k'.agr o (by omega)),by rw[k'.J,hJ],s0.jI,hw⟩
   have hblk':∀ o,aI g' (obc++(bn cs y obc.length).2) o→g'.A o≠g0.A q:=by
    intro o ho e
    rcases n' o ho with ⟨h1,h2⟩ |h1
    ·rw[(k'.agr o h1).A]at e
     exact hbq.2.2 o h2 e
    ·rw[e]at h1
     exact hbt.1 h1
   have s2:=s'.Fe hqd (.box (qj cells j (bn cs y obc.length).1)) (by
    intro cells' hh
    cases hh
    refine⟨lK us j us',t2, ?_,Et _ _ _ _ _ r' (aB.keep hk0 _ _ m3),by rw[ag.A];exact mI,by rw[ag.S];exact mS,by rw[ag.L];exact mL⟩
    rw[ag.A,ag.pre,ag.post,p4,Pe _ _ _ (by omega),hsplit.1,hsplit.2,hus']
    simp only[List.append_assoc]) (by intro e xs hh;cases hh) (by
    intro _
    rw[ag.A]
    exact⟨hbq.1,hblk'⟩)
   refine⟨g',s2,⟨by rw[List.length_set];exact k'.le,k'.agr,k'.J,k'.jI,k'.heap⟩,fun o ho=> ?_,fun o hol ho=> ?_⟩
   ·have:o=q∨aI g' (obc++(bn cs y obc.length).2) o:=by
     rcases ho with ⟨cells',hh⟩ | ⟨e1,xs1,hh,hn⟩
     ·rcases lF hh with ⟨h1,_⟩ | ⟨_,h2⟩
      ·exact Or.inl h1
      ·exact Or.inr (Or.inl ⟨_,h2⟩)
     ·rcases lF hh with ⟨h1,_⟩ | ⟨_,h2⟩
      ·exact Or.inl h1
      ·exact Or.inr (Or.inr ⟨_,_,h2,hn⟩)
    rcases this with rfl |h
    ·right;rw[ag.A];simp
    ·rcases n' o h with h |h
     ·exact Or.inl h
     ·exact Or.inr (List.mem_cons_of_mem _ h)
   ·have hne:q≠o:=fun e=>ho (by simp[e])
    rw[List.getElem?_set_ne hne,List.getElem?_append_left hol]
  |_=>cases hin
theorem Yo{X:Cx Dr}{g0:Gh}{ob0:List Ob}{w w':World}(s0:aJ X g0 ob0 w)(hw:∀ b,X.I b→w'.heap[b]? =w.heap[b]?):∀ (ins:List bF) (ps:List PV) (x:ah.V (cO ins)) (y:ah.V (dV ins)) (us:List Value) (bs:List Nat) (gc:Gh) (obc ob':List Ob),gc.J=g0.J→ob0.length≤obc.length→(∀ o,o<ob0.length→Agree g0 gc o)→aJ X gc obc w'→
  jM ob0 ins ps=some x→aB g0 ob0.length X.I w ps us→vV w w' g0.J ins y us bs→(fD ob0 ins ps).Nodup→(∀ o∈fD ob0 ins ps,o<ob0.length∧obc[o]? =some .dead)→bs.Nodup→
  (∀ b∈bs,(X.B≤b∨b∈X.T)∧¬ X.I b∧∀ o,aI gc obc o→gc.A o≠b)→kP ob0 ins ps y obc=some ob'→
  ∃ g',aJ X g' ob' w'∧Keep gc obc.length X.I w' g' ob'.length w'
 | [],[],x,y,us,bs,gc,obc,ob',hJ,hle,ha,s,hin,hr,hio,hnd,hdead,hbn,hb,h=>by
  simp only[kP,Option.some.injEq]at h
  subst h
  exact⟨gc,s,s.refl⟩
 | [],_::_,x,y,us,bs,gc,obc,ob',hJ,hle,ha,s,hin,hr,hio,hnd,hdead,hbn,hb,h=>by simp[jM]at hin
 |_::_,[],x,y,us,bs,gc,obc,ob',hJ,hle,ha,s,hin,hr,hio,hnd,hdead,hbn,hb,h=>by simp[jM]at hin
 |p::r,v::vs,x,y,us,bs,gc,obc,ob',hJ,hle,ha,s,hin,hr,hio,hnd,hdead,hbn,hb,h=>by
  simp only[jM]at hin
  split at hin <;>try (cases hin;done)
  rename_i a b h1 h2
  simp only[aB]at hr
  obtain⟨u,t,rfl,r1,r2⟩:=hr
  simp only[vV]at hio
  obtain⟨u',t',b1,b2,e1,rfl,i1,i2⟩:=hio
  simp only[List.cons.injEq]at e1
  obtain⟨rfl,rfl⟩:=e1
  simp only[fD]at hnd hdead
  have hn2:=List.nodup_append.1 hnd
  have hbn2:=List.nodup_append.1 hbn
  simp only[kP]at h
  split at h <;>try (cases h;done)
  rename_i obm hm
  obtain⟨gm,sm,km,nm,om⟩:=ahg s0 hw hJ hle ha s p v a _ u b1 obm h1 r1 i1 hn2.1 (fun o ho=>(hdead o (by simp[ho])).2) hbn2.1 (fun b hb'=>hb b (by simp[hb'])) hm
  obtain⟨g',s',k'⟩:=Yo s0 hw r vs b _ t b2 gm obm ob' (by rw[km.J,hJ]) (Nat.le_trans hle km.le) (fun o ho=>(ha o ho).trans (km.agr o (by omega))) sm h2 r2 i2 hn2.2.1 (fun o ho=>by
   obtain⟨d1,d2⟩:=hdead o (by simp[ho])
   refine⟨d1, ?_⟩
   rw[om o (by omega) (fun hm=>hn2.2.2 o hm o ho rfl)]
   exact d2) hbn2.2.1 (fun b hb'=>⟨(hb b (by simp[hb'])).1,(hb b (by simp[hb'])).2.1,fun o ho e=>by
    rcases nm o ho with ⟨h1,h2⟩ |h1
    ·rw[(km.agr o h1).A]at e
     exact(hb b (by simp[hb'])).2.2 o h2 e
    ·rw[e]at h1
     exact hbn2.2.2 b h1 b hb' rfl⟩) h
  exact⟨g',s',km.trans k'⟩
end Go.Rv
set_option linter.unusedVariables false
set_option linter.unusedSimpArgs false
namespace Go.Rv
open Go.RowKit
variable {Dr:Kn}
variable {R:Type} {P:Program} {tbl:dW} {env:Env} {ob:List Ob} {o:Oper} {K:PV→List Ob→Option R} {r:R}
def nX(P:Program)(o:Oper)(a:Act)(w:World)(K:Value→World→Prop):Prop:=match (execOp a.eval o).run P w with
 | .ok (.value u) w'=>K u w'
 | .ok .skip w'=>K undef w'
 | .ok (.enter f args) w'=>Calls P f args w' fun e w''=>∃ v,e= .returned v∧K v w''
 |_=>False
theorem Az{a:Act}{w:World}{K K':Value→World→Prop}(h:∀ v w,K v w→K' v w)(hh:nX P o a w K):nX P o a w K':=by
 unfold nX at*
 generalize (execOp a.eval o).run P w=r at*
 cases r with
 |ok n w'=>
  cases n <;>first
   |exact h _ _ hh
   |exact hh.mono fun e w'' ⟨v,h1,h2⟩=>⟨v,h1,h _ _ h2⟩
   |exact hh
 |halt x w'=>exact hh
theorem Yl{a:Act}{w:World}{next:Act→World→Prop}{Q:Exit→Act→World→Prop}(hh:nX P o a w fun v w'=>next (a.put o.dst v) w'):o.wp P a w next Q:=by
 unfold nX at hh
 unfold Oper.wp
 generalize (execOp a.eval o).run P w=r at*
 cases r with
 |ok n w'=>
  cases n <;>simp only[Oper.upon] <;>first
   |exact hh
   |exact hh.mono fun e w'' ⟨v,h1,h2⟩=>by subst h1;exact h2
   |exact hh.elim
 |halt x w'=>exact hh.elim
def WV(Dr:Kn)(P:Program)(ob:List Ob)(env:Env)(o:Oper)(im:Bool)(pv:PV)(ob':List Ob):Prop:=
 (im=false→∃ new,ob'=ob++new)∧
 ∀ (X:Cx Dr) (N:Nat) (g:Gh) (w:World) (a:Act),aJ X g ob w→dB N g ob.length X.I w env a→
  nX P o a w fun v w'=>∃ g',((im=false→oK Dr g ob.length w g' ob' w')∧Only g ob w w'∧(rW o.op=false→jR g ob w g' ob'))∧aJ X g' ob' w'∧Keep g ob.length X.I w g' ob'.length w'∧au g' ob'.length X.I w' pv v
theorem EV.wv{im:Bool}{pv:PV}{ob':List Ob}(h:EV Dr P ob env o im pv ob'):WV Dr P ob env o im pv ob':=⟨h.1,fun X N g w a hs he=>by
 obtain⟨v,w',g',h1,hb,s',k',r'⟩:=h.2 X N g w a hs he
 unfold nX
 rcases h1 with h1 | ⟨h1,rfl⟩
 ·rw[h1];exact⟨g',⟨hb.1,hb.2.1,fun _=>hb.2.2⟩,s',k',r'⟩
 ·rw[h1];exact⟨g',⟨hb.1,hb.2.1,fun _=>hb.2.2⟩,s',k',r'⟩⟩
theorem QV.wv{pv:PV}(h:QV Dr P ob env o pv)(im:Bool):WV Dr P ob env o im pv ob:=⟨fun _=>⟨[],by simp⟩,fun X N g w a hs he=>by
 obtain⟨v,hv,h1⟩:=h X N g w a hs he
 unfold nX
 rw[h1 w (Go.RowKit.Below.refl _ _)]
 exact⟨g,⟨fun _=>⟨Below.refl _ _,fun o ho hb=>absurd hb.lt (by omega)⟩,fun _ _ _=>rfl,fun _=>jR.refl _ _ _⟩,hs,hs.refl,hv⟩⟩
theorem aeC{g:FuncId}(h:∀ args w,(callFunc g args).run P w= .ok (.enter g args) w){c:Call}{f:Operand}(hc:c.callee= .value f){a:Act}{us:Array Value}(hf:a.eval f= .func (.func g) #[] us)(hop:o.op= .call c)(w:World):
  (execOp a.eval o).run P w= .ok (.enter g (c.args.map a.eval++us)) w:=by
 simp only[execOp,hop,resolve,hc,hf,Deferred.ofValue]
 simp[invoke,h]
theorem OI(ob:List Ob):∀ (ins:List bF) (ps:List PV),ins.all bF.pure=true→fD ob ins ps=[]
 | [],ps,_=>by cases ps <;>rfl
 |p::r,[],_=>rfl
 |p::r,v::vs,h=>by
  simp only[List.all_cons,Bool.and_eq_true]at h
  simp only[fD,OI ob r vs h.2,List.append_nil]
  cases p <;>first |rfl | (simp[bF.pure]at h;done)
theorem Pn(ob0:List Ob):∀ (ins:List bF) (ps:List PV) (y:ah.V (dV ins)) (ob ob':List Ob),ins.all bF.pure=true→kP ob0 ins ps y ob=some ob'→ob'=ob
 | [],[],y,ob,ob',_,h=>(Option.some.inj h).symm
 | [],_::_,y,ob,ob',_,h=>by simp[kP]at h
 |_::_,[],y,ob,ob',_,h=>by simp[kP]at h
 |p::r,v::vs,y,ob,ob',hp,h=>by
  simp only[List.all_cons,Bool.and_eq_true]at hp
  simp only[kP]at h
  split at h <;>try (cases h;done)
  rename_i obm hm
  have:obm=ob:=by cases p <;>first | (simp[bF.pure]at hp;done) |exact(Option.some.inj hm).symm
  rw[this]at h
  exact Pn ob0 r vs _ ob ob' hp.2 h
theorem WI{X:Cx Dr}{g:Gh}{w:World}(s:aJ X g ob w):∀ (ins:List bF) (ps:List PV) (x:ah.V (cO ins)),jM ob ins ps=some x→∀ o∈fD ob ins ps,o<ob.length
 | [],[],x,h,o,ho=>by simp[fD]at ho
 | [],_::_,x,h,o,ho=>by simp[jM]at h
 |_::_,[],x,h,o,ho=>by simp[jM]at h
 |p::r,v::vs,x,h,o,ho=>by
  simp only[jM]at h
  split at h <;>try (cases h;done)
  rename_i a b h1 h2
  simp only[fD,List.mem_append]at ho
  rcases ho with ho |ho
  ·have ownLt:∀ (cs:List CT) (ps:List PV) (y:ah.V cs),fP ob cs ps=some y→∀ o∈aX ps,o<ob.length:=by
    intro cs
    induction cs with
    |nil=>intro ps y h o ho;cases ps;simp[aX]at ho;simp[fP]at h
    |cons c cs ih=>
     intro ps y h o ho
     cases ps with
     |nil=>simp[fP]at h
     |cons q ps=>
      obtain⟨e1,e2⟩:=VQ h
      simp only[aX,List.mem_append]at ho
      rcases ho with ho |ho
      ·cases c with
       |sl e=>
        rcases Vm e1 with ⟨z,rfl⟩ |rfl |rfl
        ·obtain⟨e',xs,hq,_⟩:=Nz e1
         simp[bI]at ho
         subst ho
         exact(List.getElem?_eq_some_iff.1 hq).1
        ·simp[bI]at ho
        ·simp[bI]at ho
       |_=>rw[zN e1 (fun e h=>by cases h)]at ho;simp at ho
      ·exact ih ps y.2 e2 o ho
   have own2:∀ (b:Bool) (cs:List CT) (y:ah.V cs),(if lH b cs v=true then(flat v).bind (fP ob cs)else none)=some y→∀ o∈bI v,o<ob.length:=by
    intro b cs y h o ho
    split at h <;>try (cases h;done)
    obtain⟨vs',e1,e2⟩:=Option.bind_eq_some_iff.1 h
    rw[←AO e1]at ho
    exact ownLt cs vs' y e2 o ho
   cases p with
   |v b cs=>simp[jL]at ho
   |r cs=>simp[jL]at ho
   |cl f caps=>cases v <;>simp[jL]at ho
   |w b cs=>exact own2 b cs a h1 o ho
   |c b cs=>exact own2 b cs a h1 o ho
   |m cs=>
    cases v with
    |ptr q i sz j=>
     have h':(lG ob cs.length (.ptr q i sz j)).bind (fP ob cs)=some a:=h1
     obtain⟨vs',e1,e2⟩:=Option.bind_eq_some_iff.1 h'
     have ho':o∈q::aX ((lG ob cs.length (.ptr q i sz j)).getD []):=ho
     rw[e1]at ho'
     rcases List.mem_cons.1 ho' with rfl |ho'
     ·have e1':(match ob[o]? with |some (.box cells)=>if i=0∧j+cs.length≤cells.length then some ((cells.drop j).take cs.length)else none |_=>none)=some vs':=e1
      split at e1'<;>try (cases e1';done)
      rename_i cells hq
      exact(List.getElem?_eq_some_iff.1 hq).1
     ·exact ownLt cs vs' a e2 o ho'
    |_=>cases h1
  ·exact WI s r vs b h2 o ho
theorem Vg{g:Gh}{n:Nat}{I:Nat→Prop}{w:World}:∀ (a b:List PV) (us vs:List Value),aB g n I w a us→aB g n I w b vs→aB g n I w (a++b) (us++vs)
 | [],b,us,vs,h,h'=>by simp only[aB]at h;subst h;exact h'
 |v::a,b,us,vs,h,h'=>by
  simp only[aB]at h
  obtain⟨u,t,rfl,h1,h2⟩:=h
  exact⟨u,t++vs,rfl,h1,Vg a b t vs h2 h'⟩
theorem VN{g:Gh}{n:Nat}{I:Nat→Prop}{w:World}:∀ (a b:List PV) (us:List Value),aB g n I w (a++b) us→∃ x y,us=x++y∧x.length=a.length∧aB g n I w a x∧aB g n I w b y
 | [],b,us,h=>⟨[],us,rfl,rfl,by simp[aB],h⟩
 |v::a,b,us,h=>by
  simp only[List.cons_append,aB]at h
  obtain⟨u,t,rfl,h1,h2⟩:=h
  obtain⟨x,y,rfl,h3,h4,h5⟩:=VN a b t h2
  exact⟨u::x,y,rfl,by simp[h3],⟨u,x,rfl,h1,h4⟩,h5⟩
theorem Oq{g:Gh}{n:Nat}{I:Nat→Prop}{w:World}:∀ (pk:List (Option (FuncId×Nat))) (args args':List PV) (avals:List Value),lZ pk args=some args'→aB g n I w args avals→∃ vals,aB g n I w args' vals∧yA pk vals avals
 | [],args,args',avals,h,hr=>by
  simp only[lZ,Option.some.injEq]at h
  subst h
  exact⟨avals,hr,rfl⟩
 |none::pk,[],_,_,h,_=>by simp[lZ]at h
 |none::pk,v::vs,args',avals,h,hr=>by
  simp only[lZ,Option.map_eq_some_iff]at h
  obtain⟨l,h1,rfl⟩:=h
  simp only[aB]at hr
  obtain⟨u,t,rfl,h2,h3⟩:=hr
  obtain⟨vals,h4,h5⟩:=Oq pk vs l t h1 h3
  exact⟨u::vals,⟨u,vals,rfl,h2,h4⟩,u,vals,t,rfl,rfl,h5⟩
 |some (f,m)::pk,[],_,_,h,_=>by simp[lZ]at h
 |some (f,m)::pk,v::vs,args',avals,h,hr=>by
  cases v with
  |fn f' caps=>
   simp only[lZ]at h
   split at h <;>try (cases h;done)
   rename_i hc
   obtain⟨rfl,rfl⟩:=hc
   simp only[Option.map_eq_some_iff]at h
   obtain⟨l,h1,rfl⟩:=h
   simp only[aB]at hr
   obtain⟨u,t,rfl,h2,h3⟩:=hr
   simp only[au]at h2
   obtain⟨us,rfl,h2⟩:=h2
   obtain⟨vals,h4,h5⟩:=Oq pk vs l t h1 h3
   exact⟨us++vals,Vg caps l us vals h2 h4,us,vals,t,rfl,jv _ _ h2,rfl,h5⟩
  |_=>simp[lZ]at h
theorem Po{g:Gh}{n:Nat}{I:Nat→Prop}{w:World}:∀ (pk:List (Option (FuncId×Nat))) (ps:List PV) (vals avals:List Value),yA pk vals avals→aB g n I w ps vals→aB g n I w (sJ pk ps) avals
 | [],ps,vals,avals,h,hr=>by simp only[yA]at h;subst h;exact hr
 |none::pk,ps,vals,avals,h,hr=>by
  obtain⟨v,a,b,rfl,rfl,h⟩:=h
  cases ps with
  |nil=>simp[aB]at hr
  |cons p ps=>
   simp only[aB]at hr
   obtain⟨u,t,e,h1,h2⟩:=hr
   cases e
   exact⟨_,_,rfl,h1,Po pk ps _ b h h2⟩
 |some (f,m)::pk,ps,vals,avals,h,hr=>by
  obtain⟨us,a,b,rfl,rfl,rfl,h⟩:=h
  have hl:=jv _ _ hr
  simp only[List.length_append]at hl
  rw[←List.take_append_drop us.length ps]at hr
  obtain⟨x,y,e,hx,h1,h2⟩:=VN _ _ _ hr
  have hxl:x.length=us.length:=by rw[hx,List.length_take];omega
  obtain⟨rfl,rfl⟩:=List.append_inj e hxl.symm
  exact⟨_,_,rfl,⟨us,rfl,h1⟩,Po pk _ _ b h h2⟩
theorem aea{g0f:FuncId}{S:aG}(hS:aF Dr P g0f S){args0 args:List PV}{x:ah.V (cO S.ins)}{y:ah.V (dI S.outs++dV S.ins)}{res:List PV}{ob':List Ob}(hpk:lZ S.pack args0=some args)(hx:jM ob S.ins args=some x)
  (hnd:(fD ob S.ins args).Nodup) (hro:∀ i∈Bz ob S.ins args,(!(fD ob S.ins args).contains i)=true) (hok:∀ p∈S.ins,p.ok=true) (hy:S.F x=some y)
  (hres:xR (vM S.outs) (bn (dI S.outs) (splitV (dI S.outs) (dV S.ins) y).1 ob.length).1=some res)
  (hio:kP ob S.ins args (splitV (dI S.outs) (dV S.ins) y).2 (kL (fD ob S.ins args) ob++(bn (dI S.outs) (splitV (dI S.outs) (dV S.ins) y).1 ob.length).2)=some ob')
  (X:Cx Dr) (g:Gh) (w:World) (avals:List Value) (hs:aJ X g ob w) (hr0:aB g ob.length X.I w args0 avals):
  Calls P g0f avals.toArray w fun e w'=>∃ vs bb g',Bo (l7 S.outs) w w' bb vs e∧((S.ins.all bF.pure=true→oK Dr g ob.length w g' ob' w'∧∀ o,aI g' ob' o→g'.A o<w.heap.size∨g'.A o∈bb)∧Only g ob w w')∧aJ X g' ob' w'∧Keep g ob.length X.I w g' ob'.length w'∧aB g' ob'.length X.I w' res vs:=by
 obtain⟨vals,hr,hpacked⟩:=Oq S.pack args0 args avals hpk hr0
 obtain⟨hent,hsum⟩:=hS
 obtain⟨T,t1,t2,t3⟩:=WM hs S.ins args x vals (List.all_eq_true.2 hok) hx hr hnd
 have hTI:∀ b∈T,¬ X.I b∧(X.B≤b∨b∈X.T)∧b<w.heap.size:=fun b hb=>by
  obtain⟨o,ho,hob,rfl⟩:=t2 b hb
  exact⟨(hs.blk hob).2,hs.base o hob,(hs.blk hob).1⟩
 have hargs:=t3 (fun b=>b<w.heap.size∧b∉T) (fun b hb=>⟨hs.bnd b hb,fun hm=>(hTI b hm).1 hb⟩) (fun o ho hob=>⟨(hs.blk hob).1,fun hm=>by
  obtain⟨o',ho',hob',e⟩:=t2 _ hm
  have:=hs.inj o o' hob hob' e
  subst this
  have:=hro o ho
  simp at this
  exact this ho'⟩)
 have:=hsum w T g.J x y vals avals (fun b hb=>⟨hs.bnd b (hs.jI b hb),fun hm=>(hTI b hm).1 (hs.jI b hb)⟩) t1 hs.tab hargs hy hpacked
 refine this.mono ?_
 rintro e w' ⟨hupd,us,vs,bs,bs',hans,ho,hgr,hios,hbn,hbT⟩
 have hbn2:=List.nodup_append.1 hbn
 have hkill:=hs.kill (fD ob S.ins args)
 have hklen:=xM (fD ob S.ins args) ob
 have notT:∀ o,aI g (kL (fD ob S.ins args) ob) o→aI g ob o∧g.A o∉T:=fun o hb=>by
  have hb1:aI g ob o:=by
   rcases hb with ⟨cells,hb⟩ | ⟨e,xs,hb,hn⟩
   ·rcases(vC _ _ _ _ hb).1 with h |h
    ·cases h
    ·exact Or.inl ⟨_,h⟩
   ·rcases(vC _ _ _ _ hb).1 with h |h
    ·cases h
    ·exact Or.inr ⟨_,_,h,hn⟩
  refine⟨hb1,fun hm=> ?_⟩
  obtain⟨o',ho',hob',e⟩:=t2 _ hm
  have:=hs.inj o o' hb1 hob' e
  subst this
  rcases hb with ⟨cells,hb⟩ | ⟨e,xs,hb,hn⟩
  ·have:=(vC _ _ _ _ hb).2 ho';cases this
  ·have:=(vC _ _ _ _ hb).2 ho';cases this
 obtain⟨s1,k1⟩:=hkill.step hupd (fun b hb=>⟨(hTI b hb).1,(hTI b hb).2.1,fun o ho e=>(notT o ho).2 (e▸hb)⟩)
 rw[hklen]at k1
 have hbs:∀ b∈bs++bs',(X.B≤b∨b∈X.T)∧¬ X.I b∧∀ o,aI g (kL (fD ob S.ins args) ob) o→g.A o≠b:=fun b hb=>by
  rcases hbT b hb with h |h
  ·exact⟨(hTI b h).2.1,(hTI b h).1,fun o ho e=>(notT o ho).2 (e▸h)⟩
  ·exact⟨Or.inl (Nat.le_trans hs.bsz h),fun hI=>by have:=hs.bnd b hI;omega,fun o ho e=>by have:=(hs.blk (notT o ho).1).1;omega⟩
 obtain⟨g1,s2,k2,r2,n2⟩:=qF (dI S.outs) _ us bs g _ ho rfl hbn2.1 (fun b hb=>hbs b (by simp[hb])) s1
 rw[hklen]at s2 k2 r2 n2
 have hdl:ob.length≤(kL (fD ob S.ins args) ob++(bn (dI S.outs) (splitV (dI S.outs) (dV S.ins) y).1 ob.length).2).length:=k2.le
 have hw':∀ b,X.I b→w'.heap[b]? =w.heap[b]? :=fun b hb=>k1.heap b hb
 obtain⟨g',s3,k3⟩:=Yo hs hw' S.ins args x _ vals bs' g1 _ ob' k2.J hdl (fun o ho=>k2.agr o ho) s2 hx hr hios hnd (fun o ho=>by
  have hlt:=WI hs S.ins args x hx o ho
  refine⟨hlt, ?_⟩
  rw[List.getElem?_append_left (by rw[hklen];exact hlt)]
  have hlt':o<(kL (fD ob S.ins args) ob).length:=by rw[hklen];exact hlt
  rw[List.getElem?_eq_getElem hlt']
  congr 1
  exact(vC _ _ _ _ (List.getElem?_eq_getElem hlt')).2 ho) hbn2.2.1 (fun b hb=>⟨(hbs b (by simp[hb])).1,(hbs b (by simp[hb])).2.1,fun o ho e=>by
   rcases n2 o ho with ⟨h1,h2⟩ |h1
   ·rw[(k2.agr o h1).A]at e
    exact(hbs b (by simp[hb])).2.2 o h2 e
   ·rw[e]at h1
    exact hbn2.2.2 b h1 b hb rfl⟩) hio
 have kk:Keep g ob.length X.I w g' ob'.length w':=(k1.trans k2).trans k3
 refine⟨vs,bs++bs',g',hans,⟨fun hp=> ?_,fun b hb hn=>hupd.block b hb fun hT=>by
  obtain⟨o,_,hob,e⟩:=t2 b hT
  exact hn o hob e.symm⟩,s3,kk,aB.keep k3 _ _ (Vj _ _ _ _ _ r2 hgr hres)⟩
 have hids:=OI ob S.ins args hp
 have hT:T=[]:=by
  cases T with
  |nil=>rfl
  |cons b T=>
   obtain⟨o,ho,_⟩:=t2 b (by simp)
   rw[hids]at ho
   simp at ho
 subst hT
 have e1:=Pn ob S.ins args _ _ ob' hp hio
 rw[hids]at e1
 have key:∀ o,aI g' ob' o→(o<ob.length∧g'.A o<w.heap.size)∨g'.A o∈bs:=fun o hb=>by
  rw[e1]at hb s3 k3
  have hb1:aI g1 (kL (fD ob S.ins args) ob++(bn (dI S.outs) (splitV (dI S.outs) (dV S.ins) y).1 ob.length).2) o:=by
   rw[hids]
   have hl:=hb.lt
   have hag:Agree g1 g' o:=by
    have:=k3.agr o (by rw[hids];exact hl)
    exact this
   rcases hb with ⟨cells,hb⟩ | ⟨e,xs,hb,hn⟩
   ·exact Or.inl ⟨_,hb⟩
   ·rw[hag.H]at hn;exact Or.inr ⟨_,_,hb,hn⟩
  have hA:g'.A o=g1.A o:=(k3.agr o hb1.lt).A
  rw[hA]
  rcases n2 o hb1 with ⟨h1,h2⟩ |h1
  ·left
   rw[(k2.agr o h1).A]
   exact⟨h1,(hs.blk (notT o h2).1).1⟩
  ·exact Or.inr h1
 refine⟨⟨hupd.below,fun o ho hb=> ?_⟩,fun o hb=> ?_⟩
 ·rcases key o hb with ⟨h1,_⟩ |h1
  ·omega
  ·rcases hbT _ (List.mem_append.2 (Or.inl h1))with h |h
   ·simp at h
   ·exact h
 ·rcases key o hb with ⟨_,h1⟩ |h1
  ·exact Or.inl h1
  ·exact Or.inr (List.mem_append.2 (Or.inl h1))
theorem afv{g0f:FuncId}{S:aG}(hS:aF Dr P g0f S){args0:List PV}(h:yI ob S args0 K=some r):∃ pv ob',K pv ob'=some r∧(S.ins.all bF.pure=true→∃ new,ob'=ob++new)∧
  ∀ (X:Cx Dr) (g:Gh) (w:World) (avals:List Value),aJ X g ob w→aB g ob.length X.I w args0 avals→
   Calls P g0f avals.toArray w fun e w'=>∃ v,e= .returned v∧∃ g',((S.ins.all bF.pure=true→oK Dr g ob.length w g' ob' w')∧Only g ob w w')∧aJ X g' ob' w'∧Keep g ob.length X.I w g' ob'.length w'∧au g' ob'.length X.I w' pv v:=by
 unfold yI at h
 split at h <;>try (cases h;done)
 rename_i args hpk
 obtain⟨h,hbnd,_⟩:=EF _ _ h
 split at h <;>try (cases h;done)
 rename_i x hx
 rw[hbnd]at hx
 split at h <;>try (cases h;done)
 rename_i hcond
 simp only[Bool.and_eq_true,List.all_eq_true]at hcond
 obtain⟨⟨⟨hnd,hro⟩,hok⟩,hflat⟩:=hcond
 have hnd:=(show ∀ l,jC l=true→l.Nodup from fun l=>by
  induction l with
  |nil=>intro _;exact List.nodup_nil
  |cons a l ih=>
   intro h
   simp only[jC,Bool.and_eq_true,Bool.not_eq_true',List.contains_eq_mem,decide_eq_false_iff_not]at h
   exact List.nodup_cons.2 ⟨h.1,ih h.2⟩) _ hnd
 obtain⟨y,hy,h⟩:=Option.bind_eq_some_iff.1 h
 split at h <;>try (cases h;done)
 rename_i res ob' hres hio
 have hpo:S.ins.all bF.pure=true→∃ new,ob'=ob++new:=fun hp=>by
  have h1:=Pn ob S.ins args _ _ ob' hp hio
  rw[OI ob S.ins args hp]at h1
  exact⟨_,h1⟩
 have core:=aea hS hpk hx hnd hro hok hy hres hio
 cases hbx:l7 S.outs with
 |false=>
  rw[hbx]at h
  refine⟨_,ob',h,hpo,fun X g w avals hs hr0=> ?_⟩
  refine(core X g w avals hs hr0).mono ?_
  rintro e w' ⟨vs,bb,g',ha,⟨h1,h2⟩,h3,h4,h5⟩
  rw[hbx]at ha
  exact⟨_,ha,g',⟨fun hp=>(h1 hp).1,h2⟩,h3,h4,adL _ _ h5⟩
 |true=>
  rw[hbx]at h
  unfold Qm at h
  simp only at h
  split at h <;>try (cases h;done)
  rename_i b cs hp
  refine⟨_,_,h,fun _=> ?_,fun X g w avals hs hr0=> ?_⟩
  ·obtain⟨new,e⟩:=hpo hp
   exact⟨new++[.box cs],by rw[e,List.append_assoc]⟩
  refine(core X g w avals hs hr0).mono ?_
  rintro e w' ⟨vs,bb,g',ha,⟨h1,h2⟩,h3,h4,h5⟩
  rw[hbx]at ha
  obtain⟨b,pr,us,po,t,rfl,rfl,hw,hb1,hb2⟩:=ha
  obtain⟨hf,hblk⟩:=h1 hp
  simp only[aB]at h5
  obtain⟨u,t',e5,h5,_⟩:=h5
  cases e5
  simp only[au]at h5
  obtain⟨us',e6,h5⟩:=h5
  have e6:us=us':=by have:=congrArg (fun v=>match v with |Value.agg a=>a.toList |_=>[]) e6;simpa using this
  subst e6
  have hne:∀ o,aI g' ob' o→g'.A o≠b:=fun o ho e=>by
   rcases hblk o ho with h |h
   ·omega
   ·rw[e]at h;exact hb2 h
  have hnI:¬ X.I b:=fun hI=>by have:=hs.bnd b hI;omega
  have s4:=h3.Zg (.box cs) b undef 1 0 pr po (fun cells hc=>by cases hc;exact⟨us,t,hw,h5,hnI,rfl,rfl⟩) (fun _ _ hc=>by cases hc) (fun _=>⟨Or.inl (Nat.le_trans hs.bsz hb1),hne⟩)
  have k4:Keep g' ob'.length X.I w' (g'.dA ob'.length b undef 1 0 pr po) (ob'++[Ob.box cs]).length w':=by simpa using Keep.dA h3.jI
  refine⟨_,rfl,g'.dA ob'.length b undef 1 0 pr po,⟨fun _=>⟨hf.below,fun o ho hb'=> ?_⟩,h2⟩,s4,h4.trans k4, ?_⟩
  ·by_cases ho':o=ob'.length
   ·subst ho';simpa [Gh.dA]using hb1
   ·rw[(Ny ho').A]
    refine hf.fresh o ho ?_
    have hl:=hb'.lt
    simp only[List.length_append,List.length_cons,List.length_nil]at hl
    have hl2:o<ob'.length:=by omega
    rcases hb' with ⟨c',hb'⟩ | ⟨e',xs,hb',hn⟩
    ·rw[List.getElem?_append_left hl2]at hb';exact Or.inl ⟨_,hb'⟩
    ·rw[List.getElem?_append_left hl2]at hb'
     rw[(Ny ho').H]at hn
     exact Or.inr ⟨_,_,hb',hn⟩
  ·simp only[au]
   exact⟨by simp,by simp[Gh.dA],by simp[Gh.dA],by simp[Gh.dA]⟩
theorem agu(hT:∀ g fs S,tbl g fs=some S→aF Dr P g S){c:Call}{f:Operand}(hc:c.callee= .value f)(hop:o.op= .call c)(h:bM P tbl env ob o.op K=some r):∃ pv ob',K pv ob'=some r∧WV Dr P ob env o (impure tbl env o.op) pv ob':=by
 rw[hop]at h ⊢
 simp only[bM,hc]at h
 split at h <;>try (cases h;done)
 rename_i gf caps hf
 split at h <;>try (cases h;done)
 rename_i S hS
 have hsum:=hT gf _ S hS
 obtain⟨pv,ob',h1,h2,h3⟩:=afv hsum h
 have him:impure tbl env (.call c)= !S.ins.all bF.pure:=by
  simp only[impure,hc,hf,hS]
 rw[him]
 refine⟨pv,ob',h1,fun hp=>h2 (by simpa using hp),fun X N g w a hs he=> ?_⟩
 have hfv:=he.ev f
 rw[hf]at hfv
 simp only[au]at hfv
 obtain⟨us,hfv,hcaps⟩:=hfv
 unfold nX
 rw[aeC hsum.1 hc hfv hop]
 simp only[]
 have hvals:aB g ob.length X.I w (c.args.toList.map (ev env)++caps) (c.args.toList.map a.eval++us):=Oh _ _ _ _ (Og he _) hcaps
 have:=h3 X g w _ hs hvals
 have e1:(c.args.toList.map a.eval++us).toArray=c.args.map a.eval++us.toArray:=by
  apply Array.ext'
  simp
 rw[e1]at this
 refine this.mono ?_
 rintro e w' ⟨v,rfl,g',hp,k1,k2,k3⟩
 exact⟨v,rfl,g',⟨fun hh=>hp.1 (by simpa using hh),hp.2,fun hh=>by rw[hop]at hh;simp[rW,hc]at hh⟩,k1,k2,k3⟩
end Go.Rv
set_option linter.unusedVariables false
set_option linter.unusedSimpArgs false
namespace Go.Rv
open Go.RowKit
variable {Dr:Kn}
def Gh.sel(g:Gh)(ids:List Nat):Gh:=⟨fun j=>g.A (ids.getD j 0),fun j=>g.H (ids.getD j 0),fun j=>g.L (ids.getD j 0),fun j=>g.S (ids.getD j 0),fun j=>g.pre (ids.getD j 0),fun j=>g.post (ids.getD j 0),g.J⟩
theorem OJ(ids:List Nat)(o:Nat)(h:o∈ids):place ids o<ids.length∧ids.getD (place ids o) 0=o:=by
 unfold place
 have h1:ids.findIdx (· ==o)<ids.length:=List.findIdx_lt_length_of_exists ⟨o,h,by simp⟩
 refine⟨h1, ?_⟩
 have h2:=List.findIdx_getElem (w:=h1)
 simp only[List.getD_eq_getElem?_getD,List.getElem?_eq_getElem h1,Option.getD_some]
 simpa using h2
mutual
theorem Ye{g:Gh}{n:Nat}{I:Nat→Prop}{w:World}(ids:List Nat):∀ (v:PV) (u:Value),(∀ i∈bI v,i∈ids)→au g n I w v u→au (g.sel ids) ids.length I w (ren ids v) u
 | .int _ _,_,_,h=>by simpa [ren,au]using h
 | .bool _,_,_,h=>by simpa [ren,au]using h
 | .str _,_,_,h=>by simpa [ren,au]using h
 | .sl _ _,_,_,h=>by simpa [ren,au]using h
 | .own o,u,hi,h=>by
  obtain⟨h1,h2⟩:=OJ ids o (hi o (by simp[bI]))
  simp only[ren,au,Gh.sel,h2]at h ⊢
  exact⟨h1,h.2⟩
 | .sh _ _,_,_,h=>by simpa [ren,au,Gh.sel]using h
 | .emp,_,_,h=>by simpa [ren,au]using h
 | .ref o sz off len,u,hi,h=>by
  obtain⟨h1,h2⟩:=OJ ids o (hi o (by simp[bI]))
  simp only[ren,au,Gh.sel,h2]at h ⊢
  exact⟨h1,h.2⟩
 | .ptr o i sz j,u,hi,h=>by
  obtain⟨h1,h2⟩:=OJ ids o (hi o (by simp[bI]))
  simp only[ren,au,Gh.sel,h2]at h ⊢
  exact⟨h1,h.2⟩
 | .eptr _ _ _,_,_,h=>by simpa [ren,au]using h
 | .nilp,_,_,h=>by simpa [ren,au]using h
 | .nils,_,_,h=>by simpa [ren,au]using h
 | .either,_,_,h=>by simpa [ren,au]using h
 | .agg vs,u,hi,h=>by
  simp only[ren,au]at h ⊢
  obtain⟨us,hu,hr⟩:=h
  exact⟨us,hu,AV ids vs us (by simpa [bI]using hi) hr⟩
 | .tup vs,u,hi,h=>by
  simp only[ren,au]at h ⊢
  obtain⟨us,hu,hr⟩:=h
  exact⟨us,hu,AV ids vs us (by simpa [bI]using hi) hr⟩
 | .fn f vs,u,hi,h=>by
  simp only[ren,au]at h ⊢
  obtain⟨us,hu,hr⟩:=h
  exact⟨us,hu,AV ids vs us (by simpa [bI]using hi) hr⟩
 | .undef,_,_,_=>by simp[ren,au]
 | .skip,_,_,h=>by simpa [ren,au]using h
theorem AV{g:Gh}{n:Nat}{I:Nat→Prop}{w:World}(ids:List Nat):∀ (vs:List PV) (us:List Value),(∀ i∈aX vs,i∈ids)→aB g n I w vs us→aB (g.sel ids) ids.length I w (sZ ids vs) us
 | [],us,_,h=>by simpa [sZ,aB]using h
 |v::r,us,hi,h=>by
  simp only[sZ,aB]at h ⊢
  obtain⟨u,t,hu,h1,h2⟩:=h
  exact⟨u,t,hu,Ye ids v u (fun i hm=>hi i (by simp[aX,hm])) h1,AV ids r t (fun i hm=>hi i (by simp[aX,hm])) h2⟩
end
theorem OO:∀ (l:List Nat),jC l=true→l.Nodup
 | [],_=>List.nodup_nil
 |x::r,h=>by
  simp only[jC,Bool.and_eq_true,Bool.not_eq_true',List.contains_eq_mem,decide_eq_false_iff_not]at h
  exact List.nodup_cons.2 ⟨h.1,OO r h.2⟩
theorem Vq(ids:List Nat)(env:Env):∀ (keep:List Nat) (s:Nat),(s∈keep∧look (AQ ids env keep) s=ren ids (look env s))∨look (AQ ids env keep) s= .undef
 | [],s=>Or.inr rfl
 |k::r,s=>by
  simp only[AQ,look]
  by_cases h:k=s
  ·subst h;rw[if_pos rfl];exact Or.inl ⟨by simp,rfl⟩
  ·rw[if_neg h]
   rcases Vq ids env r s with ⟨h1,h2⟩ |h2
   ·exact Or.inl ⟨List.mem_cons_of_mem _ h1,h2⟩
   ·exact Or.inr h2
theorem XO:∀ (vs:List PV) (v:PV),v∈vs→∀ i∈bI v,i∈aX vs
 | [],v,h,i,hi=>by simp at h
 |x::r,v,h,i,hi=>by
  simp only[aX,List.mem_append]
  rcases List.mem_cons.1 h with rfl |h
  ·exact Or.inl hi
  ·exact Or.inr (XO r v h i hi)
theorem ET{R:Type}{n0:Nat}{keep:List Nat}{env:Env}{ob:List Ob}{K:Env→List Ob→Option R}{r:R}(h:clean n0 keep env ob K=some r):
  ∃ env' ob',K env' ob'=some r∧∀ (X:Cx Dr) (N:Nat) (g:Gh) (w:World) (a:Act),X.n0=n0→aJ X g ob w→dB N g ob.length X.I w env a→
   ∃ g',aJ X g' ob' w∧dB N g' ob'.length X.I w env' a:=by
 unfold clean at h
 split at h <;>try (simp at h;done)
 rename_i hc
 refine⟨_,_,h,fun X N g w a hn0 s he=> ?_⟩
 subst hn0
 clear h
 generalize reach X.n0 (keep.map (look env)) ob=ids at hc ⊢
 simp only[XZ,Bool.and_eq_true,List.all_eq_true,List.contains_eq_mem,decide_eq_true_eq,List.mem_range,beq_iff_eq]at hc
 obtain⟨⟨⟨hnd,hids⟩,hcl⟩,hpre⟩:=hc
 have hnd:=OO _ hnd
 have getX:∀ j X,(ids.map fun i=>jK ids ob[i]?)[j]? =some X→∃ i,ids[j]? =some i∧X=jK ids ob[i]? ∧ids.getD j 0=i:=fun j X hX=>by
  rw[List.getElem?_map,Option.map_eq_some_iff]at hX
  obtain⟨i,hi,rfl⟩:=hX
  exact⟨i,hi,rfl,by simp[List.getD_eq_getElem?_getD,hi]⟩
 have len:(ids.map fun i=>jK ids ob[i]?).length=ids.length:=by simp
 have toBlk:∀ j,aI (g.sel ids) (ids.map fun i=>jK ids ob[i]?) j→j<ids.length∧aI g ob (ids.getD j 0):=fun j hb=>by
  have hj:j<ids.length:=by have:=hb.lt;rwa [len]at this
  refine⟨hj, ?_⟩
  rcases hb with ⟨cells,hb⟩ | ⟨e,xs,hb,hn⟩
  ·obtain⟨i,hi,hX,hg⟩:=getX j _ hb
   rw[hg]
   cases hob:ob[i]? with
   |none=>rw[hob]at hX;simp[jK]at hX
   |some Y=>
    rw[hob]at hX
    cases Y <;>simp[jK]at hX
    exact Or.inl ⟨_,hob⟩
  ·obtain⟨i,hi,hX,hg⟩:=getX j _ hb
   have hn':¬ gK (g.H (ids.getD j 0)):=hn
   rw[hg]at hn' ⊢
   cases hob:ob[i]? with
   |none=>rw[hob]at hX;simp[jK]at hX
   |some Y=>
    rw[hob]at hX
    cases Y <;>simp[jK]at hX
    exact Or.inr ⟨_,_,hob,hn'⟩
 have hlen0:X.n0≤ids.length:=by
  rcases Nat.eq_zero_or_pos X.n0 with h0 |h0
  ·omega
  ·have:=hpre (X.n0 - 1) (by omega)
   have:=(List.getElem?_eq_some_iff.1 this).1
   omega
 refine⟨g.sel ids,⟨?_, ?_, ?_, ?_,s.bnd,s.jI,s.upd,s.bsz,by rw[len];exact hlen0,fun o ho=> ?_,s.keptJ⟩,he.1,he.2.1,fun sl=> ?_⟩
 ·intro j cells hb
  obtain⟨i,hi,hX,hg⟩:=getX j _ hb
  cases hob:ob[i]? with
  |none=>rw[hob]at hX;simp[jK]at hX
  |some Y=>
   rw[hob]at hX
   cases Y with
   |box c0=>
    simp only[jK,Ob.box.injEq]at hX
    obtain⟨us,t,k1,k2,k3,k4,k5⟩:=s.box i c0 hob
    refine⟨us,t, ?_, ?_, ?_, ?_, ?_⟩
    ·show w.heap[g.A (ids.getD j 0)]? =some (.cells (g.pre (ids.getD j 0)++us++g.post (ids.getD j 0)).toArray t (0,0));rw[hg];exact k1
    ·rw[hX,len]
     refine AV ids c0 us (fun z hz=>hcl i (List.mem_of_getElem? hi) z ?_) k2
     rw[hob];exact hz
    ·show ¬ X.I (g.A (ids.getD j 0));rw[hg];exact k3
    ·show g.S (ids.getD j 0)=0;rw[hg];exact k4
    ·show g.L (ids.getD j 0)=1;rw[hg];exact k5
   |arr e xs=>simp[jK]at hX
   |dead=>simp[jK]at hX
 ·intro j e xs hb
  obtain⟨i,hi,hX,hg⟩:=getX j _ hb
  cases hob:ob[i]? with
  |none=>rw[hob]at hX;simp[jK]at hX
  |some Y=>
   rw[hob]at hX
   cases Y with
   |box c0=>simp[jK]at hX
   |arr e' xs'=>
    simp only[jK]at hX
    cases hX
    obtain⟨k1,k2,kp,k3⟩:=s.arr i e xs hob
    refine⟨?_, ?_, ?_, ?_⟩
    ·show g.S (ids.getD j 0)=_;rw[hg];exact k1
    ·show g.L (ids.getD j 0)=_;rw[hg];exact k2
    ·show g.pre (ids.getD j 0)=_;rw[hg];exact kp
    ·unfold sV at*
     simp only[Gh.sel,hg]
     exact k3
   |dead=>simp[jK]at hX
 ·intro j j' hb hb' e
  obtain⟨h1,h2⟩:=toBlk j hb
  obtain⟨h3,h4⟩:=toBlk j' hb'
  have:=s.inj _ _ h2 h4 e
  simp only[List.getD_eq_getElem?_getD,List.getElem?_eq_getElem h1,List.getElem?_eq_getElem h3,Option.getD_some]at this
  have hp:=List.pairwise_iff_getElem.1 hnd
  rcases Nat.lt_trichotomy j j' with hlt |heq |hgt
  ·exact absurd this (hp j j' h1 h3 hlt)
  ·exact heq
  ·exact absurd this.symm (hp j' j h3 h1 hgt)
 ·intro j hb
  obtain⟨h1,h2⟩:=toBlk j hb
  exact s.base _ h2
 ·have h1:ids.getD o 0=o:=by simp[List.getD_eq_getElem?_getD,hpre o ho]
  have h2:=s.kept o ho
  refine⟨?_, ?_, ?_, ?_, ?_, ?_⟩ <;>simp only[Gh.sel,h1]
  ·exact h2.A
  ·exact h2.H
  ·exact h2.L
  ·exact h2.S
  ·exact h2.pre
  ·exact h2.post
 ·rw[len]
  rcases Vq ids env keep sl with ⟨h1,h2⟩ |h2
  ·rw[h2]
   exact Ye ids _ _ (fun i hi=>hids i (XO _ _ (List.mem_map.2 ⟨sl,h1,rfl⟩) i hi)) (he.2.2 sl)
  ·rw[h2];simp[au]
end Go.Rv
set_option linter.unusedVariables false
set_option linter.unusedSimpArgs false
namespace Go.Rv
open Go.RowKit
variable {Dr:Kn}
variable {R:Type} {P:Program} {tbl:dW} {env:Env} {ob:List Ob} {o:Oper} {K:PV→List Ob→Option R} {r:R}
theorem PE(hT:∀ g fs S,tbl g fs=some S→aF Dr P g S)(h:bM P tbl env ob o.op K=some r):∃ pv ob',K pv ob'=some r∧WV Dr P ob env o (impure tbl env o.op) pv ob':=by
 have q:(∃ pv,K pv ob=some r∧QV Dr P ob env o pv)→∃ pv ob',K pv ob'=some r∧WV Dr P ob env o (impure tbl env o.op) pv ob':=fun⟨pv,h1,h2⟩=>⟨pv,ob,h1,h2.wv _⟩
 have e:(∃ pv ob',K pv ob'=some r∧EV Dr P ob env o (impure tbl env o.op) pv ob')→∃ pv ob',K pv ob'=some r∧WV Dr P ob env o (impure tbl env o.op) pv ob':=fun⟨pv,ob',h1,h2⟩=>⟨pv,ob',h1,h2.wv⟩
 cases hop:o.op with
 |move x=>rw[←hop];exact q (Yg (Or.inl hop) (by rw[hop]at h;simpa [bM]using h))
 |assign x=>rw[←hop];exact q (Yg (Or.inr hop) (by rw[hop]at h;simpa [bM]using h))
 |nilCheck x=>rw[←hop];exact q (adV hop h)
 |pick c x y=>rw[←hop];exact q (agE hop h)
 |makeFunc f x y=>rw[←hop];exact q (adW hop h)
 |load t x=>rw[←hop];exact q (agF hop h)
 |fieldAddr t x f=>rw[←hop];exact q (adI hop h)
 |field t x f=>rw[←hop];exact q (afP hop h)
 |indexAddr t x i=>rw[←hop];exact q (adH hop h)
 |index t x i=>rw[←hop];exact q (afO hop h)
 |binOp op t x y t'=>rw[←hop];exact q (afR hop h)
 |unOp op t x=>rw[←hop];exact q (agD hop h)
 |convert s d x=>rw[←hop];exact q (ael hop h)
 |build t ps=>rw[←hop];exact q (afQ hop h)
 |extract x i=>rw[←hop];exact q (aek hop h)
 |slice t x lo hi mx=>rw[←hop];exact q (afN hop h)
 |box t x=>rw[←hop];exact e (ahr hop _ h)
 |alloc t=>rw[←hop];exact e (agd hop _ h)
 |makeSlice t l c=>rw[←hop];exact e (adO hop _ h)
 |buildSlice t l c=>rw[←hop];exact e (adx hop _ h)
 |store t x y=>
  obtain⟨pv,ob',h1,h2⟩:=agc hop h
  exact⟨pv,ob',h1,h2.wv⟩
 |call c=>
  rw[←hop]
  obtain⟨callee,args,ats⟩:=c
  cases callee with
  |value f=>exact agu hT rfl hop h
  |invoke f m=>rw[hop]at h;simp[bM]at h
  |builtin b=>
   cases b
   case len=>exact q (q_len rfl hop h)
   case min=>exact q (Wv (Or.inl rfl) hop h)
   case max=>exact q (Wv (Or.inr rfl) hop h)
   case append=>exact e (afq rfl hop h)
   all_goals (rw[hop]at h;simp[bM]at h;done)
 |_=>rw[hop]at h;simp[bM]at h;done
theorem O0{N:Nat}{g:Gh}{n:Nat}{I:Nat→Prop}{w:World}{a:Act}{ops:Array Oper}(he:dB N g n I w env a){j s:Nat}{want b:Bool}(hg:o.guard=some (j,want))(hs:yE ops j=some s)(hl:look env s= .bool b):
  Region.wanted o (yielded ops a.tmps)=(b==want):=by
 have h1:=he.2.2 s
 rw[hl]at h1
 simp only[au]at h1
 have h2:a.tmps[s]? =some (.bool b):=by
  rw[Array.getD_eq_getD_getElem?]at h1
  cases h3:a.tmps[s]? with
  |none=>rw[h3]at h1;simp[undef]at h1
  |some v=>rw[h3]at h1;simpa using h1
 unfold yE at hs
 simp only[Region.wanted,hg,yielded,hs,Option.bind_some,h2]
 cases b <;>cases want <;>rfl
theorem Vw{N:Nat}{g:Gh}{n:Nat}{I:Nat→Prop}{w:World}{a:Act}{ops:Array Oper}(he:dB N g n I w env a){j s:Nat}{want:Bool}(hg:o.guard=some (j,want))(hs:yE ops j=some s)(hl:look env s= .skip):
  Region.wanted o (yielded ops a.tmps)=false:=by
 have h1:=he.2.2 s
 rw[hl]at h1
 simp only[au]at h1
 unfold yE at hs
 simp only[Region.wanted,hg,yielded,hs,Option.bind_some]
 rw[Array.getD_eq_getD_getElem?]at h1
 cases h3:a.tmps[s]? with
 |none=>rfl
 |some v=>
  rw[h3]at h1
  simp only[Option.getD_some]at h1
  subst h1
  rfl
theorem En(hT:∀ g fs S,tbl g fs=some S→aF Dr P g S){N:Nat}{ops:Array Oper}{X:Cx Dr}{K:Env→List Ob→Option R}{Q:Exit→Act→World→Prop}:
  ∀ (l:List Oper) (env:Env) (ob:List Ob) (g:Gh) (w:World) (a:Act),qf P tbl N ops l env ob K=some r→aJ X g ob w→dB N g ob.length X.I w env a→
   (∀ env' ob' g' w' a',K env' ob'=some r→aJ X g' ob' w'→dB N g' ob'.length X.I w' env' a'→Q .normal a' w')→wpList P ops Q l a w
 | [],env,ob,g,w,a,h,hs,he,hQ=>hQ env ob g w a h hs he
 |o::l,env,ob,g,w,a,h,hs,he,hQ=>by
  simp only[qf]at h
  split at h <;>try (simp at h;done)
  rename_i hd
  have step:∀ env1,dB N g ob.length X.I w env1 a→Region.wanted o (yielded ops a.tmps)=true→bM P tbl env1 ob o.op (fun v ob'=>qf P tbl N ops l (put env1 o.dst v) ob' K)=some r→wpList P ops Q (o::l) a w:=fun env1 he1 hw h1=>by
   obtain⟨pv,ob',h2,_,h3⟩:=PE hT h1
   unfold wpList
   rw[if_pos hw]
   refine Or.inl (Yl (Az ?_ (h3 X N g w a hs he1)))
   rintro v w' ⟨g',_,s',k',r'⟩
   exact En hT l _ ob' g' w' _ h2 s' ((he1.keep k').put hd r') hQ
  split at h
  ·rename_i hg
   exact step env he (by simp[Region.wanted,hg]) h
  ·rename_i j want hg
   split at h <;>try (simp at h;done)
   rename_i s hgs
   split at h <;>try (simp at h;done)
   rotate_left
   ·rename_i hl
    have hw:=Vw he hg hgs hl
    unfold wpList
    rw[if_neg (by rw[hw];simp)]
    exact En hT l _ ob g w _ h hs (he.put hd (by simp[au])) hQ
   rename_i b hl
   have hw:=O0 he hg hgs hl
   have he1:=he.lit hl
   have h1:(if b=want then bM P tbl ((s,.bool b)::env) ob o.op (fun v ob'=>qf P tbl N ops l (put ((s,.bool b)::env) o.dst v) ob' K)else qf P tbl N ops l (put ((s,.bool b)::env) o.dst .skip) ob K)=some r:=by
    cases b <;>simpa using h
   by_cases hbw:b=want
   ·rw[if_pos hbw]at h1
    exact step _ he1 (by rw[hw,hbw];simp) h1
   ·rw[if_neg hbw]at h1
    unfold wpList
    rw[if_neg (by rw[hw];simp[hbw])]
    exact En hT l _ ob g w _ h1 hs (he1.put hd (by simp[au])) hQ
end Go.Rv
set_option linter.unusedVariables false
set_option linter.unusedSimpArgs false
namespace Go.Rv
open Go.RowKit
variable {Dr:Kn}
variable {R:Type} {P:Program} {tbl:dW} {env:Env} {ob:List Ob} {o:Oper} {K:PV→List Ob→Option R} {r:R}
def Closed(ops:List Oper)(L:Nat→Bool):Prop:=∀ j o,ops[j]? =some o→L j=true→∀ e∈o.after,Region.binds .any e=true→L e.on=true
def Reach(ops:List Oper)(k x:Nat):Prop:=∀ L,Closed ops L→(∀ o,ops[k]? =some o→∀ e∈o.after,Region.binds .any e=true→L e.on=true)→L x=true
theorem Wq{tab:List Nat}{x:Nat}:∀ (es:List Edge) (m:Nat),(es.foldl (fun m e=>if Region.binds .any e=true then m ||| (1 <<< e.on) ||| tab.getD e.on 0 else m) m).testBit x=true→
  m.testBit x=true∨∃ e∈es,Region.binds .any e=true∧(e.on=x∨(tab.getD e.on 0).testBit x=true)
 | [],m,h=>Or.inl h
 |e::es,m,h=>by
  simp only[List.foldl_cons]at h
  rcases Wq es _ h with h1 | ⟨e',h1,h2,h3⟩
  ·split at h1
   ·rename_i hb
    simp only[Nat.testBit_or,Bool.or_eq_true]at h1
    rcases h1 with (h1 |h1) |h1
    ·exact Or.inl h1
    ·right
     refine⟨e,by simp,hb,Or.inl ?_⟩
     rw[Nat.one_shiftLeft,Nat.testBit_two_pow]at h1
     simpa using h1
    ·exact Or.inr ⟨e,by simp,hb,Or.inr h1⟩
   ·exact Or.inl h1
  ·exact Or.inr ⟨e',List.mem_cons_of_mem _ h1,h2,h3⟩
def Back(ops:List Oper):Prop:=∀ (k:Nat) (o:Oper),ops[k]? =some o→∀ e∈o.after,Region.binds .any e=true→e.on<k
theorem VY(ops:List Oper):∀ (l:List Oper) (tab:List Nat),ops=ops.take tab.length++l→(∀ k x,(tab.getD k 0).testBit x=true→Reach ops k x∧(Back ops→x<k))→
  ∀ k x,((Bj l tab).getD k 0).testBit x=true→Reach ops k x∧(Back ops→x<k)
 | [],tab,_,h=>fun k x hb=>h k x hb
 |o::l,tab,hl,h=>by
  rw[Bj]
  have htl:tab.length≤ops.length:=by
   rcases Nat.lt_or_ge ops.length tab.length with h1 |h1
   ·have:=congrArg List.length hl
    rw[List.take_of_length_le (Nat.le_of_lt h1)]at this
    simp at this
   ·exact h1
  have hget:ops[tab.length]? =some o:=by
   rw[hl,List.getElem?_append_right (by simp;omega)]
   simp[Nat.min_eq_left htl]
  refine VY ops l _ ?_ ?_
  ·have h2:=hl
   conv=>lhs;rw[hl]
   have hlt:tab.length<ops.length:=(List.getElem?_eq_some_iff.1 hget).1
   simp only[List.length_append,List.length_singleton]
   rw[List.take_add_one,hget]
   simp
  ·intro k x hb
   by_cases hk:k<tab.length
   ·have:(tab++[o.after.toList.foldl (fun m e=>if Region.binds .any e=true then m ||| (1 <<< e.on) ||| tab.getD e.on 0 else m) 0]).getD k 0=tab.getD k 0:=by
     simp[List.getD_eq_getElem?_getD,List.getElem?_append_left hk]
    rw[this]at hb
    exact h k x hb
   ·by_cases hk2:k=tab.length
    ·subst hk2
     simp only[List.getD_eq_getElem?_getD,List.getElem?_concat_length,Option.getD_some]at hb
     rcases Wq _ _ hb with h1 | ⟨e,he,hbd,h1⟩
     ·simp at h1
     ·have he':e∈o.after:=by simpa using he
      refine⟨fun L hc hed=> ?_,fun hsm=> ?_⟩
      ·have hL:=hed o hget e he' hbd
       rcases h1 with rfl |h1
       ·exact hL
       ·refine(h e.on x ?_).1 L hc fun o2 ho2 e2 he2 hb2=>hc e.on o2 ho2 hL e2 he2 hb2
        rw[List.getD_eq_getElem?_getD];exact h1
      ·have h2:=hsm _ o hget e he' hbd
       rcases h1 with rfl |h1
       ·exact h2
       ·have h3:=(h e.on x (by rw[List.getD_eq_getElem?_getD];exact h1)).2 hsm
        omega
    ·have:(tab++[o.after.toList.foldl (fun m e=>if Region.binds .any e=true then m ||| (1 <<< e.on) ||| tab.getD e.on 0 else m) 0]).getD k 0=0:=by
      rw[List.getD_eq_getElem?_getD,List.getElem?_eq_none (by simp;omega)]
      rfl
     rw[this]at hb
     simp at hb
def bV(f:Nat→Bool):List (Nat×List Ob)→List Ob
 | []=>[]
 | (k,os)::r=>(if f k=true then os else jD os)++bV f r
theorem AA(m:Nat):∀ (objs:List (Nat×List Ob)),yD m objs=bV (fun k=>m.testBit k) objs
 | []=>rfl
 | (k,os)::r=>by simp only[yD,bV,AA m r]
def iJ(vals:List (Nat×PV))(u:Nat→Nat→PV)(f:Nat→Bool):List Oper→Nat→Env
 | [],_=>[]
 |o::r,k=>match o.dst with
  |some d=>(d,if f k=true then valOf vals k else u k d)::iJ vals u f r (k+1)
  |none=>iJ vals u f r (k+1)
theorem OT(vals:List (Nat×PV))(u:Nat→Nat→PV)(m:Nat):∀ (ops:List Oper) (k:Nat),gy vals u m ops k=iJ vals u (fun k=>m.testBit k) ops k
 | [],_=>rfl
 |o::r,k=>by
  simp only[gy,iJ]
  cases o.dst <;>simp[OT vals u m r]
theorem pV:∀ (os:List Ob),(jD os).length=os.length
 | []=>rfl
 |_::r=>by simp[jD,pV r]
theorem ES:∀ (os:List Ob) (i:Nat) (Y:Ob),(jD os)[i]? =some Y→Y= .dead
 | [],i,Y,h=>by simp[jD]at h
 |_::r,0,Y,h=>by simp[jD]at h;exact h.symm
 |_::r,i+1,Y,h=>ES r i Y (by simpa [jD]using h)
theorem rJ(f:Nat→Bool):∀ (objs:List (Nat×List Ob)),(bV f objs).length=total objs
 | []=>rfl
 | (k,os)::r=>by
  simp only[bV,List.length_append,total,rJ f r]
  split <;>simp[pV]
theorem EK(f:Nat→Bool):∀ (a b:List (Nat×List Ob)),bV f (a++b)=bV f a++bV f b
 | [],b=>rfl
 | (k,os)::r,b=>by simp only[List.cons_append,bV,EK f r b,List.append_assoc]
theorem N9:∀ (a b:List (Nat×List Ob)),total (a++b)=total a+total b
 | [],b=>by simp[total]
 | (k,os)::r,b=>by simp only[List.cons_append,total,N9 r b];omega
theorem O8:∀ (a b:List (Nat×List Ob)) (i:Nat),i<total a→gX (a++b) i=gX a i
 | [],b,i,h=>by simp[total]at h
 | (k,os)::r,b,i,h=>by
  simp only[List.cons_append,gX]
  split
  ·rfl
  ·exact O8 r b _ (by simp only[total]at h;omega)
theorem O6:∀ (a b:List (Nat×List Ob)) (k:Nat) (os:List Ob) (i:Nat),i<os.length→gX (a++(k,os)::b) (total a+i)=some k
 | [],b,k,os,i,h=>by simp[total,gX,h]
 | (k',os')::r,b,k,os,i,h=>by
  simp only[List.cons_append,gX,total]
  rw[if_neg (by omega),show os'.length+total r+i - os'.length=total r+i by omega]
  exact O6 r b k os i h
theorem O7:∀ (a:List (Nat×List Ob)) (i k:Nat),gX a i=some k→k∈a.map (·.1)
 | [],i,k,h=>by simp[gX]at h
 | (k',os)::r,i,k,h=>by
  simp only[gX]at h
  split at h
  ·have:=Option.some.inj h
   simp[this]
  ·simp[O7 r _ k h]
theorem Oi(f:Nat→Bool):∀ (objs:List (Nat×List Ob)) (i:Nat) (Y:Ob),(bV f objs)[i]? =some Y→Y≠ .dead→∃ d,gX objs i=some d∧f d=true
 | [],i,Y,h,_=>by simp[bV]at h
 | (k,os)::r,i,Y,h,hY=>by
  simp only[bV]at h
  simp only[gX]
  have hl:(if f k=true then os else jD os).length=os.length:=by split <;>simp[pV]
  split
  ·rename_i hi
   rw[List.getElem?_append_left (by omega)]at h
   split at h
   ·rename_i hf;exact⟨k,rfl,hf⟩
   ·exact absurd (ES _ _ _ h) hY
  ·rename_i hi
   rw[List.getElem?_append_right (by omega),hl]at h
   exact Oi f r _ Y h hY
theorem WG{f f':Nat→Bool}(hf:∀ k,f k=true→f' k=true):∀ (objs:List (Nat×List Ob)) (i:Nat) (Y:Ob),(bV f objs)[i]? =some Y→Y= .dead∨(bV f' objs)[i]? =some Y
 | [],i,Y,h=>by simp[bV]at h
 | (k,os)::r,i,Y,h=>by
  simp only[bV]at h ⊢
  have hl:(if f k=true then os else jD os).length=os.length:=by split <;>simp[pV]
  have hl':(if f' k=true then os else jD os).length=os.length:=by split <;>simp[pV]
  by_cases hi:i<os.length
  ·rw[List.getElem?_append_left (by omega)]at h ⊢
   by_cases h1:f k=true
   ·rw[if_pos h1]at h
    rw[if_pos (hf k h1)]
    exact Or.inr h
   ·rw[if_neg h1]at h
    exact Or.inl (ES _ _ _ h)
  ·rw[List.getElem?_append_right (by omega),hl]at h
   rw[List.getElem?_append_right (by omega),hl']
   exact WG hf r _ Y h
theorem Ey{f f':Nat→Bool}:∀ (objs:List (Nat×List Ob)),(∀ k∈objs.map (·.1),f k=f' k)→bV f objs=bV f' objs
 | [],_=>rfl
 | (k,os)::r,h=>by
  simp only[bV]
  rw[h k (by simp),Ey r fun k hk=>h k (by simp at hk ⊢;exact Or.inr hk)]
theorem Ws{g:Gh}{n:Nat}{I:Nat→Prop}{w:World}:∀ (v:PV) (u:Value),au g n I w v u→∀ i∈bI v,i<n:=by
 intro v
 refine PV.rec (motive_1:=fun v=>∀ u,au g n I w v u→∀ i∈bI v,i<n) (motive_2:=fun vs=>∀ us,aB g n I w vs us→∀ i∈aX vs,i<n) ?_ ?_ ?_ ?_ ?_ ?_ ?_ ?_ ?_ ?_ ?_ ?_ ?_ ?_ ?_ ?_ ?_ ?_ ?_ ?_ v
 all_goals first
  | (intro o u h i hi;simp[bI]at hi;subst hi;simp only[au]at h;exact h.1)
  | (intro o a b c u h i hi;simp[bI]at hi;subst hi;simp only[au]at h;exact h.1)
  | (intro vs ih u h i hi;simp only[au]at h;obtain⟨us,_,h⟩:=h;exact ih us h i (by simpa [bI]using hi))
  | (intro f vs ih u h i hi;simp only[au]at h;obtain⟨us,_,h⟩:=h;exact ih us h i (by simpa [bI]using hi))
  | (intro v vs ih1 ih2 us h i hi;simp only[aB]at h;obtain⟨u,t,_,h1,h2⟩:=h;simp only[aX,List.mem_append]at hi;rcases hi with hi |hi;exact ih1 u h1 i hi;exact ih2 t h2 i hi)
  | (intros;rename_i hi;simp[bI,aX]at hi;done)
theorem VL{g:Gh}{n:Nat}{I:Nat→Prop}{w:World}:∀ (vs:List PV) (us:List Value),aB g n I w vs us→∀ i∈aX vs,i<n
 | [],us,h,i,hi=>by simp[aX]at hi
 |v::r,us,h,i,hi=>by
  simp only[aB]at h
  obtain⟨u,t,_,h1,h2⟩:=h
  simp only[aX,List.mem_append]at hi
  rcases hi with hi |hi
  ·exact Ws v u h1 i hi
  ·exact VL r t h2 i hi
theorem aJ.part{X:Cx Dr}{g:Gh}{ob ob':List Ob}{w:World}(s:aJ X g ob w)(hl:ob'.length≤ob.length)(hn:X.n0≤ob'.length)(h:∀ (o:Nat) (Y:Ob),ob'[o]? =some Y→Y= .dead∨ob[o]? =some Y)(hid:∀ (o:Nat) (cells:List PV),ob'[o]? =some (.box cells)→∀ i∈aX cells,i<ob'.length):aJ X g ob' w:=by
 have hb:∀ o,aI g ob' o→aI g ob o:=fun o hh=>by
  rcases hh with ⟨cells,hh⟩ | ⟨e,xs,hh,hn⟩
  ·rcases h o _ hh with h1 |h1
   ·cases h1
   ·exact Or.inl ⟨_,h1⟩
  ·rcases h o _ hh with h1 |h1
   ·cases h1
   ·exact Or.inr ⟨_,_,h1,hn⟩
 refine⟨fun o cells hh=> ?_,fun o e xs hh=> ?_,fun o o' k k' e=>s.inj o o' (hb o k) (hb o' k') e,fun o k=>s.base o (hb o k),s.bnd,s.jI,s.upd,s.bsz,hn,s.kept,s.keptJ⟩
 ·rcases h o _ hh with h1 |h1
  ·cases h1
  ·obtain⟨us,t,k1,k2,k3⟩:=s.box o cells h1
   exact⟨us,t,k1,aB.agree rfl s.jI (fun _ _=>rfl) cells us (fun i hi _=>⟨hid o cells hh i hi,Agree.refl _ _⟩) k2,k3⟩
 ·rcases h o _ hh with h1 |h1
  ·cases h1
  ·exact s.arr o e xs h1
def Gh.mix(g g':Gh)(a b:Nat):Gh:=
 ⟨fun o=>if a≤o∧o<b then g'.A o else g.A o,fun o=>if a≤o∧o<b then g'.H o else g.H o,fun o=>if a≤o∧o<b then g'.L o else g.L o,fun o=>if a≤o∧o<b then g'.S o else g.S o,
  fun o=>if a≤o∧o<b then g'.pre o else g.pre o,fun o=>if a≤o∧o<b then g'.post o else g.post o,g.J⟩
theorem qJ{g g':Gh}{a b o:Nat}(h:¬ (a≤o∧o<b)):Agree g (g.mix g' a b) o:=⟨if_neg h,if_neg h,if_neg h,if_neg h,if_neg h,if_neg h⟩
theorem afW{g g':Gh}{a b o:Nat}(h:a≤o∧o<b):Agree g' (g.mix g' a b) o:=⟨if_pos h,if_pos h,if_pos h,if_pos h,if_pos h,if_pos h⟩
end Go.Rv
set_option linter.unusedVariables false
set_option linter.unusedSimpArgs false
namespace Go.Rv
open Go.RowKit
variable {Dr:Kn}
variable {R:Type} {P:Program} {tbl:dW} {env:Env} {ob:List Ob} {o:Oper} {K:PV→List Ob→Option R} {r:R}
theorem NC{vals vals':List (Nat×PV)}{u:Nat→Nat→PV}{f:Nat→Bool}(h:∀ j,f j=true→valOf vals j=valOf vals' j):∀ (ops:List Oper) (i:Nat),iJ vals u f ops i=iJ vals' u f ops i
 | [],_=>rfl
 |o::r,i=>by
  simp only[iJ]
  cases o.dst with
  |none=>exact NC h r (i+1)
  |some d=>
   simp only
   rw[NC h r (i+1)]
   by_cases hf:f i=true
   ·rw[if_pos hf,if_pos hf,h i hf]
   ·rw[if_neg hf,if_neg hf]
def nT(tab:List Nat)(n:Nat)(objs:List (Nat×List Ob))(k i:Nat):Prop:=i<n∨∃ d,gX objs (i - n)=some d∧((tab.getD k 0).testBit d=true∨d=k)
structure POp (Dr:Kn) (P:Program) (N:Nat) (ops:List Oper) (tab:List Nat) (env0:Env) (ob0:List Ob) (vals:List (Nat×PV)) (objs:List (Nat×List Ob)) (k:Nat) (o:Oper):Prop where
 dst:vO N o.dst=true
 idv:∀ i∈bI (valOf vals k),nT tab ob0.length objs k i
 ex:∃ A os B,objs=A++(k,os)::B∧(∀ cells,Ob.box cells∈os→∀ i∈aX cells,nT tab ob0.length objs k i)∧
  ((∃ g want s,o.guard=some (g,want)∧(tab.getD k 0).testBit g=true∧(ops[g]?).bind (·.dst)=some s∧(valOf vals g= .skip∨∃ b,valOf vals g= .bool b∧b≠want)∧valOf vals k= .skip∧os=[])∨
  ((o.guard=none∨∃ g want s,o.guard=some (g,want)∧(tab.getD k 0).testBit g=true∧(ops[g]?).bind (·.dst)=some s∧valOf vals g= .bool want)∧
   WV Dr P (ob0++bV (fun j=>(tab.getD k 0).testBit j) A) (iJ vals (gU tab env0 k) (fun j=>(tab.getD k 0).testBit j) ops 0++env0) o false (valOf vals k) (ob0++bV (fun j=>(tab.getD k 0).testBit j) A++os)))
theorem AY{vals:List (Nat×PV)}{u:Nat→Nat→PV}{f:Nat→Bool}{env0:Env}{s:Nat}:∀ (ops:List Oper) (i j:Nat) (o:Oper),jC (jA ops)=true→ops[j]? =some o→o.dst=some s→look (iJ vals u f ops i++env0) s=if f (i+j)=true then valOf vals (i+j)else u (i+j) s
 | [],i,j,o,_,h,_=>by simp at h
 |o1::ops,i,0,o,hn,h,hd=>by
  simp only[List.getElem?_cons_zero,Option.some.injEq]at h
  subst h
  simp only[iJ,hd,List.cons_append,look,if_true,Nat.add_zero]
 |o1::ops,i,j+1,o,hn,h,hd=>by
  simp only[List.getElem?_cons_succ]at h
  have hmem:s∈jA ops:=by
   have:∀ (l:List Oper) (j:Nat),l[j]? =some o→s∈jA l:=by
    intro l
    induction l with
    |nil=>intro j h;simp at h
    |cons x l ih=>
     intro j h
     cases j with
     |zero=>
      simp only[List.getElem?_cons_zero,Option.some.injEq]at h
      subst h
      simp[jA,hd]
     |succ j=>
      have:=ih j (by simpa using h)
      simp only[jA]
      cases x.dst with
      |none=>exact this
      |some d=>exact List.mem_cons_of_mem _ this
   exact this ops j h
  simp only[iJ]
  simp only[jA]at hn
  cases hd1:o1.dst with
  |none=>
   rw[hd1]at hn
   simp only
   rw[AY ops (i+1) j o hn h hd]
   rw[show i+1+j=i+(j+1) by omega]
  |some d=>
   rw[hd1]at hn
   simp only[jC,Bool.and_eq_true,Bool.not_eq_true',List.contains_eq_mem,decide_eq_false_iff_not]at hn
   simp only[List.cons_append,look]
   rw[if_neg (fun e=>hn.1 (by rw[e];exact hmem)),AY ops (i+1) j o hn.2 h hd]
   rw[show i+1+j=i+(j+1) by omega]
theorem Oj{vals:List (Nat×PV)}{u:Nat→Nat→PV}{f:Nat→Bool}{env0:Env}{s:Nat}:∀ (ops:List Oper) (i:Nat),(∀ (j:Nat) (o:Oper),ops[j]? =some o→o.dst≠some s)→look (iJ vals u f ops i++env0) s=look env0 s
 | [],i,_=>rfl
 |o1::ops,i,h=>by
  have ih:=Oj (vals:=vals) (u:=u) (f:=f) (env0:=env0) ops (i+1) fun j o ho=>h (j+1) o (by simpa using ho)
  have h0:=h 0 o1 rfl
  simp only[iJ]
  cases hd1:o1.dst with
  |none=>exact ih
  |some d=>
   rw[hd1]at h0
   simp only[List.cons_append,look]
   rw[if_neg (fun e=>h0 (by rw[e]))]
   exact ih
theorem PG{s:Nat}:∀ (ops:List Oper) (i j:Nat) (oi oj:Oper),jC (jA ops)=true→ops[i]? =some oi→ops[j]? =some oj→oi.dst=some s→oj.dst=some s→i=j
 | [],i,j,oi,oj,_,h,_,_,_=>by simp at h
 |o::ops,0,0,oi,oj,_,_,_,_,_=>rfl
 |o::ops,i+1,j+1,oi,oj,hn,hi,hj,h1,h2=>by
  have hn':jC (jA ops)=true:=by
   simp only[jA]at hn
   cases hd:o.dst with
   |none=>rw[hd]at hn;exact hn
   |some d=>rw[hd]at hn;simp only[jC,Bool.and_eq_true]at hn;exact hn.2
  rw[PG ops i j oi oj hn' (by simpa using hi) (by simpa using hj) h1 h2]
 |o::ops,0,j+1,oi,oj,hn,hi,hj,h1,h2=>by
  exfalso
  simp only[List.getElem?_cons_zero,Option.some.injEq]at hi
  subst hi
  have hm:=AY (u:=fun _ _=> .undef) (vals:=[(0,PV.undef)]) (f:=fun _=>true) (env0:=[]) (s:=s)
  simp only[jA,h1,jC,Bool.and_eq_true,Bool.not_eq_true',List.contains_eq_mem,decide_eq_false_iff_not]at hn
  have:∀ (l:List Oper) (j:Nat),l[j]? =some oj→s∈jA l:=by
   intro l
   induction l with
   |nil=>intro j h;simp at h
   |cons x l ih=>
    intro j h
    cases j with
    |zero=>
     simp only[List.getElem?_cons_zero,Option.some.injEq]at h
     subst h
     simp[jA,h2]
    |succ j=>
     have:=ih j (by simpa using h)
     simp only[jA]
     cases x.dst with
     |none=>exact this
     |some d=>exact List.mem_cons_of_mem _ this
  exact hn.1 (this ops j (by simpa using hj))
 |o::ops,i+1,0,oi,oj,hn,hi,hj,h1,h2=>(PG (o::ops) 0 (i+1) oj oi hn hj hi h2 h1).symm
theorem X8{k:Nat}:∀ (A:List (Nat×List Ob)) (os:List Ob) (B:List (Nat×List Ob)) (i d:Nat),(∀ q∈B,k<q.1)→gX (A++(k,os)::B) i=some d→d<k→i<total A
 | [],os,B,i,d,hB,h,hd=>by
  simp only[List.nil_append,gX]at h
  split at h
  ·have:=Option.some.inj h;omega
  ·have:=O7 _ _ _ h
   obtain⟨q,hq,e⟩:=List.mem_map.1 this
   have:=hB q hq
   omega
 | (k',os')::A,os,B,i,d,hB,h,hd=>by
  simp only[List.cons_append,gX]at h
  simp only[total]
  split at h
  ·omega
  ·have:=X8 A os B _ d hB h hd
   omega
end Go.Rv
set_option linter.unusedVariables false
set_option linter.unusedSimpArgs false
namespace Go.Rv
open Go.RowKit
variable {Dr:Kn}
variable {R:Type} {P:Program} {tbl:dW} {env:Env} {ob:List Ob} {o:Oper} {K:PV→List Ob→Option R} {r:R}
structure Inv (X:Cx Dr) (N:Nat) (ops:List Oper) (vals:List (Nat×PV)) (objs:List (Nat×List Ob)) (env0:Env) (ob0:List Ob) (E:Nat→Bool) (g:Gh) (a:Act) (w:World):Prop where
 sim:aJ X g (ob0++bV E objs) w
 env:dB N g (ob0++bV E objs).length X.I w (iJ vals (yN env0) E ops 0++env0) a
structure Base (ob0:List Ob) (env0:Env) (X:Cx Dr):Prop where
 n0:X.n0≤ob0.length
 ob:∀ (o:Nat) (cells:List PV),ob0[o]? =some (.box cells)→∀ i∈aX cells,i<ob0.length
 env:∀ s,∀ i∈bI (look env0 s),i<ob0.length
structure aio (Dr:Kn) (P:Program) (N:Nat) (ops:Array Oper) (tab:List Nat) (es:List (Nat×Oper)) (vals:List (Nat×PV)) (objs:List (Nat×List Ob)) (env0:Env) (ob0:List Ob):Prop where
 keys:objs.map (·.1)=es.map (·.1)
 sorted:es.Pairwise (fun p q=>p.1<q.1)
 bits:∀ k j,(tab.getD k 0).testBit j=true→j<k
 at_:∀ p∈es,ops[p.1]? =some p.2
 nodup:jC (jA ops.toList)=true
 all:∀ p∈es,POp Dr P N ops.toList tab env0 ob0 vals objs p.1 p.2
theorem aeo{E:Nat→Bool}{k:Nat}{A B:List (Nat×List Ob)}{os:List Ob}(hA:k∉A.map (·.1))(hB:k∉B.map (·.1))(hE:E k=false):
  bV E (A++(k,os)::B)=bV E A++jD os++bV E B∧bV (fun j=>E j||j==k) (A++(k,os)::B)=bV E A++os++bV E B:=by
 have h1:bV (fun j=>E j||j==k) A=bV E A:=Ey A fun j hj=>by
  have:j≠k:=fun e=>hA (e▸hj)
  simp[this]
 have h2:bV (fun j=>E j||j==k) B=bV E B:=Ey B fun j hj=>by
  have:j≠k:=fun e=>hB (e▸hj)
  simp[this]
 constructor
 ·rw[EK];simp[bV,hE]
 ·rw[EK,h1];simp[bV,h2]
end Go.Rv
