/- A runner of programs on pure values, proved sound against the model: part RvB. It is about every program; the law's own text is the last. -/
import Derived.Test.YtjknhphmhfbghaaGreatFRvA
import Derived.Orders
set_option linter.unusedVariables false
set_option linter.unusedSimpArgs false
namespace Go.Rv
open Go.RowKit
variable {Dr:Kn}
variable {R:Type} {P:Program} {tbl:dX} {env:Env} {ob:List Ob} {o:Oper} {K:PV→List Ob→Option R} {r:R}
def yg(I J:Nat→Prop)(w:World):(c:CT)→c.V→Value→Prop
 | .sh e,x,u=>aZ J w (.sl e) x u
 | .int k,x,u=>aZ I w (.int k) x u
 | .bool,x,u=>aZ I w .bool x u
 | .str,x,u=>aZ I w .str x u
 | .sl e,x,u=>aZ I w (.sl e) x u
def jh(I J:Nat→Prop)(w:World):(cs:List CT)→ah.V cs→List Value→Prop
 | [],_,us=>us=[]
 |c::cs,x,us=>∃ u t,us=u::t∧yg I J w c x.1 u∧jh I J w cs x.2 t
def OwnAt(w:World)(h:Value)(b:Nat)(e:List CT)(xs:List (ah.V e)):Prop:=
 ¬ ig h∧∃ cap us t,h= .slice (some ⟨b,0,none⟩) xs.length cap∧xs.length≤cap∧cap≤maxLen∧w.heap[b]? =some (.cells us t (0,0))∧us.size=cap*e.length∧∀ i x,xs[i]? =some x→bH (fun _=>False) w e x ⟨b,i*e.length,none⟩
def bT(w:World)(J:Nat→Prop):(cs:List CT)→ah.V cs→List Value→List Nat→Prop
 | [],_,us,bs=>us=[]∧bs=[]
 | .sl e::cs,x,us,bs=>∃ h t,us=h::t∧((lst e x.1=[]∧ig h∧bT w J cs x.2 t bs)∨∃ b bt,bs=b::bt∧OwnAt w h b e (lst e x.1)∧bT w J cs x.2 t bt)
 | .sh e::cs,x,us,bs=>∃ u t,us=u::t∧aZ J w (.sl e) (lst e x.1) u∧bT w J cs x.2 t bs
 | .int k::cs,x,us,bs=>∃ u t,us=u::t∧aZ (fun _=>False) w (.int k) x.1 u∧bT w J cs x.2 t bs
 | .bool::cs,x,us,bs=>∃ u t,us=u::t∧aZ (fun _=>False) w .bool x.1 u∧bT w J cs x.2 t bs
 | .str::cs,x,us,bs=>∃ u t,us=u::t∧aZ (fun _=>False) w .str x.1 u∧bT w J cs x.2 t bs
theorem rV{w:World}{J:Nat→Prop}:∀ (cs:List CT) (x:ah.V cs) (us:List Value) (bs:List Nat),bT w J cs x us bs→us.length=cs.length
 | [],x,us,bs,h=>by simp[bT]at h;simp[h]
 |c::cs,x,us,bs,h=>by
  cases c with
  |sl e=>
   simp only[bT]at h
   obtain⟨hd,t,rfl,h | ⟨b,bt,_,_,h⟩⟩:=h
   ·simp[rV cs _ _ _ h.2.2]
   ·simp[rV cs _ _ _ h]
  |_=>
   simp only[bT]at h
   obtain⟨u,t,rfl,_,h⟩:=h
   simp[rV cs _ _ _ h]
def kz(agg:Bool)(us:List Value)(v:Value):Prop:=match agg with |true=>v= .agg us.toArray |false=>us=[v]
def qg:List (Bool×List CT)→List Value→List Value→Prop
 | [],us,vs=>us=[]∧vs=[]
 | (agg,cs)::r,us,vs=>∃ a b v rest,us=a++b∧a.length=cs.length∧vs=v::rest∧kz agg a v∧qg r b rest
def su(I:Nat→Prop)(w:World):(caps:List (List CT))→ah.V (lY caps)→List Value→Prop
 | [],_,us=>us=[]
 |cs::r,x,us=>∃ ad t,us= .pointer (some ad)::t∧I ad.block∧bH I w cs (splitV cs (lY r) x).1 ad∧su I w r (splitV cs (lY r) x).2 t
def BQ(I J:Nat→Prop)(w:World):(p:bF)→ah.V p.cells→Value→List Nat→Prop
 | .v agg cs,x,v,bs=>∃ us,jh I J w cs x us∧kz agg us v∧bs=[]
 | .r cs,x,v,bs=>∃ ad,v= .pointer (some ad)∧I ad.block∧bH I w cs x ad∧bs=[]
 | .cl h caps,x,v,bs=>∃ us,v= .func (.func h) #[] us.toArray∧su I w caps x us∧bs=[]
 | .w agg cs,x,v,bs=>∃ us,bT w J cs x us bs∧kz agg us v
 | .c agg cs,x,v,bs=>∃ us,bT w J cs x us bs∧kz agg us v
 | .m cs,x,v,bs=>∃ b pre us post t bt,bs=b::bt∧v= .pointer (some ⟨b,pre.length,none⟩)∧w.heap[b]? =some (.cells (pre++us++post).toArray t (0,0))∧bT w J cs x us bt
def jG(I J:Nat→Prop)(w:World):(ins:List bF)→ah.V (cu ins)→List Value→List Nat→Prop
 | [],_,vs,bs=>vs=[]∧bs=[]
 |p::r,x,vs,bs=>∃ v t b1 b2,vs=v::t∧bs=b1++b2∧BQ I J w p (splitV p.cells (cu r) x).1 v b1∧jG I J w r (splitV p.cells (cu r) x).2 t b2
def P5(w w':World)(J:Nat→Prop):(p:bF)→ah.V p.io→Value→List Nat→Prop
 | .w agg cs,y,v,bs=>∃ us,kz agg us v∧bT w' J cs y us bs
 | .m cs,y,v,bs=>∃ b pre us0 us post t t' bt,bs=b::bt∧v= .pointer (some ⟨b,pre.length,none⟩)∧w.heap[b]? =some (.cells (pre++us0++post).toArray t (0,0))∧us0.length=cs.length∧w'.heap[b]? =some (.cells (pre++us++post).toArray t' (0,0))∧bT w' J cs y us bt
 | .v _ _,_,_,bs=>bs=[]
 | .r _,_,_,bs=>bs=[]
 | .cl _ _,_,_,bs=>bs=[]
 | .c _ _,_,_,bs=>bs=[]
def vT(w w':World)(J:Nat→Prop):(ins:List bF)→ah.V (dZ ins)→List Value→List Nat→Prop
 | [],_,vs,bs=>vs=[]∧bs=[]
 |p::r,y,vs,bs=>∃ v t b1 b2,vs=v::t∧bs=b1++b2∧P5 w w' J p (splitV p.io (dZ r) y).1 v b1∧vT w w' J r (splitV p.io (dZ r) y).2 t b2
def rJ:List Value→Value
 | [v]=>v
 |vs=> .tuple vs.toArray
def Bq:Bool→World→World→List Nat→List Value→Ending→Prop
 |false,_,_,_,vs,e=>e= .returned (rJ vs)
 |true,w,w',bs,vs,e=>∃ (b:Nat) (pr us po:List Value) (t:TypeId),vs=[.agg us.toArray]∧e= .returned (.pointer (some ⟨b,pr.length,none⟩))∧w'.heap[b]? =some (.cells (pr++us++po).toArray t (0,0))∧w.heap.size≤b∧b∉bs
theorem abj:∀ {outs:List (Bool×List CT)} {us vs:List Value},qg outs us vs→mO outs=false∧vM outs=outs
 |outs,us,vs,h=>by
  unfold mO vM
  split
  ·obtain⟨_,b,_,rest,_,_,_,_,h⟩:=h
   obtain⟨a,_,_,_,_,hl,_,hg,_⟩:=h
   have:a=[_]:=hg
   rw[this]at hl
   simp at hl
  ·exact⟨rfl,rfl⟩
def aF(Dr:Kn)(P:Program)(f:FuncId)(S:aG):Prop:=
 (∀ args w,(callFunc f args).run P w= .ok (.enter f args) w)∧
 ∀ (w:World) (T:List Nat) (J:Nat→Prop) (x:ah.V (cu S.ins)) (y:ah.V (dL S.outs++dZ S.ins)) (vals avals:List Value),
  (∀ b,J b→b<w.heap.size∧b∉T)→T.Nodup→Dr.tab J w→jG (fun b=>b<w.heap.size∧b∉T) J w S.ins x vals T→S.F x=some y→yB S.pack vals avals→
  Calls P f avals.toArray w fun e w'=>aO Dr w.heap.size T w w'∧∃ us vs bs bs',Bq (mO S.outs) w w' (bs++bs') vs e∧bT w' J (dL S.outs) (splitV (dL S.outs) (dZ S.ins) y).1 us bs∧qg (vM S.outs) us vs∧
   vT w w' J S.ins (splitV (dL S.outs) (dZ S.ins) y).2 vals bs'∧(bs++bs').Nodup∧∀ b∈bs++bs',b∈T∨w.heap.size≤b
theorem uU:∀ (cs ds:List CT) (x:ah.V cs) (y:ah.V ds),splitV cs ds (lW cs ds x y)=(x,y)
 | [],ds,x,y=>rfl
 |c::cs,ds,x,y=>by
  simp only[lW,splitV]
  rw[uU cs ds x.2 y]
  rfl
theorem abZ{e:List CT}{q:Nat}{y:List (ah.V e)}(h:sK ob (.sl e) (.own q)=some y):∃ e' xs,ob[q]? =some (.arr e' xs)∧fH e' e xs=some y:=by
 have h':(match ob[q]? with |some (.arr e' xs)=>fH e' e xs |_=>none)=some y:=h
 clear h
 split at h'
 ·rename_i e' xs hq
  exact⟨e',xs,hq,h'⟩
 ·cases h'
theorem LJ{e:List CT}{q:Nat}{y:List (ah.V e)}(h:xW ob (.sl e) (.own q)=some y):∃ e' xs,ob[q]? =some (.arr e' xs)∧fH e' e xs=some y:=by
 have h':(match ob[q]? with |some (.arr e' xs)=>fH e' e xs |_=>none)=some y:=h
 clear h
 split at h'
 ·rename_i e' xs hq
  exact⟨e',xs,hq,h'⟩
 ·cases h'
theorem abY{e:List CT}{q sz off len:Nat}{y:List (ah.V e)}(h:sK ob (.sl e) (.ref q sz off len)=some y):∃ e' xs,ob[q]? =some (.arr e' xs)∧off+len≤xs.length∧fH e' e ((xs.drop off).take len)=some y:=by
 have h':(match ob[q]? with |some (.arr e' xs)=>if off+len≤xs.length then fH e' e ((xs.drop off).take len)else none |_=>none)=some y:=h
 clear h
 split at h'
 ·rename_i e' xs hq
  split at h'
  ·rename_i hol
   exact⟨e',xs,hq,hol,h'⟩
  ·cases h'
 ·cases h'
theorem acy{X:Cx Dr}{g:Gh}{w:World}(s:aK X g ob w){I':Nat→Prop}(hI:∀ b,X.I b→I' b){c:CT}{p:PV}{y:c.V}{u:Value}(hro:∀ o∈bI p,aJ g ob o→I' (g.A o))(h:sK ob c p=some y)(hr:aj g ob.length X.I w p u):
  yg I' g.J w c y u:=by
 have old:∀ {c:CT} {y:c.V},CT.nS c p=some y→aZ I' w c y u:=fun h=>aZ.keep hI (fun _ _=>rfl) _ _ _ (xQ s.jI h hr)
 have fromSl:∀ {e:List CT} {ys:List (ah.V e)} (q:Nat) (e':List CT) (xs:List (ah.V e')),q∈bI p→ob[q]? =some (.arr e' xs)→mQ X.I w e ys u→(∀ a c n,u= .slice (some a) n c→n≠0→a.block=g.A q)→(ys.length=0∨aJ g ob q)→aZ I' w (.sl e) ys u:=by
  intro e ys q e' xs hq hob hs hblk hb
  obtain⟨a,cap,k1,k2,k3⟩:=hs
  simp only[aZ]
  refine⟨a,cap,k1,k2, ?_⟩
  by_cases h0:ys.length=0
  ·exact Or.inl h0
  rcases k3 with k3 | ⟨ad,rfl,k5⟩
  ·exact Or.inl k3
  ·refine Or.inr ⟨ad,rfl, ?_,fun i x hx=>bH.keep hI (fun _ _=>rfl) _ _ _ rfl (k5 i x hx)⟩
   rw[hblk ad cap _ k1 h0]
   rcases hb with hb |hb
   ·exact absurd hb h0
   ·exact hro q hq hb
 cases c with
 |int k=>
  have h':CT.nS (.int k) p=some y:=by cases p <;>exact h
  exact old h'
 |bool=>
  have h':CT.nS .bool p=some y:=by cases p <;>exact h
  exact old h'
 |str=>
  have h':CT.nS .str p=some y:=by cases p <;>exact h
  exact old h'
 |sl e=>
  cases p with
  |own q=>
   have hsl:=AY s (e:=e) (v:= .own q) h hr
   obtain⟨e',xs,hq,h'⟩:=abZ h
   simp only[aj]at hr
   have hlen:=pU h' (fun e ys=>ys.length=xs.length) rfl
   obtain⟨k1,k2,kp,h3⟩:=s.arr q e' xs hq
   refine fromSl q e' xs (by simp[bI]) hq hsl ?_ ?_
   ·intro a c n hu hn
    rw[hr.2.1]at hu
    rcases h3 with h3 | ⟨_,cap,us,t',h3,_⟩
    ·obtain⟨a',ha'⟩:=h3.2
     rw[ha']at hu
     simp only[Value.slice.injEq]at hu
     omega
    ·rw[h3]at hu
     simp only[Value.slice.injEq,Option.some.injEq]at hu
     rw[←hu.1]
   ·rcases h3 with h3 | ⟨hne,_⟩
    ·exact Or.inl (by rw[hlen,h3.1];rfl)
    ·exact Or.inr (Or.inr ⟨_,_,hq,hne⟩)
  |ref q sz off len=>
   have hsl:=AY s (e:=e) (v:= .ref q sz off len) h hr
   obtain⟨e',xs,hq,hol,h'⟩:=abY h
   simp only[aj]at hr
   obtain⟨_,hsz,aq,l,c,a',c',hH,hu,hlc,h4⟩:=hr
   have hlen:=pU h' (fun e ys=>ys.length=len) (by simp;omega)
   obtain⟨k1,k2,kp,h3⟩:=s.arr q e' xs hq
   refine fromSl q e' xs (by simp[bI]) hq hsl ?_ ?_
   ·intro a c n hu' hn
    rw[hu]at hu'
    simp only[Value.slice.injEq]at hu'
    rcases h4 with h4 | ⟨ad,had,ha'⟩
    ·omega
    ·rcases h3 with h3 | ⟨_,cap,us,t',h3,_⟩
     ·have:xs.length=0:=by rw[h3.1];rfl
      omega
     ·rw[h3,had]at hH
      simp only[Value.slice.injEq,Option.some.injEq]at hH
      rw[ha']at hu'
      have:=Option.some.inj hu'.1
      rw[←this,ru, ←hH.1]
   ·rcases h3 with h3 | ⟨hne,_⟩
    ·have:xs.length=0:=by rw[h3.1];rfl
     exact Or.inl (by rw[hlen];omega)
    ·exact Or.inr (Or.inr ⟨_,_,hq,hne⟩)
  |_=>exact old h
 |sh e=>
  cases p with
  |sh e' xs=>
   have h':fH e' e xs=some y:=h
   simp only[aj]at hr
   exact pU h' (fun e ys=>aZ g.J w (.sl e) ys u) hr
  |_=>cases h
theorem ET{X:Cx Dr}{g:Gh}{w:World}(s:aK X g ob w){I':Nat→Prop}(hI:∀ b,X.I b→I' b):∀ (cs:List CT) (ps:List PV) (x:ah.V cs) (us:List Value),(∀ o∈aW ps,aJ g ob o→I' (g.A o))→jq ob cs ps=some x→ay g ob.length X.I w ps us→jh I' g.J w cs x us
 | [],[],x,us,_,h,hr=>by simpa [ay,jh]using hr
 | [],_::_,x,us,_,h,hr=>by simp[jq]at h
 |_::_,[],x,us,_,h,hr=>by simp[jq]at h
 |c::cs,p::ps,x,us,hro,h,hr=>by
  simp only[jq]at h
  split at h
  ·rename_i y z h1 h2
   have:=Option.some.inj h
   subst this
   simp only[ay]at hr
   obtain⟨u,t,rfl,k1,k2⟩:=hr
   simp only[jh]
   exact⟨u,t,rfl,acy s hI (fun o ho=>hro o (by simp[aW,ho])) h1 k1,ET s hI cs ps z t (fun o ho=>hro o (by simp[aW,ho])) h2 k2⟩
  ·cases h
theorem Ec{I I':Nat→Prop}{w:World}:∀ (e:List CT) (x:ah.V e) (a:Addr),e.all CT.scalar=true→bH I w e x a→bH I' w e x a
 | [],_,_,_,_=>by simp[bH]
 |c::cs,x,a,h,hr=>by
  simp only[List.all_cons,Bool.and_eq_true]at h
  simp only[bH]at hr ⊢
  obtain⟨⟨u,hu,hc⟩,hr⟩:=hr
  refine⟨⟨u,hu, ?_⟩,Ec cs x.2 _ h.2 hr⟩
  cases c with
  |sl e=>simp[CT.scalar]at h
  |sh e=>simp[CT.scalar]at h
  |_=>simpa [aZ]using hc
theorem xU{X:Cx Dr}{g:Gh}{w:World}(s:aK X g ob w):∀ (cs:List CT) (ps:List PV) (y:ah.V cs) (us:List Value),cs.all CT.flat=true→(aW ps).Nodup→fZ ob cs ps=some y→ay g ob.length X.I w ps us→
  ∃ bs,bT w g.J cs y us bs∧bs.Nodup∧∀ b∈bs,∃ o∈aW ps,aJ g ob o∧b=g.A o
 | [],[],y,us,_,_,h,hr=>by
  simp only[ay]at hr
  exact⟨[],by simp[bT,hr],List.nodup_nil,by simp⟩
 | [],_::_,y,us,_,_,h,hr=>by simp[fZ]at h
 |_::_,[],y,us,_,_,h,hr=>by simp[fZ]at h
 |c::cs,p::ps,y,us,hf,hn,h,hr=>by
  simp only[List.all_cons,Bool.and_eq_true]at hf
  simp only[fZ]at h
  split at h <;>try (cases h;done)
  rename_i y1 y2 h1 h2
  have:=Option.some.inj h
  subst this
  simp only[ay]at hr
  obtain⟨u,t,rfl,hu,ht⟩:=hr
  simp only[aW]at hn ⊢
  have hn2:=List.nodup_append.1 hn
  obtain⟨bs,k1,k2,k3⟩:=xU s cs ps y2 t hf.2 hn2.2.1 h2 ht
  have k3':∀ b∈bs,∃ o∈bI p++aW ps,aJ g ob o∧b=g.A o:=fun b hb=>by
   obtain⟨o,ho,hk⟩:=k3 b hb
   exact⟨o,List.mem_append.2 (Or.inr ho),hk⟩
  cases c with
  |sl e=>
   cases p with
   |own q=>
    obtain⟨e',xs,hq,h'⟩:=LJ h1
    obtain⟨he,hy⟩:=EF h'
    subst he
    subst hy
    simp only[aj]at hu
    obtain⟨_,hu1,_⟩:=hu
    obtain⟨_,_,_,ka⟩:=s.arr q e' _ hq
    rcases ka with ka | ⟨hne,cap,cells,te,n1,n2,n2',n3,n4,n5,n6⟩
    ·exact⟨bs,by simp only[bT];exact⟨u,t,rfl,Or.inl ⟨ka.1,by rw[hu1];exact ka.2,k1⟩⟩,k2,k3'⟩
    ·have hbk:aJ g ob q:=Or.inr ⟨_,_,hq,hne⟩
     refine⟨g.A q::bs, ?_, ?_, ?_⟩
     ·simp only[bT]
      exact⟨u,t,rfl,Or.inr ⟨g.A q,bs,rfl,⟨by rw[hu1];exact hne,cap,cells,te,by rw[hu1,n1],n2,n2',n3,n4,fun i x hx=>Ec _ _ _ hf.1 (n5 i x hx)⟩,k1⟩⟩
     ·refine List.nodup_cons.2 ⟨fun hm=> ?_,k2⟩
      obtain⟨o,ho,hob,hA⟩:=k3 _ hm
      have:=s.inj q o hbk hob hA
      subst this
      exact hn2.2.2 _ (by simp[bI]) _ ho rfl
     ·intro b hb'
      rcases List.mem_cons.1 hb' with rfl |hb'
      ·exact⟨q,by simp[bI],hbk,rfl⟩
      ·exact k3' b hb'
   |nils=>
    have h3:some ([]:List (ah.V e))=some y1:=h1
    have:=Option.some.inj h3
    subst this
    simp only[aj]at hu
    exact⟨bs,⟨u,t,rfl,Or.inl ⟨rfl,⟨none,hu⟩,k1⟩⟩,k2,k3'⟩
   |emp=>
    have h3:some ([]:List (ah.V e))=some y1:=h1
    have:=Option.some.inj h3
    subst this
    simp only[aj]at hu
    exact⟨bs,⟨u,t,rfl,Or.inl ⟨rfl,hu,k1⟩⟩,k2,k3'⟩
   |_=>cases h1
  |sh e=>
   cases p with
   |sh e' xs=>
    have h':fH e' e xs=some y1:=h1
    simp only[aj]at hu
    refine⟨bs, ?_,k2,k3'⟩
    simp only[bT]
    exact⟨u,t,rfl,pU h' (fun e ys=>aZ g.J w (.sl e) ys u) hu,k1⟩
   |_=>cases h1
  |int k=>
   have h3:CT.nS (.int k) p=some y1:=by cases p <;>exact h1
   have:=xQ s.jI h3 hu
   exact⟨bs,by simp only[bT];exact⟨u,t,rfl,by simpa [aZ]using this,k1⟩,k2,k3'⟩
  |bool=>
   have h3:CT.nS .bool p=some y1:=by cases p <;>exact h1
   have:=xQ s.jI h3 hu
   exact⟨bs,by simp only[bT];exact⟨u,t,rfl,by simpa [aZ]using this,k1⟩,k2,k3'⟩
  |str=>
   have h3:CT.nS .str p=some y1:=by cases p <;>exact h1
   have:=xQ s.jI h3 hu
   exact⟨bs,by simp only[bT];exact⟨u,t,rfl,by simpa [aZ]using this,k1⟩,k2,k3'⟩
theorem EX{g:Gh}{n:Nat}{I:Nat→Prop}{w:World}{b:Bool}{cs:List CT}{v:PV}{u:Value}{vs:List PV}(h:aj g n I w v u)(hs:lV b cs v=true)(hf:flat v=some vs):∃ us,ay g n I w vs us∧kz b us u∧us.length=cs.length:=by
 obtain⟨us,m1,m2⟩:=vF h hf
 have hl:=jJ _ _ m2
 refine⟨us,m2, ?_⟩
 cases v <;>simp only[Rv.flat,Option.some.injEq]at hf <;>(try (simp[lV]at hs;done)) <;>(try (cases hf;done))
 case agg ws=>
  subst hf
  simp only[lV,Bool.and_eq_true,beq_iff_eq]at hs
  simp only[aj]at h
  obtain⟨us',rfl,_⟩:=h
  have:us'=us:=by simpa [Value.cells]using m1
  subst this
  obtain⟨rfl,hs2⟩:=hs
  exact⟨rfl,by rw[hl];exact hs2⟩
 all_goals
  subst hf
  simp only[lV,Bool.and_eq_true,beq_iff_eq,Bool.not_eq_true']at hs
  obtain⟨rfl,hs2⟩:=hs
  simp only[ay]at m2
  obtain⟨u',t',rfl,hu',rfl⟩:=m2
  have hone:u.cells= #[u]:=by
   have:=VO h rfl
   cases u <;>first |rfl |simp[Value.oneCell']at this
  rw[hone]at m1
  have:u=u':=by simpa using m1
  subst this
  exact⟨rfl,by simp[hs2]⟩
end Go.Rv
set_option linter.unusedVariables false
set_option linter.unusedSimpArgs false
namespace Go.Rv
open Go.RowKit
variable {Dr:Kn}
variable {R:Type} {P:Program} {tbl:dX} {env:Env} {ob:List Ob} {o:Oper} {K:PV→List Ob→Option R} {r:R}
theorem aK.slot{X:Cx Dr}{g g':Gh}{w:World}(s:aK X g ob w)(hJ:g'.J=g.J)(ha:∀ o,o<ob.length→Agree g g' o):aK X g' (ob++[Ob.dead]) w∧Keep g ob.length X.I w g' (ob++[Ob.dead]).length w:=by
 have hk:Keep g ob.length X.I w g' (ob++[Ob.dead]).length w:=⟨by simp,ha,hJ,s.jI,fun _ _=>rfl⟩
 have old:∀ (o:Nat) (Z:Ob),(ob++[Ob.dead])[o]? =some Z→Z= .dead∨(o<ob.length∧ob[o]? =some Z):=fun o Z h=>by
  rcases Nat.lt_trichotomy o ob.length with h1 |h1 |h1
  ·rw[List.getElem?_append_left h1]at h;exact Or.inr ⟨h1,h⟩
  ·subst h1;simp at h;exact Or.inl h.symm
  ·rw[List.getElem?_eq_none (by simp;omega)]at h;simp at h
 have blk:∀ o,aJ g' (ob++[Ob.dead]) o→o<ob.length∧aJ g ob o:=fun o h=>by
  rcases h with ⟨cells,h⟩ | ⟨e,xs,h,hn⟩
  ·rcases old o _ h with h1 | ⟨h1,h2⟩
   ·cases h1
   ·exact⟨h1,Or.inl ⟨_,h2⟩⟩
  ·rcases old o _ h with h1 | ⟨h1,h2⟩
   ·cases h1
   ·rw[(ha o h1).H]at hn
    exact⟨h1,Or.inr ⟨_,_,h2,hn⟩⟩
 refine⟨⟨fun o cells h=> ?_,fun o e xs h=> ?_,fun o o' h h' e=> ?_,fun o h=> ?_,s.bnd,by rw[hJ];exact s.jI,s.upd,s.bsz,by have:=s.nle;simp;omega,fun o ho=>(s.kept o ho).trans (ha o (by have:=s.nle;omega)),by rw[hJ];exact s.keptJ⟩,hk⟩
 ·rcases old o _ h with h1 | ⟨h1,h2⟩
  ·cases h1
  ·obtain⟨us,t,k1,k2,k3,k4,k5⟩:=s.box o cells h2
   have ag:=ha o h1
   exact⟨us,t,by rw[ag.A,ag.pre,ag.post];exact k1,ay.keep hk _ _ k2,by rw[ag.A];exact k3,by rw[ag.S];exact k4,by rw[ag.L];exact k5⟩
 ·rcases old o _ h with h1 | ⟨h1,h2⟩
  ·cases h1
  ·obtain⟨k1,k2,kp,k3⟩:=s.arr o e xs h2
   have ag:=ha o h1
   refine⟨by rw[ag.S];exact k1,by rw[ag.L];exact k2,by rw[ag.pre];exact kp, ?_⟩
   unfold sW at*
   rw[ag.A,ag.H]
   exact k3
 ·obtain⟨h1,h2⟩:=blk o h
  obtain⟨h3,h4⟩:=blk o' h'
  rw[(ha o h1).A,(ha o' h3).A]at e
  exact s.inj o o' h2 h4 e
 ·obtain⟨h1,h2⟩:=blk o h
  rw[(ha o h1).A]
  exact s.base o h2
theorem aK.EP{X:Cx Dr}{g:Gh}{w:World}(s:aK X g ob w){q:Nat}(hq:ob[q]? =some .dead)(Y:Ob)
  (hbox:∀ cells,Y= .box cells→∃ us t,w.heap[g.A q]? =some (.cells (g.pre q++us++g.post q).toArray t (0,0))∧ay g ob.length X.I w cells us∧¬ X.I (g.A q)∧g.S q=0∧g.L q=1)
  (harr:∀ e xs,Y= .arr e xs→g.S q=e.length∧g.L q=xs.length∧g.pre q=[]∧sW g X.I w q e xs)
  (hb:(∃ cells,Y= .box cells)∨(∃ e xs,Y= .arr e xs∧¬ ig (g.H q))→(X.B≤g.A q∨g.A q∈X.T)∧∀ o,aJ g ob o→g.A o≠g.A q):
  aK X g (ob.set q Y) w:=by
 have blk:∀ o,aJ g (ob.set q Y) o→(o=q∧((∃ cells,Y= .box cells)∨(∃ e xs,Y= .arr e xs∧¬ ig (g.H q))))∨(o≠q∧aJ g ob o):=fun o h=>by
  rcases h with ⟨cells,h⟩ | ⟨e,xs,h,hn⟩
  ·rcases lT h with ⟨h1,h2⟩ | ⟨h1,h2⟩
   ·exact Or.inl ⟨h1,Or.inl ⟨_,h2.symm⟩⟩
   ·exact Or.inr ⟨h1,Or.inl ⟨_,h2⟩⟩
  ·rcases lT h with ⟨h1,h2⟩ | ⟨h1,h2⟩
   ·subst h1;exact Or.inl ⟨rfl,Or.inr ⟨_,_,h2.symm,hn⟩⟩
   ·exact Or.inr ⟨h1,Or.inr ⟨_,_,h2,hn⟩⟩
 refine⟨fun o cells h=> ?_,fun o e xs h=> ?_,fun o o' h h' e=> ?_,fun o h=> ?_,s.bnd,s.jI,s.upd,s.bsz,by simpa using s.nle,s.kept,s.keptJ⟩
 ·rw[List.length_set]
  rcases lT h with ⟨h1,h2⟩ | ⟨h1,h2⟩
  ·subst h1;exact hbox _ h2.symm
  ·exact s.box o cells h2
 ·rcases lT h with ⟨h1,h2⟩ | ⟨h1,h2⟩
  ·subst h1;exact harr _ _ h2.symm
  ·exact s.arr o e xs h2
 ·rcases blk o h with ⟨h1,h2⟩ | ⟨h1,h2⟩ <;>rcases blk o' h' with ⟨h3,h4⟩ | ⟨h3,h4⟩
  ·rw[h1,h3]
  ·rw[h1]at e;exact absurd e.symm ((hb h2).2 o' h4)
  ·rw[h3]at e;exact absurd e ((hb h4).2 o h2)
  ·exact s.inj o o' h2 h4 e
 ·rcases blk o h with ⟨h1,h2⟩ | ⟨h1,h2⟩
  ·rw[h1];exact(hb h2).1
  ·exact s.base o h2
theorem adI{g:Gh}{n:Nat}{I:Nat→Prop}{w:World}{c:CT}{x:c.V}{u:Value}(h:yg I g.J w c x u):aj g n I w (c.tJ x) u:=by
 cases c <;>simpa [CT.tJ,aj,aZ,yg]using h
theorem Wn{I:Nat→Prop}{w:World}{h:Value}{b:Nat}{e:List CT}{xs:List (ah.V e)}(ho:OwnAt w h b e xs)(hI:¬ I b):
  ¬ ig h∧∃ cap us t,h= .slice (some ⟨b,0,none⟩) xs.length cap∧xs.length≤cap∧cap≤maxLen∧w.heap[b]? =some (.cells us t (0,0))∧us.size=cap*e.length∧(∀ i x,xs[i]? =some x→bH I w e x ⟨b,i*e.length,none⟩)∧¬ I b:=by
 obtain⟨h0,cap,us,t,h1,h2,h3,h4,h5,h6⟩:=ho
 exact⟨h0,cap,us,t,h1,h2,h3,h4,h5,fun i x hx=>bH.keep (fun _ h=>h.elim) (fun _ h=>h.elim) _ _ _ rfl (h6 i x hx),hI⟩
theorem qI{X:Cx Dr}{w:World}{J:Nat→Prop}:∀ (cs:List CT) (y:ah.V cs) (us:List Value) (bs:List Nat) (g:Gh) (ob:List Ob),bT w J cs y us bs→g.J=J→bs.Nodup→
  (∀ b∈bs,(X.B≤b∨b∈X.T)∧¬ X.I b∧∀ o,aJ g ob o→g.A o≠b)→aK X g ob w→
  ∃ g',aK X g' (ob++(bn cs y ob.length).2) w∧Keep g ob.length X.I w g' (ob++(bn cs y ob.length).2).length w∧ay g' (ob++(bn cs y ob.length).2).length X.I w (bn cs y ob.length).1 us∧
   ∀ o,aJ g' (ob++(bn cs y ob.length).2) o→(o<ob.length∧aJ g ob o)∨g'.A o∈bs
 | [],y,us,bs,g,ob,h,hJ,hn,hd,s=>by
  simp only[bT]at h
  obtain⟨rfl,rfl⟩:=h
  exact⟨g,by simpa [bn]using s,by simpa [bn]using s.refl,by simp[bn,ay],fun o ho=>by simp[bn]at ho;exact Or.inl ⟨ho.lt,ho⟩⟩
 | .sl e::cs,y,us,bs,g,ob,h,hJ,hn,hd,s=>by
  simp only[bT]at h
  obtain⟨hd',t,rfl,h⟩:=h
  have step:∀ (b0:Nat) (g1:Gh),aK X g1 (ob++[Ob.arr e y.1]) w→Keep g ob.length X.I w g1 (ob++[Ob.arr e y.1]).length w→(g1.H ob.length=hd')→(∃ a l c,hd'= .slice a l c)→
    (∀ o,aJ g1 (ob++[Ob.arr e y.1]) o→(o<ob.length∧aJ g ob o)∨g1.A o=b0)→∀ bt,(∀ b∈bt,b∈bs)→(b0∈bs∨∀ o,aJ g1 (ob++[Ob.arr e y.1]) o→o<ob.length∧aJ g ob o)→bT w J cs y.2 t bt→bt.Nodup→(∀ b∈bt,∀ o,aJ g1 (ob++[Ob.arr e y.1]) o→g1.A o≠b)→
    ∃ g',aK X g' (ob++(bn (.sl e::cs) y ob.length).2) w∧Keep g ob.length X.I w g' (ob++(bn (.sl e::cs) y ob.length).2).length w∧ay g' (ob++(bn (.sl e::cs) y ob.length).2).length X.I w (bn (.sl e::cs) y ob.length).1 (hd'::t)∧
     ∀ o,aJ g' (ob++(bn (.sl e::cs) y ob.length).2) o→(o<ob.length∧aJ g ob o)∨g'.A o∈bs:=by
   intro b0 g1 s1 k1 hH hsl hblk1 bt hsub hb0 ho hnb hdb
   obtain⟨g2,s2,k2,r2,n2⟩:=qI cs y.2 t bt g1 (ob++[Ob.arr e y.1]) ho (by rw[k1.J,hJ]) hnb (fun b hb=>⟨(hd b (hsub b hb)).1,(hd b (hsub b hb)).2.1,hdb b hb⟩) s1
   have e1:(ob++[Ob.arr e y.1]).length=ob.length+1:=by simp
   rw[e1]at s2 k2 r2 n2
   have e2:ob++[Ob.arr e y.1]++(bn cs y.2 (ob.length+1)).2=ob++(bn (.sl e::cs) y ob.length).2:=by simp[bn]
   rw[e2]at s2 k2 r2 n2
   rw[e1]at k1
   refine⟨g2,s2,k1.trans k2, ?_,fun o ho=> ?_⟩
   ·have e3:(bn (.sl e::cs) y ob.length).1= .own ob.length::(bn cs y.2 (ob.length+1)).1:=by simp[bn]
    rw[e3]
    simp only[ay]
    refine⟨hd',t,rfl, ?_,r2⟩
    simp only[aj]
    exact⟨Nat.lt_of_lt_of_le (Nat.lt_succ_self _) k2.le,by rw[(k2.agr _ (Nat.lt_succ_self _)).H,hH],hsl⟩
   ·rcases n2 o ho with ⟨h1,h2⟩ |h1
    ·rcases hb0 with hb0 |hb0
     ·rcases hblk1 o h2 with h3 |h3
      ·exact Or.inl h3
      ·right;rw[(k2.agr o h1).A,h3];exact hb0
     ·exact Or.inl (hb0 o h2)
    ·exact Or.inr (hsub _ h1)
  rcases h with ⟨hx,hemp,ho⟩ | ⟨b,bt,rfl,hown,ho⟩
  ·have hnew:∀ o,aJ (g.push ob.length 0 hd' 0 e.length) (ob++[Ob.arr e y.1]) o→o<ob.length∧aJ g ob o:=by
    rintro o (⟨cells,h⟩ | ⟨e',xs,h,hne⟩)
    ·rcases Nat.lt_trichotomy o ob.length with h1 |h1 |h1
     ·rw[List.getElem?_append_left h1]at h
      exact⟨h1,Or.inl ⟨_,h⟩⟩
     ·subst h1;simp at h
     ·rw[List.getElem?_eq_none (by simp;omega)]at h;simp at h
    ·rcases Nat.lt_trichotomy o ob.length with h1 |h1 |h1
     ·rw[List.getElem?_append_left h1]at h
      simp only[Gh.push,Gh.dB,if_neg (Nat.ne_of_lt h1)]at hne
      exact⟨h1,Or.inr ⟨_,_,h,hne⟩⟩
     ·subst h1;simp[Gh.push,Gh.dB]at hne;exact absurd hemp hne
     ·rw[List.getElem?_eq_none (by simp;omega)]at h;simp at h
   obtain⟨a0,ha0⟩:=hemp
   refine step 0 (g.push ob.length 0 hd' 0 e.length) (s.add _ 0 _ _ _ (fun _ h=>by cases h) ?_ ?_) (by simpa using Keep.push s.jI) (by simp[Gh.push,Gh.dB]) ⟨_,_,_,ha0⟩ (fun o ho=>Or.inl (hnew o ho)) bs (fun _ h=>h) (Or.inr hnew) ho hn ?_
   ·intro e' xs hx'
    cases hx'
    exact⟨rfl,by rw[show y.1=[]from hx];rfl,Or.inl ⟨hx,⟨a0,ha0⟩⟩⟩
   ·rintro(⟨_,h⟩ | ⟨_,_,_,h⟩)
    ·cases h
    ·exact absurd ⟨a0,ha0⟩ h
   ·intro b hb o ho
    obtain⟨h1,h2⟩:=hnew o ho
    rw[(L8 (Nat.ne_of_lt h1)).A]
    exact(hd b hb).2.2 o h2
  ·obtain⟨hb1,hb2,hb3⟩:=hd b (by simp)
   have hrow:=Wn (I:=X.I) hown hb2
   have hbt:=List.nodup_cons.1 hn
   obtain⟨hne,cap,cells,te,o1,o2,o2',o3,o4,o5,o6⟩:=hrow
   have hcase:∀ o,aJ (g.push ob.length b hd' (lst e y.1).length e.length) (ob++[Ob.arr e y.1]) o→(o<ob.length∧aJ g ob o)∨(g.push ob.length b hd' (lst e y.1).length e.length).A o=b:=by
    intro o h
    have hlt:o<ob.length∨o=ob.length:=by have:=h.lt;simp at this;omega
    rcases hlt with h1 |h1
    ·left
     refine⟨h1, ?_⟩
     rcases h with ⟨c',h⟩ | ⟨e',xs,h,hne⟩
     ·rw[List.getElem?_append_left h1]at h;exact Or.inl ⟨_,h⟩
     ·rw[List.getElem?_append_left h1]at h
      simp only[Gh.push,Gh.dB,if_neg (Nat.ne_of_lt h1)]at hne
      exact Or.inr ⟨_,_,h,hne⟩
    ·right;subst h1;simp[Gh.push,Gh.dB]
   refine step b (g.push ob.length b hd' (lst e y.1).length e.length) (s.add _ b _ _ _ (fun _ h=>by cases h) ?_ ?_) (by simpa using Keep.push s.jI) (by simp[Gh.push,Gh.dB]) ⟨_,_,_,o1⟩ hcase bt (fun _ h=>List.mem_cons_of_mem _ h) (Or.inl (by simp)) ho hbt.2 ?_
   ·intro e' xs hx'
    cases hx'
    exact⟨rfl,rfl,Or.inr ⟨hne,cap,cells,te,o1,o2,o2',o3,o4,o5,o6⟩⟩
   ·intro _
    exact⟨hb1,hb3⟩
   ·intro b' hb' o ho
    rcases hcase o ho with ⟨h1,h2⟩ |h1
    ·rw[(L8 (Nat.ne_of_lt h1)).A]
     exact(hd b' (List.mem_cons_of_mem _ hb')).2.2 o h2
    ·rw[h1]
     intro e'
     exact hbt.1 (e'▸hb')
 | .sh e::cs,y,us,bs,g,ob,h,hJ,hn,hd,s=>by
  simp only[bT]at h
  obtain⟨u,t,rfl,hr,ho⟩:=h
  obtain⟨g',s',k',r',n'⟩:=qI cs y.2 t bs g ob ho hJ hn hd s
  refine⟨g',s',k', ?_,n'⟩
  simp only[bn,ay]
  exact⟨u,t,rfl,by simp only[CT.tJ,aj];rw[k'.J,hJ];exact hr,r'⟩
 | .int k::cs,y,us,bs,g,ob,h,hJ,hn,hd,s=>by
  simp only[bT]at h
  obtain⟨u,t,rfl,hr,ho⟩:=h
  obtain⟨g',s',k',r',n'⟩:=qI cs y.2 t bs g ob ho hJ hn hd s
  refine⟨g',s',k', ?_,n'⟩
  simp only[bn,ay]
  exact⟨u,t,rfl,by simpa [CT.tJ,aj,aZ]using hr,r'⟩
 | .bool::cs,y,us,bs,g,ob,h,hJ,hn,hd,s=>by
  simp only[bT]at h
  obtain⟨u,t,rfl,hr,ho⟩:=h
  obtain⟨g',s',k',r',n'⟩:=qI cs y.2 t bs g ob ho hJ hn hd s
  refine⟨g',s',k', ?_,n'⟩
  simp only[bn,ay]
  exact⟨u,t,rfl,by simpa [CT.tJ,aj,aZ]using hr,r'⟩
 | .str::cs,y,us,bs,g,ob,h,hJ,hn,hd,s=>by
  simp only[bT]at h
  obtain⟨u,t,rfl,hr,ho⟩:=h
  obtain⟨g',s',k',r',n'⟩:=qI cs y.2 t bs g ob ho hJ hn hd s
  refine⟨g',s',k', ?_,n'⟩
  simp only[bn,ay]
  exact⟨u,t,rfl,by simpa [CT.tJ,aj,aZ]using hr,r'⟩
theorem Ub{g:Gh}{n:Nat}{I:Nat→Prop}{w:World}:∀ (outs:List (Bool×List CT)) (ps:List PV) (us vs:List Value) (res:List PV),ay g n I w ps us→qg outs us vs→xR outs ps=some res→ay g n I w res vs
 | [],ps,us,vs,res,h,hg,hr=>by
  simp only[qg]at hg
  simp only[xR,Option.some.injEq]at hr
  subst hr
  simp[ay,hg.2]
 | (b,cs)::r,ps,us,vs,res,h,hg,hr=>by
  simp only[qg]at hg
  obtain⟨a,c,v,rest,rfl,hl,rfl,hv,hg⟩:=hg
  simp only[xR]at hr
  have hd:=uX _ _ cs.length h
  have ht:=uV _ _ cs.length h
  rw[←hl,List.drop_left]at hd
  rw[←hl,List.take_left]at ht
  rw[←hl]at hr
  split at hr
  ·rename_i rest' hrr
   have ih:=Ub r _ _ rest rest' hd hg hrr
   split at hr
   ·obtain rfl:=Option.some.inj hr
    simp only[ay]
    exact⟨v,rest,rfl,by simp only[aj];exact⟨_,hv,ht⟩,ih⟩
   ·rename_i pv hp
    obtain rfl:=Option.some.inj hr
    rw[hp]at ht
    simp only[ay]at ht
    obtain⟨u,t,h1,h2,h3⟩:=ht
    have hv':a=[v]:=hv
    rw[hv']at h1
    simp only[List.cons.injEq]at h1
    simp only[ay]
    exact⟨v,rest,rfl,by rw[h1.1];exact h2,ih⟩
   ·cases hr
  ·cases hr
theorem abM{g:Gh}{n:Nat}{I:Nat→Prop}{w:World}(res:List PV)(vs:List Value)(h:ay g n I w res vs):aj g n I w (Eu res) (rJ vs):=by
 match res,vs,h with
 | [],vs,h=>
  simp only[ay]at h
  subst h
  simp only[Eu,rJ,aj]
  exact⟨[],rfl,by simp[ay]⟩
 | [p],vs,h=>
  simp only[ay]at h
  obtain⟨u,t,rfl,h1,rfl⟩:=h
  exact h1
 |p::q::r,vs,h=>
  have h':=h
  simp only[ay]at h
  obtain⟨u,t,rfl,h1,u2,t2,rfl,h2,h3⟩:=h
  simp only[Eu,rJ,aj]
  exact⟨_,rfl,h'⟩
end Go.Rv
set_option linter.unusedVariables false
set_option linter.unusedSimpArgs false
namespace Go.Rv
open Go.RowKit
variable {Dr:Kn}
variable {R:Type} {P:Program} {tbl:dX} {env:Env} {ob:List Ob} {o:Oper} {K:PV→List Ob→Option R} {r:R}
theorem WJ:∀ (a b:List PV),aW (a++b)=aW a++aW b
 | [],b=>rfl
 |v::r,b=>by simp[aW,WJ r b]
theorem AP{v:PV}{vs:List PV}(h:flat v=some vs):aW vs=bI v:=by
 cases v <;>simp only[flat,Option.some.injEq]at h <;>(try (cases h;done)) <;>subst h <;>simp[bI,aW]
theorem Lp{I J:Nat→Prop}{w:World}(hJ:∀ b,J b→I b):∀ (cs:List CT) (x:ah.V cs) (us:List Value) (ad:Addr),jh I J w cs x us→(∀ i u,us[i]? =some u→w.cell? (ad.add i)=some u)→bH I w cs x ad
 | [],x,us,ad,h,hc=>by simp[bH]
 |c::cs,x,us,ad,h,hc=>by
  simp only[jh]at h
  obtain⟨u,t,rfl,h1,h2⟩:=h
  simp only[bH]
  refine⟨⟨u,by simpa [Addr.add]using hc 0 u rfl, ?_⟩,Lp hJ cs x.2 t _ h2 fun i z hz=>by
   have:=hc (i+1) z (by simpa using hz)
   rw[lG,Nat.add_comm];exact this⟩
  cases c with
  |sh e=>
   have:=aZ.keep hJ (fun _ _=>rfl) _ _ _ h1
   simpa only[aZ]using this
  |_=>exact h1
theorem Uo{X:Cx Dr}{g:Gh}{w:World}(s:aK X g ob w){n:Nat}{v:PV}{u:Value}{cells:List PV}(h:lU ob n v=some cells)(hr:aj g ob.length X.I w v u):
  ∃ ad us,u= .pointer (some ad)∧ay g ob.length X.I w cells us∧us.length=n∧(∀ i z,us[i]? =some z→w.cell? (ad.add i)=some z)∧(X.I ad.block∨∃ q∈bI v,aJ g ob q∧ad.block=g.A q):=by
 cases v with
 |ptr q i sz j=>
  have h':(match ob[q]? with |some (.box cells)=>if i=0∧j+n≤cells.length then some ((cells.drop j).take n)else none |_=>none)=some cells:=h
  clear h
  split at h'<;>try (cases h';done)
  rename_i cs hq
  split at h'<;>try (cases h';done)
  rename_i hc
  obtain⟨hi,hb⟩:=hc
  obtain rfl:=Option.some.inj h'
  obtain⟨us,t,h1,h2,h3⟩:=Bo (N:=0) s hq hi hr
  have hlen:=jJ _ _ h3
  refine⟨_,(us.drop j).take n,h1,uV _ _ _ (uX _ _ _ h3),by simp;omega,fun k z hz=> ?_,Or.inr ⟨q,by simp[bI],Or.inl ⟨_,hq⟩,rfl⟩⟩
  rw[dU]
  have hk:k<n:=by
   rcases Nat.lt_or_ge k n with h |h
   ·exact h
   ·rw[List.getElem?_eq_none (by simp;omega)]at hz;simp at hz
  rw[List.getElem?_take_of_lt hk,List.getElem?_drop]at hz
  rw[Nat.add_assoc]
  exact AV (X:=X) h2 hz
 |eptr e x j=>
  have h':tH e x j n=some cells:=h
  simp only[aj]at hr
  obtain⟨ad,h1,h2,h3⟩:=hr
  obtain⟨us,m1,m2,m3⟩:=EI e _ _ h3 n j cells h'
  exact⟨_,us,h1,m2 _ _,m1,fun k z hz=>by rw[lG];exact m3 k z hz,Or.inl (by rw[ru];exact h2)⟩
 |_=>cases h
theorem UQ{X:Cx Dr}{g:Gh}{w:World}(s:aK X g ob w){I':Nat→Prop}(hI:∀ b,X.I b→I' b):∀ (caps:List (List CT)) (ps:List PV) (us:List Value) (cells:List PV) (x:ah.V (lY caps)),qV ob caps ps=some cells→ay g ob.length X.I w ps us→
  (∀ o∈aW ps++aW cells,aJ g ob o→I' (g.A o))→jq ob (lY caps) cells=some x→su I' w caps x us
 | [],[],us,cells,x,h,hr,hro,hx=>by
  simp only[ay]at hr
  simp[su,hr]
 | [],_::_,us,cells,x,h,hr,hro,hx=>by simp[qV]at h
 |_::_,[],us,cells,x,h,hr,hro,hx=>by simp[qV]at h
 |cs::r,v::vs,us,cells,x,h,hr,hro,hx=>by
  simp only[qV]at h
  split at h <;>try (cases h;done)
  rename_i c1 c2 h1 h2
  obtain rfl:=Option.some.inj h
  simp only[ay]at hr
  obtain⟨u,t,rfl,r1,r2⟩:=hr
  obtain⟨ad,us1,k1,k2,k3,k4,k5⟩:=Uo s h1 r1
  have hlc:c1.length=cs.length:=by rw[←jJ _ _ k2,k3]
  have inV_app:∀ (as bs:List CT) (p q:List PV) (z:ah.V (as++bs)),p.length=as.length→jq ob (as++bs) (p++q)=some z→jq ob as p=some (splitV as bs z).1∧jq ob bs q=some (splitV as bs z).2:=by
   intro as
   induction as with
   |nil=>
    intro bs p q z hl hz
    have:p=[]:=List.eq_nil_of_length_eq_zero hl
    subst this
    exact⟨rfl,hz⟩
   |cons c as ih=>
    intro bs p q z hl hz
    cases p with
    |nil=>simp at hl
    |cons p0 p=>
     have hz':jq ob (c::(as++bs)) (p0::(p++q))=some z:=hz
     simp only[jq]at hz'
     split at hz'<;>try (cases hz';done)
     rename_i y ys e1 e2
     obtain rfl:=Option.some.inj hz'
     obtain⟨k1,k2⟩:=ih bs p q ys (by simpa using hl) e2
     refine⟨?_,k2⟩
     simp only[jq,e1,k1]
     rfl
  obtain⟨x1,x2⟩:=inV_app cs (lY r) c1 c2 x hlc hx
  simp only[aW,WJ]at hro
  have hc:=ET s hI cs c1 _ us1 (fun o ho=>hro o (by simp[ho])) x1 k2
  simp only[su]
  refine⟨ad,t,by rw[k1], ?_,Lp (fun b hb=>hI b (s.jI b hb)) cs _ us1 ad hc k4,UQ s hI r vs t c2 _ h2 r2 (fun o ho=>hro o ?_) x2⟩
  ·rcases k5 with k5 | ⟨q,hq,hb,he⟩
   ·exact hI _ k5
   ·rw[he];exact hro q (by simp[hq]) hb
  ·rcases List.mem_append.1 ho with ho |ho <;>simp[ho]
theorem aeJ{X:Cx Dr}{g:Gh}{w:World}(s:aK X g ob w)(p:bF)(v:PV)(x:ah.V p.cells)(u:Value)(hok:p.ok=true)(h:yY ob p v=some x)(hr:aj g ob.length X.I w v u)(hnd:(jY ob p v).Nodup):
  ∃ bs,bs.Nodup∧(∀ b∈bs,∃ o∈jY ob p v,aJ g ob o∧b=g.A o)∧∀ I',(∀ b,X.I b→I' b)→(∀ o∈XD ob p v,aJ g ob o→I' (g.A o))→BQ I' g.J w p x u bs:=by
 have ownCase:∀ (b:Bool) (cs:List CT) (x:ah.V cs),cs.all CT.flat=true→(bI v).Nodup→(if lV b cs v=true then(flat v).bind (fZ ob cs)else none)=some x→
   ∃ bs,bs.Nodup∧(∀ b∈bs,∃ o∈bI v,aJ g ob o∧b=g.A o)∧∃ us,bT w g.J cs x us bs∧kz b us u:=by
  intro b cs x hf hnd h
  split at h <;>try (cases h;done)
  rename_i hsh
  obtain⟨vs,h1,h2⟩:=Option.bind_eq_some_iff.1 h
  obtain⟨us,k1,k2,k3⟩:=EX hr hsh h1
  have hids:=AP h1
  obtain⟨bs,m1,m2,m3⟩:=xU s cs vs x us hf (by rw[hids];exact hnd) h2 k1
  rw[hids]at m3
  exact⟨bs,m2,m3,us,m1,k2⟩
 cases p with
 |v b cs=>
  have h':(if lV b cs v=true then(flat v).bind (jq ob cs)else none)=some x:=h
  clear h
  split at h'<;>try (cases h';done)
  rename_i hsh
  obtain⟨vs,h1,h2⟩:=Option.bind_eq_some_iff.1 h'
  obtain⟨us,k1,k2,k3⟩:=EX hr hsh h1
  refine⟨[],List.nodup_nil,by simp,fun I' hI hro=>⟨us,ET s hI cs vs x us (fun o ho=>hro o (by rw[AP h1]at ho;exact ho)) h2 k1,k2,rfl⟩⟩
 |r cs=>
  have h':(lU ob cs.length v).bind (jq ob cs)=some x:=h
  clear h
  obtain⟨vs,h1,h2⟩:=Option.bind_eq_some_iff.1 h'
  obtain⟨ad,us,k1,k2,k3,k4,k5⟩:=Uo s h1 hr
  refine⟨[],List.nodup_nil,by simp,fun I' hI hro=>⟨ad,k1, ?_, ?_,rfl⟩⟩
  ·rcases k5 with k5 | ⟨q,hq,hb,he⟩
   ·exact hI _ k5
   ·rw[he];exact hro q (List.mem_append.2 (Or.inl hq)) hb
  ·exact Lp (fun b hb=>hI b (s.jI b hb)) cs x us ad (ET s hI cs vs x us (fun o ho=>hro o (List.mem_append.2 (Or.inr (by rw[h1];exact ho)))) h2 k2) k4
 |cl f caps=>
  cases v with
  |fn f' ps=>
   have h':(if f=f' then(qV ob caps ps).bind (jq ob (lY caps))else none)=some x:=h
   clear h
   split at h'<;>try (cases h';done)
   rename_i hf
   subst hf
   obtain⟨vs,h1,h2⟩:=Option.bind_eq_some_iff.1 h'
   simp only[aj]at hr
   obtain⟨us,k1,k2⟩:=hr
   refine⟨[],List.nodup_nil,by simp,fun I' hI hro=>⟨us,k1,UQ s hI caps ps us vs x h1 k2 (fun o ho=>hro o ?_) h2,rfl⟩⟩
   show o∈aW ps++aW ((qV ob caps ps).getD [])
   rw[h1]
   exact ho
  |_=>cases h
 |w b cs=>
  obtain⟨bs,k1,k2,us,k3,k4⟩:=ownCase b cs x hok hnd h
  exact⟨bs,k1,k2,fun _ _ _=>⟨us,k3,k4⟩⟩
 |c b cs=>
  obtain⟨bs,k1,k2,us,k3,k4⟩:=ownCase b cs x hok hnd h
  exact⟨bs,k1,k2,fun _ _ _=>⟨us,k3,k4⟩⟩
 |m cs=>
  cases v with
  |ptr q i sz j=>
   have h':(lU ob cs.length (.ptr q i sz j)).bind (fZ ob cs)=some x:=h
   clear h
   obtain⟨vs,h1,h2⟩:=Option.bind_eq_some_iff.1 h'
   have h1':(match ob[q]? with |some (.box cells)=>if i=0∧j+cs.length≤cells.length then some ((cells.drop j).take cs.length)else none |_=>none)=some vs:=h1
   split at h1'<;>try (cases h1';done)
   rename_i cells hq
   split at h1'<;>try (cases h1';done)
   rename_i hc
   obtain⟨hi,hb⟩:=hc
   obtain rfl:=Option.some.inj h1'
   obtain⟨us,t,m1,m2,m3⟩:=Bo (N:=0) s hq hi hr
   have hlen:=jJ _ _ m3
   have hnd':(q::aW ((cells.drop j).take cs.length)).Nodup:=by
    have:jY ob (.m cs) (.ptr q i sz j)=q::aW ((cells.drop j).take cs.length):=by
     show q::aW ((lU ob cs.length (.ptr q i sz j)).getD [])=_
     rw[h1];rfl
    rw[this]at hnd
    exact hnd
   have hio:jY ob (.m cs) (.ptr q i sz j)=q::aW ((cells.drop j).take cs.length):=by
    show q::aW ((lU ob cs.length (.ptr q i sz j)).getD [])=_
    rw[h1];rfl
   have hnd2:=List.nodup_cons.1 hnd'
   obtain⟨bs,n1,n2,n3⟩:=xU s cs _ x _ hok hnd2.2 h2 (uV _ _ cs.length (uX _ _ j m3))
   have hbq:aJ g ob q:=Or.inl ⟨_,hq⟩
   refine⟨g.A q::bs,List.nodup_cons.2 ⟨fun hm=> ?_,n2⟩,fun b hb'=> ?_,fun I' hI hro=> ?_⟩
   ·obtain⟨o,ho,hob,hA⟩:=n3 _ hm
    have:=s.inj q o hbq hob hA
    subst this
    exact hnd2.1 ho
   ·rw[hio]
    rcases List.mem_cons.1 hb' with rfl |hb'
    ·exact⟨q,by simp,hbq,rfl⟩
    ·obtain⟨o,ho,hk⟩:=n3 b hb'
     exact⟨o,List.mem_cons_of_mem _ ho,hk⟩
   ·refine⟨g.A q,g.pre q++us.take j,(us.drop j).take cs.length,us.drop (j+cs.length)++g.post q,t,bs,rfl, ?_, ?_,n1⟩
    ·rw[m1]
     congr 2
     simp;omega
    ·rw[m2]
     have:us=us.take j++(us.drop j).take cs.length++us.drop (j+cs.length):=by
      rw[List.append_assoc, ←List.drop_drop,List.take_append_drop,List.take_append_drop]
     conv=>lhs;rw[this]
     simp only[List.append_assoc]
  |_=>cases h
theorem VA{X:Cx Dr}{g:Gh}{w:World}(s:aK X g ob w):∀ (ins:List bF) (ps:List PV) (x:ah.V (cu ins)) (us:List Value),ins.all bF.ok=true→jZ ob ins ps=some x→ay g ob.length X.I w ps us→(fK ob ins ps).Nodup→
  ∃ bs,bs.Nodup∧(∀ b∈bs,∃ o∈fK ob ins ps,aJ g ob o∧b=g.A o)∧∀ I',(∀ b,X.I b→I' b)→(∀ o∈BB ob ins ps,aJ g ob o→I' (g.A o))→jG I' g.J w ins x us bs
 | [],[],x,us,hok,h,hr,hnd=>by
  simp only[ay]at hr
  exact⟨[],List.nodup_nil,by simp,fun _ _ _=>⟨hr,rfl⟩⟩
 | [],_::_,x,us,hok,h,hr,hnd=>by simp[jZ]at h
 |_::_,[],x,us,hok,h,hr,hnd=>by simp[jZ]at h
 |p::r,v::vs,x,us,hok,h,hr,hnd=>by
  simp only[jZ]at h
  split at h <;>try (cases h;done)
  rename_i a b h1 h2
  obtain rfl:=Option.some.inj h
  simp only[ay]at hr
  obtain⟨u,t,rfl,r1,r2⟩:=hr
  simp only[List.all_cons,Bool.and_eq_true]at hok
  simp only[fK]at hnd ⊢
  simp only[BB]
  have hn2:=List.nodup_append.1 hnd
  obtain⟨b1,k1,k2,k3⟩:=aeJ s p v a u hok.1 h1 r1 hn2.1
  obtain⟨b2,m1,m2,m3⟩:=VA s r vs b t hok.2 h2 r2 hn2.2.1
  refine⟨b1++b2,List.nodup_append.2 ⟨k1,m1,fun a1 ha1 a2 ha2 e=> ?_⟩,fun z hz=> ?_,fun I' hI hro=> ?_⟩
  ·obtain⟨o1,p1,q1,e1⟩:=k2 a1 ha1
   obtain⟨o2,p2,q2,e2⟩:=m2 a2 ha2
   have:=s.inj o1 o2 q1 q2 (by rw[←e1, ←e2,e])
   exact hn2.2.2 _ p1 _ p2 this
  ·rcases List.mem_append.1 hz with hz |hz
   ·obtain⟨o,ho,hk⟩:=k2 z hz
    exact⟨o,List.mem_append.2 (Or.inl ho),hk⟩
   ·obtain⟨o,ho,hk⟩:=m2 z hz
    exact⟨o,List.mem_append.2 (Or.inr ho),hk⟩
  ·simp only[jG,uU]
   exact⟨u,t,b1,b2,rfl,rfl,k3 I' hI fun o ho=>hro o (List.mem_append.2 (Or.inl ho)),m3 I' hI fun o ho=>hro o (List.mem_append.2 (Or.inr ho))⟩
end Go.Rv
set_option linter.unusedVariables false
set_option linter.unusedSimpArgs false
namespace Go.Rv
open Go.RowKit
variable {Dr:Kn}
variable {R:Type} {P:Program} {tbl:dX} {env:Env} {ob:List Ob} {o:Oper} {K:PV→List Ob→Option R} {r:R}
theorem Ue{e:List CT}{v:PV}{y:List (ah.V e)}(h:xW ob (.sl e) v=some y):(∃ q,v= .own q)∨v= .nils∨v= .emp:=by
 cases v with
 |own q=>exact Or.inl ⟨q,rfl⟩
 |nils=>exact Or.inr (Or.inl rfl)
 |emp=>exact Or.inr (Or.inr rfl)
 |_=>cases h
theorem UI{c:CT}{cs:List CT}{p:PV}{ps:List PV}{y:ah.V (c::cs)}(h:fZ ob (c::cs) (p::ps)=some y):xW ob c p=some y.1∧fZ ob cs ps=some y.2:=by
 simp only[fZ]at h
 split at h <;>try (cases h;done)
 rename_i y1 y2 h1 h2
 obtain rfl:=Option.some.inj h
 exact⟨h1,h2⟩
theorem zQ{c:CT}{p:PV}{y:c.V}(h:xW ob c p=some y)(hc:∀ e,c≠ .sl e):bI p=[]:=by
 cases c with
 |sl e=>exact absurd rfl (hc e)
 |sh e=>cases p <;>first |rfl |cases h
 |_=>cases p <;>first |rfl |cases h
theorem MH{X:Cx Dr}{g0 gc:Gh}{ob0:List Ob}{w w':World}(s0:aK X g0 ob0 w)(ha:∀ o,o<ob0.length→Agree g0 gc o):∀ (cs:List CT) (x0 y:ah.V cs) (vs:List PV) (us:List Value) (bs:List Nat) (obc:List Ob),aK X gc obc w'→
  ay g0 ob0.length X.I w vs us→fZ ob0 cs vs=some x0→bT w' g0.J cs y us bs→(aW vs).Nodup→(∀ o∈aW vs,obc[o]? =some .dead)→bs.Nodup→(∀ b∈bs,(X.B≤b∨b∈X.T)∧¬ X.I b∧∀ o,aJ gc obc o→gc.A o≠b)→
  aK X gc (setRows cs y vs obc) w'∧(setRows cs y vs obc).length=obc.length∧(∀ o,aJ gc (setRows cs y vs obc) o→aJ gc obc o∨gc.A o∈bs)∧∀ o,o∉aW vs→(setRows cs y vs obc)[o]? =obc[o]?
 | [],x0,y,vs,us,bs,obc,s,hr,hx,ho,hnd,hdead,hbn,hb=>by
  have:setRows [] y vs obc=obc:=by cases vs <;>rfl
  rw[this]
  exact⟨s,rfl,fun o h=>Or.inl h,fun _ _=>rfl⟩
 |c::cs,x0,y,[],us,bs,obc,s,hr,hx,ho,hnd,hdead,hbn,hb=>by simp[fZ]at hx
 |c::cs,x0,y,v::vs,us,bs,obc,s,hr,hx,ho,hnd,hdead,hbn,hb=>by
  obtain⟨hx1,hx2⟩:=UI hx
  simp only[ay]at hr
  obtain⟨u,t,rfl,r1,r2⟩:=hr
  simp only[aW]at hnd hdead
  have hn2:=List.nodup_append.1 hnd
  have skip:bI v=[]→setRows (c::cs) y (v::vs) obc=setRows cs y.2 vs obc→∀ bs',(∀ b∈bs',b∈bs)→bT w' g0.J cs y.2 t bs'→bs'.Nodup→
    aK X gc (setRows (c::cs) y (v::vs) obc) w'∧(setRows (c::cs) y (v::vs) obc).length=obc.length∧(∀ o,aJ gc (setRows (c::cs) y (v::vs) obc) o→aJ gc obc o∨gc.A o∈bs)∧∀ o,o∉aW (v::vs)→(setRows (c::cs) y (v::vs) obc)[o]? =obc[o]? :=by
   intro hi hset bs' hsub ho' hn'
   rw[hset]
   obtain⟨k1,k2,k3,k4⟩:=MH s0 ha cs x0.2 y.2 vs t bs' obc s r2 hx2 ho' hn2.2.1 (fun o ho=>hdead o (by simp[ho])) hn' (fun b hb'=>hb b (hsub b hb'))
   refine⟨k1,k2,fun o h=> ?_,fun o h=>k4 o (fun hm=>h (by simp[aW,hm]))⟩
   rcases k3 o h with h |h
   ·exact Or.inl h
   ·exact Or.inr (hsub _ h)
  cases c with
  |sl e=>
   simp only[bT]at ho
   obtain⟨hd,t',e1,ho⟩:=ho
   simp only[List.cons.injEq]at e1
   obtain⟨rfl,rfl⟩:=e1
   rcases Ue hx1 with ⟨q,rfl⟩ |rfl |rfl
   ·obtain⟨e',xs0,hq,hcast⟩:=LJ hx1
    obtain⟨he,_⟩:=EF hcast
    subst he
    obtain⟨a1,a2,a3,a4⟩:=s0.arr q e' xs0 hq
    have hql:q<ob0.length:=(List.getElem?_eq_some_iff.1 hq).1
    have ag:=ha q hql
    simp only[aj]at r1
    obtain⟨_,r1,_⟩:=r1
    have hqd:obc[q]? =some .dead:=hdead q (by simp[bI])
    have hset:setRows (.sl e'::cs) y (.own q::vs) obc=setRows cs y.2 vs (obc.set q (.arr e' y.1)):=rfl
    have one:∀ bt,(∀ b∈bt,b∈bs)→bT w' g0.J cs y.2 t bt→bt.Nodup→aK X gc (obc.set q (.arr e' y.1)) w'→(∀ o,aJ gc (obc.set q (.arr e' y.1)) o→aJ gc obc o∨(gc.A o∈bs∧gc.A o∉bt))→
      aK X gc (setRows (.sl e'::cs) y (.own q::vs) obc) w'∧(setRows (.sl e'::cs) y (.own q::vs) obc).length=obc.length∧(∀ o,aJ gc (setRows (.sl e'::cs) y (.own q::vs) obc) o→aJ gc obc o∨gc.A o∈bs)∧∀ o,o∉aW (.own q::vs)→(setRows (.sl e'::cs) y (.own q::vs) obc)[o]? =obc[o]? :=by
     intro bt hsub ho' hn' s1 hblk
     rw[hset]
     obtain⟨k1,k2,k3,k4⟩:=MH s0 ha cs x0.2 y.2 vs t bt (obc.set q (.arr e' y.1)) s1 r2 hx2 ho' hn2.2.1 (fun o ho=>by
      rw[List.getElem?_set_ne (fun e=>hn2.2.2 q (by simp[bI]) o ho e)]
      exact hdead o (by simp[ho])) hn' (fun b hb'=>⟨(hb b (hsub b hb')).1,(hb b (hsub b hb')).2.1,fun o ho e=>by
       rcases hblk o ho with h |h
       ·exact(hb b (hsub b hb')).2.2 o h e
       ·exact h.2 (by rw[e];exact hb')⟩)
     refine⟨k1,by rw[k2];simp,fun o h=> ?_,fun o h=> ?_⟩
     ·rcases k3 o h with h |h
      ·rcases hblk o h with h |h
       ·exact Or.inl h
       ·exact Or.inr h.1
      ·exact Or.inr (hsub _ h)
     ·simp only[aW,bI,List.mem_append,List.mem_singleton,not_or]at h
      rw[k4 o h.2,List.getElem?_set_ne (Ne.symm h.1)]
    rcases ho with ⟨hy,hemp,ho⟩ | ⟨b,bt,rfl,hown,ho⟩
    ·have hL:xs0.length=0:=by
      rcases a4 with a4 | ⟨hne,_⟩
      ·rw[a4.1];rfl
      ·exact absurd (by rw[←r1];exact hemp) hne
     have hemp':ig (gc.H q):=by rw[ag.H, ←r1];exact hemp
     refine one bs (fun _ h=>h) ho hbn (s.EP hqd _ (fun _ h=>by cases h) ?_ ?_) ?_
     ·intro e1 xs1 hh
      cases hh
      refine⟨by rw[ag.S];exact a1,by rw[ag.L,a2,hL];rw[show y.1=[]from hy];rfl,by rw[ag.pre];exact a3,Or.inl ⟨hy,hemp'⟩⟩
     ·rintro(⟨_,hh⟩ | ⟨_,_,_,hh⟩)
      ·cases hh
      ·exact absurd hemp' hh
     ·rintro o (⟨cells,hh⟩ | ⟨e1,xs1,hh,hn⟩)
      ·rcases lT hh with ⟨_,h2⟩ | ⟨_,h2⟩
       ·cases h2
       ·exact Or.inl (Or.inl ⟨_,h2⟩)
      ·rcases lT hh with ⟨h1,h2⟩ | ⟨_,h2⟩
       ·subst h1;exact absurd hemp' hn
       ·exact Or.inl (Or.inr ⟨_,_,h2,hn⟩)
    ·obtain⟨hb1,hb2,hb3⟩:=hb b (by simp)
     obtain⟨hne,cap,us',te,o1,o2,o2',o3,o4,o5,o6⟩:=Wn (I:=X.I) hown hb2
     have hbt:=List.nodup_cons.1 hbn
     rcases a4 with a4 | ⟨hne0,cap0,us0,t0,n1,n2,n2',n3,n4,n5,n6⟩
     ·exact absurd (by rw[r1];exact a4.2) hne
     rw[r1,n1]at o1
     simp only[Value.slice.injEq,Option.some.injEq,Addr.mk.injEq,and_true]at o1
     obtain⟨hA,hlen,hcap⟩:=o1
     have hlen':xs0.length=(lst e' y.1).length:=hlen
     have hAq:gc.A q=b:=by rw[ag.A];exact hA
     refine one bt (fun _ h=>List.mem_cons_of_mem _ h) ho hbt.2 (s.EP hqd _ (fun _ h=>by cases h) ?_ ?_) ?_
     ·intro e1 xs1 hh
      cases hh
      refine⟨by rw[ag.S];exact a1,by rw[ag.L,a2];exact hlen',by rw[ag.pre];exact a3,Or.inr ⟨by rw[ag.H];exact hne0,cap,us',te, ?_,o2,o2',by rw[hAq];exact o3,o4,by rw[hAq];exact o5,by rw[hAq];exact o6⟩⟩
      rw[ag.H,n1,hAq,hA,hlen,hcap]
     ·intro _
      rw[hAq]
      exact⟨hb1,hb3⟩
     ·rintro o (⟨cells,hh⟩ | ⟨e1,xs1,hh,hn⟩)
      ·rcases lT hh with ⟨_,h2⟩ | ⟨_,h2⟩
       ·cases h2
       ·exact Or.inl (Or.inl ⟨_,h2⟩)
      ·rcases lT hh with ⟨h1,h2⟩ | ⟨_,h2⟩
       ·subst h1
        exact Or.inr ⟨by rw[hAq];simp,by rw[hAq];exact hbt.1⟩
       ·exact Or.inl (Or.inr ⟨_,_,h2,hn⟩)
   all_goals
    rcases ho with ⟨hy,hemp,ho⟩ | ⟨b,bt,rfl,hown,ho⟩
    ·exact skip rfl rfl bs (fun _ h=>h) ho hbn
    ·exact skip rfl rfl bt (fun _ h=>List.mem_cons_of_mem _ h) ho (List.nodup_cons.1 hbn).2
  |sh e=>
   simp only[bT]at ho
   obtain⟨u',t',e1,_,ho⟩:=ho
   simp only[List.cons.injEq]at e1
   obtain⟨rfl,rfl⟩:=e1
   have hi:=zQ hx1 (fun e h=>by cases h)
   exact skip hi (by cases v <;>rfl) bs (fun _ h=>h) ho hbn
  |int k=>
   simp only[bT]at ho
   obtain⟨u',t',e1,_,ho⟩:=ho
   simp only[List.cons.injEq]at e1
   obtain⟨rfl,rfl⟩:=e1
   have hi:=zQ hx1 (fun e h=>by cases h)
   exact skip hi (by cases v <;>rfl) bs (fun _ h=>h) ho hbn
  |bool=>
   simp only[bT]at ho
   obtain⟨u',t',e1,_,ho⟩:=ho
   simp only[List.cons.injEq]at e1
   obtain⟨rfl,rfl⟩:=e1
   have hi:=zQ hx1 (fun e h=>by cases h)
   exact skip hi (by cases v <;>rfl) bs (fun _ h=>h) ho hbn
  |str=>
   simp only[bT]at ho
   obtain⟨u',t',e1,_,ho⟩:=ho
   simp only[List.cons.injEq]at e1
   obtain⟨rfl,rfl⟩:=e1
   have hi:=zQ hx1 (fun e h=>by cases h)
   exact skip hi (by cases v <;>rfl) bs (fun _ h=>h) ho hbn
theorem ad2{b:Bool}{us us':List Value}{v:Value}(h:kz b us v)(h':kz b us' v):us=us':=by
 cases b with
 |true=>
  have h1:v= .agg us.toArray:=h
  have h2:v= .agg us'.toArray:=h'
  rw[h1]at h2
  simpa using h2
 |false=>
  have h1:us=[v]:=h
  have h2:us'=[v]:=h'
  rw[h1,h2]
theorem ae6{X:Cx Dr}{g0 gc:Gh}{ob0 obc:List Ob}{w w':World}(s0:aK X g0 ob0 w)(hw:∀ b,X.I b→w'.heap[b]? =w.heap[b]?)(hJ:gc.J=g0.J)(hle:ob0.length≤obc.length)(ha:∀ o,o<ob0.length→Agree g0 gc o)(s:aK X gc obc w')(p:bF)(v:PV)(x:ah.V p.cells)(y:ah.V p.io)(u:Value)(bs:List Nat)(ob':List Ob)
  (hin:yY ob0 p v=some x) (hr:aj g0 ob0.length X.I w v u) (hio:P5 w w' g0.J p y u bs) (hnd:(jY ob0 p v).Nodup) (hdead:∀ o∈jY ob0 p v,obc[o]? =some .dead) (hbn:bs.Nodup)
  (hb:∀ b∈bs,(X.B≤b∨b∈X.T)∧¬ X.I b∧∀ o,aJ gc obc o→gc.A o≠b) (h:yX ob0 p v y obc=some ob'):
  ∃ g',aK X g' ob' w'∧Keep gc obc.length X.I w' g' ob'.length w'∧(∀ o,aJ g' ob' o→(o<obc.length∧aJ gc obc o)∨g'.A o∈bs)∧∀ o,o<obc.length→o∉jY ob0 p v→ob'[o]? =obc[o]? :=by
 have same:obc=ob'→∃ g',aK X g' ob' w'∧Keep gc obc.length X.I w' g' ob'.length w'∧(∀ o,aJ g' ob' o→(o<obc.length∧aJ gc obc o)∨g'.A o∈bs)∧∀ o,o<obc.length→o∉jY ob0 p v→ob'[o]? =obc[o]? :=by
  intro e
  subst e
  exact⟨gc,s,s.refl,fun o ho=>Or.inl ⟨ho.lt,ho⟩,fun _ _ _=>rfl⟩
 cases p with
 |v b cs=>exact same (Option.some.inj h)
 |r cs=>exact same (Option.some.inj h)
 |cl f caps=>exact same (Option.some.inj (by cases v <;>exact h))
 |c b cs=>exact same (Option.some.inj h)
 |w b cs=>
  have h1:(flat v).map (fun vs=>setRows cs y vs obc)=some ob':=h
  obtain⟨vs,hf,rfl⟩:=Option.map_eq_some_iff.1 h1
  have h2:(if lV b cs v=true then(flat v).bind (fZ ob0 cs)else none)=some x:=hin
  split at h2 <;>try (cases h2;done)
  rename_i hsh
  rw[hf]at h2
  have hx0:fZ ob0 cs vs=some x:=h2
  obtain⟨us,k1,k2,k3⟩:=EX hr hsh hf
  obtain⟨us',m1,m2⟩:=hio
  obtain rfl:=ad2 k2 m1
  have hids:jY ob0 (.w b cs) v=aW vs:=by rw[AP hf];rfl
  rw[hids]at hnd hdead ⊢
  obtain⟨n1,n2,n3,n4⟩:=MH s0 ha cs x y vs us bs obc s k1 hx0 m2 hnd hdead hbn hb
  refine⟨gc,n1,by rw[n2];exact s.refl,fun o ho=> ?_,fun o _ ho=>n4 o ho⟩
  rcases n3 o ho with h |h
  ·exact Or.inl ⟨h.lt,h⟩
  ·exact Or.inr h
 |m cs=>
  cases v with
  |ptr q i sz j=>
   have h1:(match ob0[q]? with |some (.box cells)=>some ((obc++(bn cs y obc.length).2).set q (.box (qo cells j (bn cs y obc.length).1))) |_=>none)=some ob':=h
   have h2:(lU ob0 cs.length (.ptr q i sz j)).bind (fZ ob0 cs)=some x:=hin
   obtain⟨vs,hc1,hc2⟩:=Option.bind_eq_some_iff.1 h2
   have hc1':(match ob0[q]? with |some (.box cells)=>if i=0∧j+cs.length≤cells.length then some ((cells.drop j).take cs.length)else none |_=>none)=some vs:=hc1
   have hid:jY ob0 (.m cs) (.ptr q i sz j)=q::aW vs:=by
    show q::aW ((lU ob0 cs.length (.ptr q i sz j)).getD [])=_
    rw[hc1];rfl
   rw[hid]at hnd hdead ⊢
   split at hc1'<;>try (cases hc1';done)
   rename_i cells hq
   split at hc1'<;>try (cases hc1';done)
   rename_i hc
   obtain⟨hi,hbnd⟩:=hc
   obtain rfl:=Option.some.inj hc1'
   rw[hq]at h1
   obtain rfl:=Option.some.inj h1
   obtain⟨us,t,m1,m2,m3⟩:=Bo (N:=0) s0 hq hi hr
   obtain⟨_,_,_,_,mI,mS,mL⟩:=s0.box q cells hq
   have hlen:=jJ _ _ m3
   obtain⟨b,pre,us0,us',post,t1,t2,bt,rfl,p1,p2,p3,p4,p5⟩:=hio
   rw[m1]at p1
   simp only[Value.pointer.injEq,Option.some.injEq,Addr.mk.injEq,and_true]at p1
   obtain⟨hA,hpre⟩:=p1
   subst hA
   rw[m2]at p2
   simp only[Option.some.injEq,Obj.cells.injEq,and_true]at p2
   obtain⟨p2,rfl⟩:=p2
   have p2':g0.pre q++us++g0.post q=pre++us0++post:=by simpa using congrArg Array.toList p2
   have hus':us'.length=cs.length:=rV _ _ _ _ p5
   have hsplit:pre=g0.pre q++us.take j∧post=us.drop (j+cs.length)++g0.post q:=by
    have e1:=congrArg (List.take pre.length) p2'
    have e2:=congrArg (List.drop (pre.length+us0.length)) p2'
    rw[List.append_assoc pre,List.take_left]at e1
    rw[show pre++us0++post=(pre++us0)++post from rfl,show pre.length+us0.length=(pre++us0).length by simp,List.drop_left]at e2
    rw[←hpre,List.append_assoc,List.take_length_add_append,List.take_append_of_le_length (by omega)]at e1
    rw[List.length_append, ←hpre,p3,Nat.add_assoc,List.append_assoc,List.drop_length_add_append,List.drop_append_of_le_length (by omega)]at e2
    exact⟨e1.symm,e2.symm⟩
   have hbt:=List.nodup_cons.1 hbn
   obtain⟨g',s',k',r',n'⟩:=qI cs y us' bt gc obc p5 hJ hbt.2 (fun b' hb'=>hb b' (List.mem_cons_of_mem _ hb')) s
   have hql:q<ob0.length:=(List.getElem?_eq_some_iff.1 hq).1
   have ag:Agree g0 g' q:=(ha q hql).trans (k'.agr q (by omega))
   have hqd:(obc++(bn cs y obc.length).2)[q]? =some .dead:=by
    rw[List.getElem?_append_left (by omega)]
    exact hdead q (by simp)
   have hbq:=hb (g0.A q) (by simp)
   have hk0:Keep g0 ob0.length X.I w g' (obc++(bn cs y obc.length).2).length w':=⟨Nat.le_trans hle k'.le,fun o ho=>(ha o ho).trans (k'.agr o (by omega)),by rw[k'.J,hJ],s0.jI,hw⟩
   have hblk':∀ o,aJ g' (obc++(bn cs y obc.length).2) o→g'.A o≠g0.A q:=by
    intro o ho e
    rcases n' o ho with ⟨h1,h2⟩ |h1
    ·rw[(k'.agr o h1).A]at e
     exact hbq.2.2 o h2 e
    ·rw[e]at h1
     exact hbt.1 h1
   have s2:=s'.EP hqd (.box (qo cells j (bn cs y obc.length).1)) (by
    intro cells' hh
    cases hh
    refine⟨lX us j us',t2, ?_,Eb _ _ _ _ _ r' (ay.keep hk0 _ _ m3),by rw[ag.A];exact mI,by rw[ag.S];exact mS,by rw[ag.L];exact mL⟩
    rw[ag.A,ag.pre,ag.post,p4,NU _ _ _ (by omega),hsplit.1,hsplit.2,hus']
    simp only[List.append_assoc]) (by intro e xs hh;cases hh) (by
    intro _
    rw[ag.A]
    exact⟨hbq.1,hblk'⟩)
   refine⟨g',s2,⟨by rw[List.length_set];exact k'.le,k'.agr,k'.J,k'.jI,k'.heap⟩,fun o ho=> ?_,fun o hol ho=> ?_⟩
   ·have:o=q∨aJ g' (obc++(bn cs y obc.length).2) o:=by
     rcases ho with ⟨cells',hh⟩ | ⟨e1,xs1,hh,hn⟩
     ·rcases lT hh with ⟨h1,_⟩ | ⟨_,h2⟩
      ·exact Or.inl h1
      ·exact Or.inr (Or.inl ⟨_,h2⟩)
     ·rcases lT hh with ⟨h1,_⟩ | ⟨_,h2⟩
      ·exact Or.inl h1
      ·exact Or.inr (Or.inr ⟨_,_,h2,hn⟩)
    rcases this with rfl |h
    ·right;rw[ag.A];simp
    ·rcases n' o h with h |h
     ·exact Or.inl h
     ·exact Or.inr (List.mem_cons_of_mem _ h)
   ·have hne:q≠o:=fun e=>ho (by simp[e])
    rw[List.getElem?_set_ne hne,List.getElem?_append_left hol]
  |_=>cases hin
theorem Xq{X:Cx Dr}{g0:Gh}{ob0:List Ob}{w w':World}(s0:aK X g0 ob0 w)(hw:∀ b,X.I b→w'.heap[b]? =w.heap[b]?):∀ (ins:List bF) (ps:List PV) (x:ah.V (cu ins)) (y:ah.V (dZ ins)) (us:List Value) (bs:List Nat) (gc:Gh) (obc ob':List Ob),gc.J=g0.J→ob0.length≤obc.length→(∀ o,o<ob0.length→Agree g0 gc o)→aK X gc obc w'→
  jZ ob0 ins ps=some x→ay g0 ob0.length X.I w ps us→vT w w' g0.J ins y us bs→(fK ob0 ins ps).Nodup→(∀ o∈fK ob0 ins ps,o<ob0.length∧obc[o]? =some .dead)→bs.Nodup→
  (∀ b∈bs,(X.B≤b∨b∈X.T)∧¬ X.I b∧∀ o,aJ gc obc o→gc.A o≠b)→lC ob0 ins ps y obc=some ob'→
  ∃ g',aK X g' ob' w'∧Keep gc obc.length X.I w' g' ob'.length w'
 | [],[],x,y,us,bs,gc,obc,ob',hJ,hle,ha,s,hin,hr,hio,hnd,hdead,hbn,hb,h=>by
  simp only[lC,Option.some.injEq]at h
  subst h
  exact⟨gc,s,s.refl⟩
 | [],_::_,x,y,us,bs,gc,obc,ob',hJ,hle,ha,s,hin,hr,hio,hnd,hdead,hbn,hb,h=>by simp[jZ]at hin
 |_::_,[],x,y,us,bs,gc,obc,ob',hJ,hle,ha,s,hin,hr,hio,hnd,hdead,hbn,hb,h=>by simp[jZ]at hin
 |p::r,v::vs,x,y,us,bs,gc,obc,ob',hJ,hle,ha,s,hin,hr,hio,hnd,hdead,hbn,hb,h=>by
  simp only[jZ]at hin
  split at hin <;>try (cases hin;done)
  rename_i a b h1 h2
  simp only[ay]at hr
  obtain⟨u,t,rfl,r1,r2⟩:=hr
  simp only[vT]at hio
  obtain⟨u',t',b1,b2,e1,rfl,i1,i2⟩:=hio
  simp only[List.cons.injEq]at e1
  obtain⟨rfl,rfl⟩:=e1
  simp only[fK]at hnd hdead
  have hn2:=List.nodup_append.1 hnd
  have hbn2:=List.nodup_append.1 hbn
  simp only[lC]at h
  split at h <;>try (cases h;done)
  rename_i obm hm
  obtain⟨gm,sm,km,nm,om⟩:=ae6 s0 hw hJ hle ha s p v a _ u b1 obm h1 r1 i1 hn2.1 (fun o ho=>(hdead o (by simp[ho])).2) hbn2.1 (fun b hb'=>hb b (by simp[hb'])) hm
  obtain⟨g',s',k'⟩:=Xq s0 hw r vs b _ t b2 gm obm ob' (by rw[km.J,hJ]) (Nat.le_trans hle km.le) (fun o ho=>(ha o ho).trans (km.agr o (by omega))) sm h2 r2 i2 hn2.2.1 (fun o ho=>by
   obtain⟨d1,d2⟩:=hdead o (by simp[ho])
   refine⟨d1, ?_⟩
   rw[om o (by omega) (fun hm=>hn2.2.2 o hm o ho rfl)]
   exact d2) hbn2.2.1 (fun b hb'=>⟨(hb b (by simp[hb'])).1,(hb b (by simp[hb'])).2.1,fun o ho e=>by
    rcases nm o ho with ⟨h1,h2⟩ |h1
    ·rw[(km.agr o h1).A]at e
     exact(hb b (by simp[hb'])).2.2 o h2 e
    ·rw[e]at h1
     exact hbn2.2.2 b h1 b hb' rfl⟩) h
  exact⟨g',s',km.trans k'⟩
end Go.Rv
set_option linter.unusedVariables false
set_option linter.unusedSimpArgs false
namespace Go.Rv
open Go.RowKit
variable {Dr:Kn}
variable {R:Type} {P:Program} {tbl:dX} {env:Env} {ob:List Ob} {o:Oper} {K:PV→List Ob→Option R} {r:R}
def nV(P:Program)(o:Oper)(a:Act)(w:World)(K:Value→World→Prop):Prop:=match (execOp a.eval o).run P w with
 | .ok (.value u) w'=>K u w'
 | .ok .skip w'=>K undef w'
 | .ok (.enter f args) w'=>Calls P f args w' fun e w''=>∃ v,e= .returned v∧K v w''
 |_=>False
theorem AA{a:Act}{w:World}{K K':Value→World→Prop}(h:∀ v w,K v w→K' v w)(hh:nV P o a w K):nV P o a w K':=by
 unfold nV at*
 generalize (execOp a.eval o).run P w=r at*
 cases r with
 |ok n w'=>
  cases n <;>first
   |exact h _ _ hh
   |exact hh.mono fun e w'' ⟨v,h1,h2⟩=>⟨v,h1,h _ _ h2⟩
   |exact hh
 |halt x w'=>exact hh
theorem Xn{a:Act}{w:World}{next:Act→World→Prop}{Q:Exit→Act→World→Prop}(hh:nV P o a w fun v w'=>next (a.put o.dst v) w'):o.wp P a w next Q:=by
 unfold nV at hh
 unfold Oper.wp
 generalize (execOp a.eval o).run P w=r at*
 cases r with
 |ok n w'=>
  cases n <;>simp only[Oper.upon] <;>first
   |exact hh
   |exact hh.mono fun e w'' ⟨v,h1,h2⟩=>by subst h1;exact h2
   |exact hh.elim
 |halt x w'=>exact hh.elim
def WV(Dr:Kn)(P:Program)(ob:List Ob)(env:Env)(o:Oper)(im:Bool)(pv:PV)(ob':List Ob):Prop:=
 (im=false→∃ new,ob'=ob++new)∧
 ∀ (X:Cx Dr) (N:Nat) (g:Gh) (w:World) (a:Act),aK X g ob w→dG N g ob.length X.I w env a→
  nV P o a w fun v w'=>∃ g',((im=false→oM Dr g ob.length w g' ob' w')∧Only g ob w w'∧(rX o.op=false→kC g ob w g' ob'))∧aK X g' ob' w'∧Keep g ob.length X.I w g' ob'.length w'∧aj g' ob'.length X.I w' pv v
theorem EV.wv{im:Bool}{pv:PV}{ob':List Ob}(h:EV Dr P ob env o im pv ob'):WV Dr P ob env o im pv ob':=⟨h.1,fun X N g w a hs he=>by
 obtain⟨v,w',g',h1,hb,s',k',r'⟩:=h.2 X N g w a hs he
 unfold nV
 rcases h1 with h1 | ⟨h1,rfl⟩
 ·rw[h1];exact⟨g',⟨hb.1,hb.2.1,fun _=>hb.2.2⟩,s',k',r'⟩
 ·rw[h1];exact⟨g',⟨hb.1,hb.2.1,fun _=>hb.2.2⟩,s',k',r'⟩⟩
theorem QV.wv{pv:PV}(h:QV Dr P ob env o pv)(im:Bool):WV Dr P ob env o im pv ob:=⟨fun _=>⟨[],by simp⟩,fun X N g w a hs he=>by
 obtain⟨v,hv,h1⟩:=h X N g w a hs he
 unfold nV
 rw[h1 w (Go.RowKit.Below.refl _ _)]
 exact⟨g,⟨fun _=>⟨Below.refl _ _,fun o ho hb=>absurd hb.lt (by omega)⟩,fun _ _ _=>rfl,fun _=>kC.refl _ _ _⟩,hs,hs.refl,hv⟩⟩
theorem acE{g:FuncId}(h:∀ args w,(callFunc g args).run P w= .ok (.enter g args) w){c:Call}{f:Operand}(hc:c.callee= .value f){a:Act}{us:Array Value}(hf:a.eval f= .func (.func g) #[] us)(hop:o.op= .call c)(w:World):
  (execOp a.eval o).run P w= .ok (.enter g (c.args.map a.eval++us)) w:=by
 simp only[execOp,hop,resolve,hc,hf,Deferred.ofValue]
 simp[invoke,h]
theorem Nq(ob:List Ob):∀ (ins:List bF) (ps:List PV),ins.all bF.pure=true→fK ob ins ps=[]
 | [],ps,_=>by cases ps <;>rfl
 |p::r,[],_=>rfl
 |p::r,v::vs,h=>by
  simp only[List.all_cons,Bool.and_eq_true]at h
  simp only[fK,Nq ob r vs h.2,List.append_nil]
  cases p <;>first |rfl | (simp[bF.pure]at h;done)
theorem N7(ob0:List Ob):∀ (ins:List bF) (ps:List PV) (y:ah.V (dZ ins)) (ob ob':List Ob),ins.all bF.pure=true→lC ob0 ins ps y ob=some ob'→ob'=ob
 | [],[],y,ob,ob',_,h=>(Option.some.inj h).symm
 | [],_::_,y,ob,ob',_,h=>by simp[lC]at h
 |_::_,[],y,ob,ob',_,h=>by simp[lC]at h
 |p::r,v::vs,y,ob,ob',hp,h=>by
  simp only[List.all_cons,Bool.and_eq_true]at hp
  simp only[lC]at h
  split at h <;>try (cases h;done)
  rename_i obm hm
  have:obm=ob:=by cases p <;>first | (simp[bF.pure]at hp;done) |exact(Option.some.inj hm).symm
  rw[this]at h
  exact N7 ob0 r vs _ ob ob' hp.2 h
theorem Vx{X:Cx Dr}{g:Gh}{w:World}(s:aK X g ob w):∀ (ins:List bF) (ps:List PV) (x:ah.V (cu ins)),jZ ob ins ps=some x→∀ o∈fK ob ins ps,o<ob.length
 | [],[],x,h,o,ho=>by simp[fK]at ho
 | [],_::_,x,h,o,ho=>by simp[jZ]at h
 |_::_,[],x,h,o,ho=>by simp[jZ]at h
 |p::r,v::vs,x,h,o,ho=>by
  simp only[jZ]at h
  split at h <;>try (cases h;done)
  rename_i a b h1 h2
  simp only[fK,List.mem_append]at ho
  rcases ho with ho |ho
  ·have ownLt:∀ (cs:List CT) (ps:List PV) (y:ah.V cs),fZ ob cs ps=some y→∀ o∈aW ps,o<ob.length:=by
    intro cs
    induction cs with
    |nil=>intro ps y h o ho;cases ps;simp[aW]at ho;simp[fZ]at h
    |cons c cs ih=>
     intro ps y h o ho
     cases ps with
     |nil=>simp[fZ]at h
     |cons q ps=>
      obtain⟨e1,e2⟩:=UI h
      simp only[aW,List.mem_append]at ho
      rcases ho with ho |ho
      ·cases c with
       |sl e=>
        rcases Ue e1 with ⟨z,rfl⟩ |rfl |rfl
        ·obtain⟨e',xs,hq,_⟩:=LJ e1
         simp[bI]at ho
         subst ho
         exact(List.getElem?_eq_some_iff.1 hq).1
        ·simp[bI]at ho
        ·simp[bI]at ho
       |_=>rw[zQ e1 (fun e h=>by cases h)]at ho;simp at ho
      ·exact ih ps y.2 e2 o ho
   have own2:∀ (b:Bool) (cs:List CT) (y:ah.V cs),(if lV b cs v=true then(flat v).bind (fZ ob cs)else none)=some y→∀ o∈bI v,o<ob.length:=by
    intro b cs y h o ho
    split at h <;>try (cases h;done)
    obtain⟨vs',e1,e2⟩:=Option.bind_eq_some_iff.1 h
    rw[←AP e1]at ho
    exact ownLt cs vs' y e2 o ho
   cases p with
   |v b cs=>simp[jY]at ho
   |r cs=>simp[jY]at ho
   |cl f caps=>cases v <;>simp[jY]at ho
   |w b cs=>exact own2 b cs a h1 o ho
   |c b cs=>exact own2 b cs a h1 o ho
   |m cs=>
    cases v with
    |ptr q i sz j=>
     have h':(lU ob cs.length (.ptr q i sz j)).bind (fZ ob cs)=some a:=h1
     obtain⟨vs',e1,e2⟩:=Option.bind_eq_some_iff.1 h'
     have ho':o∈q::aW ((lU ob cs.length (.ptr q i sz j)).getD []):=ho
     rw[e1]at ho'
     rcases List.mem_cons.1 ho' with rfl |ho'
     ·have e1':(match ob[o]? with |some (.box cells)=>if i=0∧j+cs.length≤cells.length then some ((cells.drop j).take cs.length)else none |_=>none)=some vs':=e1
      split at e1'<;>try (cases e1';done)
      rename_i cells hq
      exact(List.getElem?_eq_some_iff.1 hq).1
     ·exact ownLt cs vs' a e2 o ho'
    |_=>cases h1
  ·exact Vx s r vs b h2 o ho
theorem TY{g:Gh}{n:Nat}{I:Nat→Prop}{w:World}:∀ (a b:List PV) (us vs:List Value),ay g n I w a us→ay g n I w b vs→ay g n I w (a++b) (us++vs)
 | [],b,us,vs,h,h'=>by simp only[ay]at h;subst h;exact h'
 |v::a,b,us,vs,h,h'=>by
  simp only[ay]at h
  obtain⟨u,t,rfl,h1,h2⟩:=h
  exact⟨u,t++vs,rfl,h1,TY a b t vs h2 h'⟩
theorem UF{g:Gh}{n:Nat}{I:Nat→Prop}{w:World}:∀ (a b:List PV) (us:List Value),ay g n I w (a++b) us→∃ x y,us=x++y∧x.length=a.length∧ay g n I w a x∧ay g n I w b y
 | [],b,us,h=>⟨[],us,rfl,rfl,by simp[ay],h⟩
 |v::a,b,us,h=>by
  simp only[List.cons_append,ay]at h
  obtain⟨u,t,rfl,h1,h2⟩:=h
  obtain⟨x,y,rfl,h3,h4,h5⟩:=UF a b t h2
  exact⟨u::x,y,rfl,by simp[h3],⟨u,x,rfl,h1,h4⟩,h5⟩
theorem MR{g:Gh}{n:Nat}{I:Nat→Prop}{w:World}:∀ (pk:List (Option (FuncId×Nat))) (args args':List PV) (avals:List Value),mM pk args=some args'→ay g n I w args avals→∃ vals,ay g n I w args' vals∧yB pk vals avals
 | [],args,args',avals,h,hr=>by
  simp only[mM,Option.some.injEq]at h
  subst h
  exact⟨avals,hr,rfl⟩
 |none::pk,[],_,_,h,_=>by simp[mM]at h
 |none::pk,v::vs,args',avals,h,hr=>by
  simp only[mM,Option.map_eq_some_iff]at h
  obtain⟨l,h1,rfl⟩:=h
  simp only[ay]at hr
  obtain⟨u,t,rfl,h2,h3⟩:=hr
  obtain⟨vals,h4,h5⟩:=MR pk vs l t h1 h3
  exact⟨u::vals,⟨u,vals,rfl,h2,h4⟩,u,vals,t,rfl,rfl,h5⟩
 |some (f,m)::pk,[],_,_,h,_=>by simp[mM]at h
 |some (f,m)::pk,v::vs,args',avals,h,hr=>by
  cases v with
  |fn f' caps=>
   simp only[mM]at h
   split at h <;>try (cases h;done)
   rename_i hc
   obtain⟨rfl,rfl⟩:=hc
   simp only[Option.map_eq_some_iff]at h
   obtain⟨l,h1,rfl⟩:=h
   simp only[ay]at hr
   obtain⟨u,t,rfl,h2,h3⟩:=hr
   simp only[aj]at h2
   obtain⟨us,rfl,h2⟩:=h2
   obtain⟨vals,h4,h5⟩:=MR pk vs l t h1 h3
   exact⟨us++vals,TY caps l us vals h2 h4,us,vals,t,rfl,jJ _ _ h2,rfl,h5⟩
  |_=>simp[mM]at h
theorem N8{g:Gh}{n:Nat}{I:Nat→Prop}{w:World}:∀ (pk:List (Option (FuncId×Nat))) (ps:List PV) (vals avals:List Value),yB pk vals avals→ay g n I w ps vals→ay g n I w (sJ pk ps) avals
 | [],ps,vals,avals,h,hr=>by simp only[yB]at h;subst h;exact hr
 |none::pk,ps,vals,avals,h,hr=>by
  obtain⟨v,a,b,rfl,rfl,h⟩:=h
  cases ps with
  |nil=>simp[ay]at hr
  |cons p ps=>
   simp only[ay]at hr
   obtain⟨u,t,e,h1,h2⟩:=hr
   cases e
   exact⟨_,_,rfl,h1,N8 pk ps _ b h h2⟩
 |some (f,m)::pk,ps,vals,avals,h,hr=>by
  obtain⟨us,a,b,rfl,rfl,rfl,h⟩:=h
  have hl:=jJ _ _ hr
  simp only[List.length_append]at hl
  rw[←List.take_append_drop us.length ps]at hr
  obtain⟨x,y,e,hx,h1,h2⟩:=UF _ _ _ hr
  have hxl:x.length=us.length:=by rw[hx,List.length_take];omega
  obtain⟨rfl,rfl⟩:=List.append_inj e hxl.symm
  exact⟨_,_,rfl,⟨us,rfl,h1⟩,N8 pk _ _ b h h2⟩
theorem ab9{g0f:FuncId}{S:aG}(hS:aF Dr P g0f S){args0 args:List PV}{x:ah.V (cu S.ins)}{y:ah.V (dL S.outs++dZ S.ins)}{res:List PV}{ob':List Ob}(hpk:mM S.pack args0=some args)(hx:jZ ob S.ins args=some x)
  (hnd:(fK ob S.ins args).Nodup) (hro:∀ i∈BB ob S.ins args,(!(fK ob S.ins args).contains i)=true) (hok:∀ p∈S.ins,p.ok=true) (hy:S.F x=some y)
  (hres:xR (vM S.outs) (bn (dL S.outs) (splitV (dL S.outs) (dZ S.ins) y).1 ob.length).1=some res)
  (hio:lC ob S.ins args (splitV (dL S.outs) (dZ S.ins) y).2 (lg (fK ob S.ins args) ob++(bn (dL S.outs) (splitV (dL S.outs) (dZ S.ins) y).1 ob.length).2)=some ob')
  (X:Cx Dr) (g:Gh) (w:World) (avals:List Value) (hs:aK X g ob w) (hr0:ay g ob.length X.I w args0 avals):
  Calls P g0f avals.toArray w fun e w'=>∃ vs bb g',Bq (mO S.outs) w w' bb vs e∧((S.ins.all bF.pure=true→oM Dr g ob.length w g' ob' w'∧∀ o,aJ g' ob' o→g'.A o<w.heap.size∨g'.A o∈bb)∧Only g ob w w')∧aK X g' ob' w'∧Keep g ob.length X.I w g' ob'.length w'∧ay g' ob'.length X.I w' res vs:=by
 obtain⟨vals,hr,hpacked⟩:=MR S.pack args0 args avals hpk hr0
 obtain⟨hent,hsum⟩:=hS
 obtain⟨T,t1,t2,t3⟩:=VA hs S.ins args x vals (List.all_eq_true.2 hok) hx hr hnd
 have hTI:∀ b∈T,¬ X.I b∧(X.B≤b∨b∈X.T)∧b<w.heap.size:=fun b hb=>by
  obtain⟨o,ho,hob,rfl⟩:=t2 b hb
  exact⟨(hs.blk hob).2,hs.base o hob,(hs.blk hob).1⟩
 have hargs:=t3 (fun b=>b<w.heap.size∧b∉T) (fun b hb=>⟨hs.bnd b hb,fun hm=>(hTI b hm).1 hb⟩) (fun o ho hob=>⟨(hs.blk hob).1,fun hm=>by
  obtain⟨o',ho',hob',e⟩:=t2 _ hm
  have:=hs.inj o o' hob hob' e
  subst this
  have:=hro o ho
  simp at this
  exact this ho'⟩)
 have:=hsum w T g.J x y vals avals (fun b hb=>⟨hs.bnd b (hs.jI b hb),fun hm=>(hTI b hm).1 (hs.jI b hb)⟩) t1 hs.tab hargs hy hpacked
 refine this.mono ?_
 rintro e w' ⟨hupd,us,vs,bs,bs',hans,ho,hgr,hios,hbn,hbT⟩
 have hbn2:=List.nodup_append.1 hbn
 have hkill:=hs.kill (fK ob S.ins args)
 have hklen:=xM (fK ob S.ins args) ob
 have notT:∀ o,aJ g (lg (fK ob S.ins args) ob) o→aJ g ob o∧g.A o∉T:=fun o hb=>by
  have hb1:aJ g ob o:=by
   rcases hb with ⟨cells,hb⟩ | ⟨e,xs,hb,hn⟩
   ·rcases(vw _ _ _ _ hb).1 with h |h
    ·cases h
    ·exact Or.inl ⟨_,h⟩
   ·rcases(vw _ _ _ _ hb).1 with h |h
    ·cases h
    ·exact Or.inr ⟨_,_,h,hn⟩
  refine⟨hb1,fun hm=> ?_⟩
  obtain⟨o',ho',hob',e⟩:=t2 _ hm
  have:=hs.inj o o' hb1 hob' e
  subst this
  rcases hb with ⟨cells,hb⟩ | ⟨e,xs,hb,hn⟩
  ·have:=(vw _ _ _ _ hb).2 ho';cases this
  ·have:=(vw _ _ _ _ hb).2 ho';cases this
 obtain⟨s1,k1⟩:=hkill.step hupd (fun b hb=>⟨(hTI b hb).1,(hTI b hb).2.1,fun o ho e=>(notT o ho).2 (e▸hb)⟩)
 rw[hklen]at k1
 have hbs:∀ b∈bs++bs',(X.B≤b∨b∈X.T)∧¬ X.I b∧∀ o,aJ g (lg (fK ob S.ins args) ob) o→g.A o≠b:=fun b hb=>by
  rcases hbT b hb with h |h
  ·exact⟨(hTI b h).2.1,(hTI b h).1,fun o ho e=>(notT o ho).2 (e▸h)⟩
  ·exact⟨Or.inl (Nat.le_trans hs.bsz h),fun hI=>by have:=hs.bnd b hI;omega,fun o ho e=>by have:=(hs.blk (notT o ho).1).1;omega⟩
 obtain⟨g1,s2,k2,r2,n2⟩:=qI (dL S.outs) _ us bs g _ ho rfl hbn2.1 (fun b hb=>hbs b (by simp[hb])) s1
 rw[hklen]at s2 k2 r2 n2
 have hdl:ob.length≤(lg (fK ob S.ins args) ob++(bn (dL S.outs) (splitV (dL S.outs) (dZ S.ins) y).1 ob.length).2).length:=k2.le
 have hw':∀ b,X.I b→w'.heap[b]? =w.heap[b]? :=fun b hb=>k1.heap b hb
 obtain⟨g',s3,k3⟩:=Xq hs hw' S.ins args x _ vals bs' g1 _ ob' k2.J hdl (fun o ho=>k2.agr o ho) s2 hx hr hios hnd (fun o ho=>by
  have hlt:=Vx hs S.ins args x hx o ho
  refine⟨hlt, ?_⟩
  rw[List.getElem?_append_left (by rw[hklen];exact hlt)]
  have hlt':o<(lg (fK ob S.ins args) ob).length:=by rw[hklen];exact hlt
  rw[List.getElem?_eq_getElem hlt']
  congr 1
  exact(vw _ _ _ _ (List.getElem?_eq_getElem hlt')).2 ho) hbn2.2.1 (fun b hb=>⟨(hbs b (by simp[hb])).1,(hbs b (by simp[hb])).2.1,fun o ho e=>by
   rcases n2 o ho with ⟨h1,h2⟩ |h1
   ·rw[(k2.agr o h1).A]at e
    exact(hbs b (by simp[hb])).2.2 o h2 e
   ·rw[e]at h1
    exact hbn2.2.2 b h1 b hb rfl⟩) hio
 have kk:Keep g ob.length X.I w g' ob'.length w':=(k1.trans k2).trans k3
 refine⟨vs,bs++bs',g',hans,⟨fun hp=> ?_,fun b hb hn=>hupd.block b hb fun hT=>by
  obtain⟨o,_,hob,e⟩:=t2 b hT
  exact hn o hob e.symm⟩,s3,kk,ay.keep k3 _ _ (Ub _ _ _ _ _ r2 hgr hres)⟩
 have hids:=Nq ob S.ins args hp
 have hT:T=[]:=by
  cases T with
  |nil=>rfl
  |cons b T=>
   obtain⟨o,ho,_⟩:=t2 b (by simp)
   rw[hids]at ho
   simp at ho
 subst hT
 have e1:=N7 ob S.ins args _ _ ob' hp hio
 rw[hids]at e1
 have key:∀ o,aJ g' ob' o→(o<ob.length∧g'.A o<w.heap.size)∨g'.A o∈bs:=fun o hb=>by
  rw[e1]at hb s3 k3
  have hb1:aJ g1 (lg (fK ob S.ins args) ob++(bn (dL S.outs) (splitV (dL S.outs) (dZ S.ins) y).1 ob.length).2) o:=by
   rw[hids]
   have hl:=hb.lt
   have hag:Agree g1 g' o:=by
    have:=k3.agr o (by rw[hids];exact hl)
    exact this
   rcases hb with ⟨cells,hb⟩ | ⟨e,xs,hb,hn⟩
   ·exact Or.inl ⟨_,hb⟩
   ·rw[hag.H]at hn;exact Or.inr ⟨_,_,hb,hn⟩
  have hA:g'.A o=g1.A o:=(k3.agr o hb1.lt).A
  rw[hA]
  rcases n2 o hb1 with ⟨h1,h2⟩ |h1
  ·left
   rw[(k2.agr o h1).A]
   exact⟨h1,(hs.blk (notT o h2).1).1⟩
  ·exact Or.inr h1
 refine⟨⟨hupd.below,fun o ho hb=> ?_⟩,fun o hb=> ?_⟩
 ·rcases key o hb with ⟨h1,_⟩ |h1
  ·omega
  ·rcases hbT _ (List.mem_append.2 (Or.inl h1))with h |h
   ·simp at h
   ·exact h
 ·rcases key o hb with ⟨_,h1⟩ |h1
  ·exact Or.inl h1
  ·exact Or.inr (List.mem_append.2 (Or.inl h1))
theorem ads{g0f:FuncId}{S:aG}(hS:aF Dr P g0f S){args0:List PV}(h:yK ob S args0 K=some r):∃ pv ob',K pv ob'=some r∧(S.ins.all bF.pure=true→∃ new,ob'=ob++new)∧
  ∀ (X:Cx Dr) (g:Gh) (w:World) (avals:List Value),aK X g ob w→ay g ob.length X.I w args0 avals→
   Calls P g0f avals.toArray w fun e w'=>∃ v,e= .returned v∧∃ g',((S.ins.all bF.pure=true→oM Dr g ob.length w g' ob' w')∧Only g ob w w')∧aK X g' ob' w'∧Keep g ob.length X.I w g' ob'.length w'∧aj g' ob'.length X.I w' pv v:=by
 unfold yK at h
 split at h <;>try (cases h;done)
 rename_i args hpk
 obtain⟨h,hbnd,_⟩:=Ei _ _ h
 split at h <;>try (cases h;done)
 rename_i x hx
 rw[hbnd]at hx
 split at h <;>try (cases h;done)
 rename_i hcond
 simp only[Bool.and_eq_true,List.all_eq_true]at hcond
 obtain⟨⟨⟨hnd,hro⟩,hok⟩,hflat⟩:=hcond
 have hnd:=(show ∀ l,jP l=true→l.Nodup from fun l=>by
  induction l with
  |nil=>intro _;exact List.nodup_nil
  |cons a l ih=>
   intro h
   simp only[jP,Bool.and_eq_true,Bool.not_eq_true',List.contains_eq_mem,decide_eq_false_iff_not]at h
   exact List.nodup_cons.2 ⟨h.1,ih h.2⟩) _ hnd
 obtain⟨y,hy,h⟩:=Option.bind_eq_some_iff.1 h
 split at h <;>try (cases h;done)
 rename_i res ob' hres hio
 have hpo:S.ins.all bF.pure=true→∃ new,ob'=ob++new:=fun hp=>by
  have h1:=N7 ob S.ins args _ _ ob' hp hio
  rw[Nq ob S.ins args hp]at h1
  exact⟨_,h1⟩
 have core:=ab9 hS hpk hx hnd hro hok hy hres hio
 cases hbx:mO S.outs with
 |false=>
  rw[hbx]at h
  refine⟨_,ob',h,hpo,fun X g w avals hs hr0=> ?_⟩
  refine(core X g w avals hs hr0).mono ?_
  rintro e w' ⟨vs,bb,g',ha,⟨h1,h2⟩,h3,h4,h5⟩
  rw[hbx]at ha
  exact⟨_,ha,g',⟨fun hp=>(h1 hp).1,h2⟩,h3,h4,abM _ _ h5⟩
 |true=>
  rw[hbx]at h
  unfold OY at h
  simp only at h
  split at h <;>try (cases h;done)
  rename_i b cs hp
  refine⟨_,_,h,fun _=> ?_,fun X g w avals hs hr0=> ?_⟩
  ·obtain⟨new,e⟩:=hpo hp
   exact⟨new++[.box cs],by rw[e,List.append_assoc]⟩
  refine(core X g w avals hs hr0).mono ?_
  rintro e w' ⟨vs,bb,g',ha,⟨h1,h2⟩,h3,h4,h5⟩
  rw[hbx]at ha
  obtain⟨b,pr,us,po,t,rfl,rfl,hw,hb1,hb2⟩:=ha
  obtain⟨hf,hblk⟩:=h1 hp
  simp only[ay]at h5
  obtain⟨u,t',e5,h5,_⟩:=h5
  cases e5
  simp only[aj]at h5
  obtain⟨us',e6,h5⟩:=h5
  have e6:us=us':=by have:=congrArg (fun v=>match v with |Value.agg a=>a.toList |_=>[]) e6;simpa using this
  subst e6
  have hne:∀ o,aJ g' ob' o→g'.A o≠b:=fun o ho e=>by
   rcases hblk o ho with h |h
   ·omega
   ·rw[e]at h;exact hb2 h
  have hnI:¬ X.I b:=fun hI=>by have:=hs.bnd b hI;omega
  have s4:=h3.Ya (.box cs) b undef 1 0 pr po (fun cells hc=>by cases hc;exact⟨us,t,hw,h5,hnI,rfl,rfl⟩) (fun _ _ hc=>by cases hc) (fun _=>⟨Or.inl (Nat.le_trans hs.bsz hb1),hne⟩)
  have k4:Keep g' ob'.length X.I w' (g'.dB ob'.length b undef 1 0 pr po) (ob'++[Ob.box cs]).length w':=by simpa using Keep.dB h3.jI
  refine⟨_,rfl,g'.dB ob'.length b undef 1 0 pr po,⟨fun _=>⟨hf.below,fun o ho hb'=> ?_⟩,h2⟩,s4,h4.trans k4, ?_⟩
  ·by_cases ho':o=ob'.length
   ·subst ho';simpa [Gh.dB]using hb1
   ·rw[(LH ho').A]
    refine hf.fresh o ho ?_
    have hl:=hb'.lt
    simp only[List.length_append,List.length_cons,List.length_nil]at hl
    have hl2:o<ob'.length:=by omega
    rcases hb' with ⟨c',hb'⟩ | ⟨e',xs,hb',hn⟩
    ·rw[List.getElem?_append_left hl2]at hb';exact Or.inl ⟨_,hb'⟩
    ·rw[List.getElem?_append_left hl2]at hb'
     rw[(LH ho').H]at hn
     exact Or.inr ⟨_,_,hb',hn⟩
  ·simp only[aj]
   exact⟨by simp,by simp[Gh.dB],by simp[Gh.dB],by simp[Gh.dB]⟩
theorem aer(hT:∀ g fs S,tbl g fs=some S→aF Dr P g S){c:Call}{f:Operand}(hc:c.callee= .value f)(hop:o.op= .call c)(h:bP P tbl env ob o.op K=some r):∃ pv ob',K pv ob'=some r∧WV Dr P ob env o (impure tbl env o.op) pv ob':=by
 rw[hop]at h ⊢
 simp only[bP,hc]at h
 split at h <;>try (cases h;done)
 rename_i gf caps hf
 split at h <;>try (cases h;done)
 rename_i S hS
 have hsum:=hT gf _ S hS
 obtain⟨pv,ob',h1,h2,h3⟩:=ads hsum h
 have him:impure tbl env (.call c)= !S.ins.all bF.pure:=by
  simp only[impure,hc,hf,hS]
 rw[him]
 refine⟨pv,ob',h1,fun hp=>h2 (by simpa using hp),fun X N g w a hs he=> ?_⟩
 have hfv:=he.ev f
 rw[hf]at hfv
 simp only[aj]at hfv
 obtain⟨us,hfv,hcaps⟩:=hfv
 unfold nV
 rw[acE hsum.1 hc hfv hop]
 simp only[]
 have hvals:ay g ob.length X.I w (c.args.toList.map (ev env)++caps) (c.args.toList.map a.eval++us):=MK _ _ _ _ (MJ he _) hcaps
 have:=h3 X g w _ hs hvals
 have e1:(c.args.toList.map a.eval++us).toArray=c.args.map a.eval++us.toArray:=by
  apply Array.ext'
  simp
 rw[e1]at this
 refine this.mono ?_
 rintro e w' ⟨v,rfl,g',hp,k1,k2,k3⟩
 exact⟨v,rfl,g',⟨fun hh=>hp.1 (by simpa using hh),hp.2,fun hh=>by rw[hop]at hh;simp[rX,hc]at hh⟩,k1,k2,k3⟩
end Go.Rv
set_option linter.unusedVariables false
set_option linter.unusedSimpArgs false
namespace Go.Rv
open Go.RowKit
variable {Dr:Kn}
def Gh.sel(g:Gh)(ids:List Nat):Gh:=⟨fun j=>g.A (ids.getD j 0),fun j=>g.H (ids.getD j 0),fun j=>g.L (ids.getD j 0),fun j=>g.S (ids.getD j 0),fun j=>g.pre (ids.getD j 0),fun j=>g.post (ids.getD j 0),g.J⟩
theorem Nr(ids:List Nat)(o:Nat)(h:o∈ids):place ids o<ids.length∧ids.getD (place ids o) 0=o:=by
 unfold place
 have h1:ids.findIdx (· ==o)<ids.length:=List.findIdx_lt_length_of_exists ⟨o,h,by simp⟩
 refine⟨h1, ?_⟩
 have h2:=List.findIdx_getElem (w:=h1)
 simp only[List.getD_eq_getElem?_getD,List.getElem?_eq_getElem h1,Option.getD_some]
 simpa using h2
mutual
theorem Xg{g:Gh}{n:Nat}{I:Nat→Prop}{w:World}(ids:List Nat):∀ (v:PV) (u:Value),(∀ i∈bI v,i∈ids)→aj g n I w v u→aj (g.sel ids) ids.length I w (ren ids v) u
 | .int _ _,_,_,h=>by simpa [ren,aj]using h
 | .bool _,_,_,h=>by simpa [ren,aj]using h
 | .str _,_,_,h=>by simpa [ren,aj]using h
 | .sl _ _,_,_,h=>by simpa [ren,aj]using h
 | .own o,u,hi,h=>by
  obtain⟨h1,h2⟩:=Nr ids o (hi o (by simp[bI]))
  simp only[ren,aj,Gh.sel,h2]at h ⊢
  exact⟨h1,h.2⟩
 | .sh _ _,_,_,h=>by simpa [ren,aj,Gh.sel]using h
 | .emp,_,_,h=>by simpa [ren,aj]using h
 | .ref o sz off len,u,hi,h=>by
  obtain⟨h1,h2⟩:=Nr ids o (hi o (by simp[bI]))
  simp only[ren,aj,Gh.sel,h2]at h ⊢
  exact⟨h1,h.2⟩
 | .ptr o i sz j,u,hi,h=>by
  obtain⟨h1,h2⟩:=Nr ids o (hi o (by simp[bI]))
  simp only[ren,aj,Gh.sel,h2]at h ⊢
  exact⟨h1,h.2⟩
 | .eptr _ _ _,_,_,h=>by simpa [ren,aj]using h
 | .nilp,_,_,h=>by simpa [ren,aj]using h
 | .nils,_,_,h=>by simpa [ren,aj]using h
 | .either,_,_,h=>by simpa [ren,aj]using h
 | .agg vs,u,hi,h=>by
  simp only[ren,aj]at h ⊢
  obtain⟨us,hu,hr⟩:=h
  exact⟨us,hu,AX ids vs us (by simpa [bI]using hi) hr⟩
 | .tup vs,u,hi,h=>by
  simp only[ren,aj]at h ⊢
  obtain⟨us,hu,hr⟩:=h
  exact⟨us,hu,AX ids vs us (by simpa [bI]using hi) hr⟩
 | .fn f vs,u,hi,h=>by
  simp only[ren,aj]at h ⊢
  obtain⟨us,hu,hr⟩:=h
  exact⟨us,hu,AX ids vs us (by simpa [bI]using hi) hr⟩
 | .undef,_,_,_=>by simp[ren,aj]
 | .skip,_,_,h=>by simpa [ren,aj]using h
theorem AX{g:Gh}{n:Nat}{I:Nat→Prop}{w:World}(ids:List Nat):∀ (vs:List PV) (us:List Value),(∀ i∈aW vs,i∈ids)→ay g n I w vs us→ay (g.sel ids) ids.length I w (tq ids vs) us
 | [],us,_,h=>by simpa [tq,ay]using h
 |v::r,us,hi,h=>by
  simp only[tq,ay]at h ⊢
  obtain⟨u,t,hu,h1,h2⟩:=h
  exact⟨u,t,hu,Xg ids v u (fun i hm=>hi i (by simp[aW,hm])) h1,AX ids r t (fun i hm=>hi i (by simp[aW,hm])) h2⟩
end
theorem Nv:∀ (l:List Nat),jP l=true→l.Nodup
 | [],_=>List.nodup_nil
 |x::r,h=>by
  simp only[jP,Bool.and_eq_true,Bool.not_eq_true',List.contains_eq_mem,decide_eq_false_iff_not]at h
  exact List.nodup_cons.2 ⟨h.1,Nv r h.2⟩
theorem Uh(ids:List Nat)(env:Env):∀ (keep:List Nat) (s:Nat),(s∈keep∧look (AU ids env keep) s=ren ids (look env s))∨look (AU ids env keep) s= .undef
 | [],s=>Or.inr rfl
 |k::r,s=>by
  simp only[AU,look]
  by_cases h:k=s
  ·subst h;rw[if_pos rfl];exact Or.inl ⟨by simp,rfl⟩
  ·rw[if_neg h]
   rcases Uh ids env r s with ⟨h1,h2⟩ |h2
   ·exact Or.inl ⟨List.mem_cons_of_mem _ h1,h2⟩
   ·exact Or.inr h2
theorem WI:∀ (vs:List PV) (v:PV),v∈vs→∀ i∈bI v,i∈aW vs
 | [],v,h,i,hi=>by simp at h
 |x::r,v,h,i,hi=>by
  simp only[aW,List.mem_append]
  rcases List.mem_cons.1 h with rfl |h
  ·exact Or.inl hi
  ·exact Or.inr (WI r v h i hi)
theorem ED{R:Type}{n0:Nat}{keep:List Nat}{env:Env}{ob:List Ob}{K:Env→List Ob→Option R}{r:R}(h:clean n0 keep env ob K=some r):
  ∃ env' ob',K env' ob'=some r∧∀ (X:Cx Dr) (N:Nat) (g:Gh) (w:World) (a:Act),X.n0=n0→aK X g ob w→dG N g ob.length X.I w env a→
   ∃ g',aK X g' ob' w∧dG N g' ob'.length X.I w env' a:=by
 unfold clean at h
 split at h <;>try (simp at h;done)
 rename_i hc
 refine⟨_,_,h,fun X N g w a hn0 s he=> ?_⟩
 subst hn0
 clear h
 generalize reach X.n0 (keep.map (look env)) ob=ids at hc ⊢
 simp only[WT,Bool.and_eq_true,List.all_eq_true,List.contains_eq_mem,decide_eq_true_eq,List.mem_range,beq_iff_eq]at hc
 obtain⟨⟨⟨hnd,hids⟩,hcl⟩,hpre⟩:=hc
 have hnd:=Nv _ hnd
 have getX:∀ j X,(ids.map fun i=>jX ids ob[i]?)[j]? =some X→∃ i,ids[j]? =some i∧X=jX ids ob[i]? ∧ids.getD j 0=i:=fun j X hX=>by
  rw[List.getElem?_map,Option.map_eq_some_iff]at hX
  obtain⟨i,hi,rfl⟩:=hX
  exact⟨i,hi,rfl,by simp[List.getD_eq_getElem?_getD,hi]⟩
 have len:(ids.map fun i=>jX ids ob[i]?).length=ids.length:=by simp
 have toBlk:∀ j,aJ (g.sel ids) (ids.map fun i=>jX ids ob[i]?) j→j<ids.length∧aJ g ob (ids.getD j 0):=fun j hb=>by
  have hj:j<ids.length:=by have:=hb.lt;rwa [len]at this
  refine⟨hj, ?_⟩
  rcases hb with ⟨cells,hb⟩ | ⟨e,xs,hb,hn⟩
  ·obtain⟨i,hi,hX,hg⟩:=getX j _ hb
   rw[hg]
   cases hob:ob[i]? with
   |none=>rw[hob]at hX;simp[jX]at hX
   |some Y=>
    rw[hob]at hX
    cases Y <;>simp[jX]at hX
    exact Or.inl ⟨_,hob⟩
  ·obtain⟨i,hi,hX,hg⟩:=getX j _ hb
   have hn':¬ ig (g.H (ids.getD j 0)):=hn
   rw[hg]at hn' ⊢
   cases hob:ob[i]? with
   |none=>rw[hob]at hX;simp[jX]at hX
   |some Y=>
    rw[hob]at hX
    cases Y <;>simp[jX]at hX
    exact Or.inr ⟨_,_,hob,hn'⟩
 have hlen0:X.n0≤ids.length:=by
  rcases Nat.eq_zero_or_pos X.n0 with h0 |h0
  ·omega
  ·have:=hpre (X.n0 - 1) (by omega)
   have:=(List.getElem?_eq_some_iff.1 this).1
   omega
 refine⟨g.sel ids,⟨?_, ?_, ?_, ?_,s.bnd,s.jI,s.upd,s.bsz,by rw[len];exact hlen0,fun o ho=> ?_,s.keptJ⟩,he.1,he.2.1,fun sl=> ?_⟩
 ·intro j cells hb
  obtain⟨i,hi,hX,hg⟩:=getX j _ hb
  cases hob:ob[i]? with
  |none=>rw[hob]at hX;simp[jX]at hX
  |some Y=>
   rw[hob]at hX
   cases Y with
   |box c0=>
    simp only[jX,Ob.box.injEq]at hX
    obtain⟨us,t,k1,k2,k3,k4,k5⟩:=s.box i c0 hob
    refine⟨us,t, ?_, ?_, ?_, ?_, ?_⟩
    ·show w.heap[g.A (ids.getD j 0)]? =some (.cells (g.pre (ids.getD j 0)++us++g.post (ids.getD j 0)).toArray t (0,0));rw[hg];exact k1
    ·rw[hX,len]
     refine AX ids c0 us (fun z hz=>hcl i (List.mem_of_getElem? hi) z ?_) k2
     rw[hob];exact hz
    ·show ¬ X.I (g.A (ids.getD j 0));rw[hg];exact k3
    ·show g.S (ids.getD j 0)=0;rw[hg];exact k4
    ·show g.L (ids.getD j 0)=1;rw[hg];exact k5
   |arr e xs=>simp[jX]at hX
   |dead=>simp[jX]at hX
 ·intro j e xs hb
  obtain⟨i,hi,hX,hg⟩:=getX j _ hb
  cases hob:ob[i]? with
  |none=>rw[hob]at hX;simp[jX]at hX
  |some Y=>
   rw[hob]at hX
   cases Y with
   |box c0=>simp[jX]at hX
   |arr e' xs'=>
    simp only[jX]at hX
    cases hX
    obtain⟨k1,k2,kp,k3⟩:=s.arr i e xs hob
    refine⟨?_, ?_, ?_, ?_⟩
    ·show g.S (ids.getD j 0)=_;rw[hg];exact k1
    ·show g.L (ids.getD j 0)=_;rw[hg];exact k2
    ·show g.pre (ids.getD j 0)=_;rw[hg];exact kp
    ·unfold sW at*
     simp only[Gh.sel,hg]
     exact k3
   |dead=>simp[jX]at hX
 ·intro j j' hb hb' e
  obtain⟨h1,h2⟩:=toBlk j hb
  obtain⟨h3,h4⟩:=toBlk j' hb'
  have:=s.inj _ _ h2 h4 e
  simp only[List.getD_eq_getElem?_getD,List.getElem?_eq_getElem h1,List.getElem?_eq_getElem h3,Option.getD_some]at this
  have hp:=List.pairwise_iff_getElem.1 hnd
  rcases Nat.lt_trichotomy j j' with hlt |heq |hgt
  ·exact absurd this (hp j j' h1 h3 hlt)
  ·exact heq
  ·exact absurd this.symm (hp j' j h3 h1 hgt)
 ·intro j hb
  obtain⟨h1,h2⟩:=toBlk j hb
  exact s.base _ h2
 ·have h1:ids.getD o 0=o:=by simp[List.getD_eq_getElem?_getD,hpre o ho]
  have h2:=s.kept o ho
  refine⟨?_, ?_, ?_, ?_, ?_, ?_⟩ <;>simp only[Gh.sel,h1]
  ·exact h2.A
  ·exact h2.H
  ·exact h2.L
  ·exact h2.S
  ·exact h2.pre
  ·exact h2.post
 ·rw[len]
  rcases Uh ids env keep sl with ⟨h1,h2⟩ |h2
  ·rw[h2]
   exact Xg ids _ _ (fun i hi=>hids i (WI _ _ (List.mem_map.2 ⟨sl,h1,rfl⟩) i hi)) (he.2.2 sl)
  ·rw[h2];simp[aj]
end Go.Rv
set_option linter.unusedVariables false
set_option linter.unusedSimpArgs false
namespace Go.Rv
open Go.RowKit
variable {Dr:Kn}
variable {R:Type} {P:Program} {tbl:dX} {env:Env} {ob:List Ob} {o:Oper} {K:PV→List Ob→Option R} {r:R}
theorem Oh(hT:∀ g fs S,tbl g fs=some S→aF Dr P g S)(h:bP P tbl env ob o.op K=some r):∃ pv ob',K pv ob'=some r∧WV Dr P ob env o (impure tbl env o.op) pv ob':=by
 have q:(∃ pv,K pv ob=some r∧QV Dr P ob env o pv)→∃ pv ob',K pv ob'=some r∧WV Dr P ob env o (impure tbl env o.op) pv ob':=fun⟨pv,h1,h2⟩=>⟨pv,ob,h1,h2.wv _⟩
 have e:(∃ pv ob',K pv ob'=some r∧EV Dr P ob env o (impure tbl env o.op) pv ob')→∃ pv ob',K pv ob'=some r∧WV Dr P ob env o (impure tbl env o.op) pv ob':=fun⟨pv,ob',h1,h2⟩=>⟨pv,ob',h1,h2.wv⟩
 cases hop:o.op with
 |move x=>rw[←hop];exact q (Xi (Or.inl hop) (by rw[hop]at h;simpa [bP]using h))
 |assign x=>rw[←hop];exact q (Xi (Or.inr hop) (by rw[hop]at h;simpa [bP]using h))
 |nilCheck x=>rw[←hop];exact q (abV hop h)
 |pick c x y=>rw[←hop];exact q (aeB hop h)
 |makeFunc f x y=>rw[←hop];exact q (abW hop h)
 |load t x=>rw[←hop];exact q (aeC hop h)
 |fieldAddr t x f=>rw[←hop];exact q (abJ hop h)
 |field t x f=>rw[←hop];exact q (adM hop h)
 |indexAddr t x i=>rw[←hop];exact q (abI hop h)
 |index t x i=>rw[←hop];exact q (adL hop h)
 |binOp op t x y t'=>rw[←hop];exact q (adO hop h)
 |unOp op t x=>rw[←hop];exact q (aeA hop h)
 |convert s d x=>rw[←hop];exact q (aco hop h)
 |build t ps=>rw[←hop];exact q (adN hop h)
 |extract x i=>rw[←hop];exact q (acn hop h)
 |slice t x lo hi mx=>rw[←hop];exact q (adK hop h)
 |box t x=>rw[←hop];exact e (afj hop _ h)
 |alloc t=>rw[←hop];exact e (aeb hop _ h)
 |makeSlice t l c=>rw[←hop];exact e (abP hop _ h)
 |buildSlice t l c=>rw[←hop];exact e (aby hop _ h)
 |store t x y=>
  obtain⟨pv,ob',h1,h2⟩:=aea hop h
  exact⟨pv,ob',h1,h2.wv⟩
 |call c=>
  rw[←hop]
  obtain⟨callee,args,ats⟩:=c
  cases callee with
  |value f=>exact aer hT rfl hop h
  |invoke f m=>rw[hop]at h;simp[bP]at h
  |builtin b=>
   cases b
   case len=>exact q (q_len rfl hop h)
   case min=>exact q (Vo (Or.inl rfl) hop h)
   case max=>exact q (Vo (Or.inr rfl) hop h)
   case append=>exact e (adn rfl hop h)
   all_goals (rw[hop]at h;simp[bP]at h;done)
 |_=>rw[hop]at h;simp[bP]at h;done
theorem NI{N:Nat}{g:Gh}{n:Nat}{I:Nat→Prop}{w:World}{a:Act}{ops:Array Oper}(he:dG N g n I w env a){j s:Nat}{want b:Bool}(hg:o.guard=some (j,want))(hs:yH ops j=some s)(hl:look env s= .bool b):
  Region.wanted o (yielded ops a.tmps)=(b==want):=by
 have h1:=he.2.2 s
 rw[hl]at h1
 simp only[aj]at h1
 have h2:a.tmps[s]? =some (.bool b):=by
  rw[Array.getD_eq_getD_getElem?]at h1
  cases h3:a.tmps[s]? with
  |none=>rw[h3]at h1;simp[undef]at h1
  |some v=>rw[h3]at h1;simpa using h1
 unfold yH at hs
 simp only[Region.wanted,hg,yielded,hs,Option.bind_some,h2]
 cases b <;>cases want <;>rfl
theorem Um{N:Nat}{g:Gh}{n:Nat}{I:Nat→Prop}{w:World}{a:Act}{ops:Array Oper}(he:dG N g n I w env a){j s:Nat}{want:Bool}(hg:o.guard=some (j,want))(hs:yH ops j=some s)(hl:look env s= .skip):
  Region.wanted o (yielded ops a.tmps)=false:=by
 have h1:=he.2.2 s
 rw[hl]at h1
 simp only[aj]at h1
 unfold yH at hs
 simp only[Region.wanted,hg,yielded,hs,Option.bind_some]
 rw[Array.getD_eq_getD_getElem?]at h1
 cases h3:a.tmps[s]? with
 |none=>rfl
 |some v=>
  rw[h3]at h1
  simp only[Option.getD_some]at h1
  subst h1
  rfl
theorem D8(hT:∀ g fs S,tbl g fs=some S→aF Dr P g S){N:Nat}{ops:Array Oper}{X:Cx Dr}{K:Env→List Ob→Option R}{Q:Exit→Act→World→Prop}:
  ∀ (l:List Oper) (env:Env) (ob:List Ob) (g:Gh) (w:World) (a:Act),qh P tbl N ops l env ob K=some r→aK X g ob w→dG N g ob.length X.I w env a→
   (∀ env' ob' g' w' a',K env' ob'=some r→aK X g' ob' w'→dG N g' ob'.length X.I w' env' a'→Q .normal a' w')→wpList P ops Q l a w
 | [],env,ob,g,w,a,h,hs,he,hQ=>hQ env ob g w a h hs he
 |o::l,env,ob,g,w,a,h,hs,he,hQ=>by
  simp only[qh]at h
  split at h <;>try (simp at h;done)
  rename_i hd
  have step:∀ env1,dG N g ob.length X.I w env1 a→Region.wanted o (yielded ops a.tmps)=true→bP P tbl env1 ob o.op (fun v ob'=>qh P tbl N ops l (put env1 o.dst v) ob' K)=some r→wpList P ops Q (o::l) a w:=fun env1 he1 hw h1=>by
   obtain⟨pv,ob',h2,_,h3⟩:=Oh hT h1
   unfold wpList
   rw[if_pos hw]
   refine Or.inl (Xn (AA ?_ (h3 X N g w a hs he1)))
   rintro v w' ⟨g',_,s',k',r'⟩
   exact D8 hT l _ ob' g' w' _ h2 s' ((he1.keep k').put hd r') hQ
  split at h
  ·rename_i hg
   exact step env he (by simp[Region.wanted,hg]) h
  ·rename_i j want hg
   split at h <;>try (simp at h;done)
   rename_i s hgs
   split at h <;>try (simp at h;done)
   rotate_left
   ·rename_i hl
    have hw:=Um he hg hgs hl
    unfold wpList
    rw[if_neg (by rw[hw];simp)]
    exact D8 hT l _ ob g w _ h hs (he.put hd (by simp[aj])) hQ
   rename_i b hl
   have hw:=NI he hg hgs hl
   have he1:=he.lit hl
   have h1:(if b=want then bP P tbl ((s,.bool b)::env) ob o.op (fun v ob'=>qh P tbl N ops l (put ((s,.bool b)::env) o.dst v) ob' K)else qh P tbl N ops l (put ((s,.bool b)::env) o.dst .skip) ob K)=some r:=by
    cases b <;>simpa using h
   by_cases hbw:b=want
   ·rw[if_pos hbw]at h1
    exact step _ he1 (by rw[hw,hbw];simp) h1
   ·rw[if_neg hbw]at h1
    unfold wpList
    rw[if_neg (by rw[hw];simp[hbw])]
    exact D8 hT l _ ob g w _ h1 hs (he1.put hd (by simp[aj])) hQ
end Go.Rv
set_option linter.unusedVariables false
set_option linter.unusedSimpArgs false
namespace Go.Rv
open Go.RowKit
variable {Dr:Kn}
variable {R:Type} {P:Program} {tbl:dX} {env:Env} {ob:List Ob} {o:Oper} {K:PV→List Ob→Option R} {r:R}
def Closed(ops:List Oper)(L:Nat→Bool):Prop:=∀ j o,ops[j]? =some o→L j=true→∀ e∈o.after,Region.binds .any e=true→L e.on=true
def Reach(ops:List Oper)(k x:Nat):Prop:=∀ L,Closed ops L→(∀ o,ops[k]? =some o→∀ e∈o.after,Region.binds .any e=true→L e.on=true)→L x=true
theorem Vk{tab:List Nat}{x:Nat}:∀ (es:List Edge) (m:Nat),(es.foldl (fun m e=>if Region.binds .any e=true then m ||| (1 <<< e.on) ||| tab.getD e.on 0 else m) m).testBit x=true→
  m.testBit x=true∨∃ e∈es,Region.binds .any e=true∧(e.on=x∨(tab.getD e.on 0).testBit x=true)
 | [],m,h=>Or.inl h
 |e::es,m,h=>by
  simp only[List.foldl_cons]at h
  rcases Vk es _ h with h1 | ⟨e',h1,h2,h3⟩
  ·split at h1
   ·rename_i hb
    simp only[Nat.testBit_or,Bool.or_eq_true]at h1
    rcases h1 with (h1 |h1) |h1
    ·exact Or.inl h1
    ·right
     refine⟨e,by simp,hb,Or.inl ?_⟩
     rw[Nat.one_shiftLeft,Nat.testBit_two_pow]at h1
     simpa using h1
    ·exact Or.inr ⟨e,by simp,hb,Or.inr h1⟩
   ·exact Or.inl h1
  ·exact Or.inr ⟨e',List.mem_cons_of_mem _ h1,h2,h3⟩
def Back(ops:List Oper):Prop:=∀ (k:Nat) (o:Oper),ops[k]? =some o→∀ e∈o.after,Region.binds .any e=true→e.on<k
theorem UO(ops:List Oper):∀ (l:List Oper) (tab:List Nat),ops=ops.take tab.length++l→(∀ k x,(tab.getD k 0).testBit x=true→Reach ops k x∧(Back ops→x<k))→
  ∀ k x,((Bl l tab).getD k 0).testBit x=true→Reach ops k x∧(Back ops→x<k)
 | [],tab,_,h=>fun k x hb=>h k x hb
 |o::l,tab,hl,h=>by
  rw[Bl]
  have htl:tab.length≤ops.length:=by
   rcases Nat.lt_or_ge ops.length tab.length with h1 |h1
   ·have:=congrArg List.length hl
    rw[List.take_of_length_le (Nat.le_of_lt h1)]at this
    simp at this
   ·exact h1
  have hget:ops[tab.length]? =some o:=by
   rw[hl,List.getElem?_append_right (by simp;omega)]
   simp[Nat.min_eq_left htl]
  refine UO ops l _ ?_ ?_
  ·have h2:=hl
   conv=>lhs;rw[hl]
   have hlt:tab.length<ops.length:=(List.getElem?_eq_some_iff.1 hget).1
   simp only[List.length_append,List.length_singleton]
   rw[List.take_add_one,hget]
   simp
  ·intro k x hb
   by_cases hk:k<tab.length
   ·have:(tab++[o.after.toList.foldl (fun m e=>if Region.binds .any e=true then m ||| (1 <<< e.on) ||| tab.getD e.on 0 else m) 0]).getD k 0=tab.getD k 0:=by
     simp[List.getD_eq_getElem?_getD,List.getElem?_append_left hk]
    rw[this]at hb
    exact h k x hb
   ·by_cases hk2:k=tab.length
    ·subst hk2
     simp only[List.getD_eq_getElem?_getD,List.getElem?_concat_length,Option.getD_some]at hb
     rcases Vk _ _ hb with h1 | ⟨e,he,hbd,h1⟩
     ·simp at h1
     ·have he':e∈o.after:=by simpa using he
      refine⟨fun L hc hed=> ?_,fun hsm=> ?_⟩
      ·have hL:=hed o hget e he' hbd
       rcases h1 with rfl |h1
       ·exact hL
       ·refine(h e.on x ?_).1 L hc fun o2 ho2 e2 he2 hb2=>hc e.on o2 ho2 hL e2 he2 hb2
        rw[List.getD_eq_getElem?_getD];exact h1
      ·have h2:=hsm _ o hget e he' hbd
       rcases h1 with rfl |h1
       ·exact h2
       ·have h3:=(h e.on x (by rw[List.getD_eq_getElem?_getD];exact h1)).2 hsm
        omega
    ·have:(tab++[o.after.toList.foldl (fun m e=>if Region.binds .any e=true then m ||| (1 <<< e.on) ||| tab.getD e.on 0 else m) 0]).getD k 0=0:=by
      rw[List.getD_eq_getElem?_getD,List.getElem?_eq_none (by simp;omega)]
      rfl
     rw[this]at hb
     simp at hb
def bV(f:Nat→Bool):List (Nat×List Ob)→List Ob
 | []=>[]
 | (k,os)::r=>(if f k=true then os else jQ os)++bV f r
theorem AB(m:Nat):∀ (objs:List (Nat×List Ob)),yF m objs=bV (fun k=>m.testBit k) objs
 | []=>rfl
 | (k,os)::r=>by simp only[yF,bV,AB m r]
def iU(vals:List (Nat×PV))(u:Nat→Nat→PV)(f:Nat→Bool):List Oper→Nat→Env
 | [],_=>[]
 |o::r,k=>match o.dst with
  |some d=>(d,if f k=true then valOf vals k else u k d)::iU vals u f r (k+1)
  |none=>iU vals u f r (k+1)
theorem Nz(vals:List (Nat×PV))(u:Nat→Nat→PV)(m:Nat):∀ (ops:List Oper) (k:Nat),gJ vals u m ops k=iU vals u (fun k=>m.testBit k) ops k
 | [],_=>rfl
 |o::r,k=>by
  simp only[gJ,iU]
  cases o.dst <;>simp[Nz vals u m r]
theorem pX:∀ (os:List Ob),(jQ os).length=os.length
 | []=>rfl
 |_::r=>by simp[jQ,pX r]
theorem EC:∀ (os:List Ob) (i:Nat) (Y:Ob),(jQ os)[i]? =some Y→Y= .dead
 | [],i,Y,h=>by simp[jQ]at h
 |_::r,0,Y,h=>by simp[jQ]at h;exact h.symm
 |_::r,i+1,Y,h=>EC r i Y (by simpa [jQ]using h)
theorem rM(f:Nat→Bool):∀ (objs:List (Nat×List Ob)),(bV f objs).length=total objs
 | []=>rfl
 | (k,os)::r=>by
  simp only[bV,List.length_append,total,rM f r]
  split <;>simp[pX]
theorem Eo(f:Nat→Bool):∀ (a b:List (Nat×List Ob)),bV f (a++b)=bV f a++bV f b
 | [],b=>rfl
 | (k,os)::r,b=>by simp only[List.cons_append,bV,Eo f r b,List.append_assoc]
theorem MF:∀ (a b:List (Nat×List Ob)),total (a++b)=total a+total b
 | [],b=>by simp[total]
 | (k,os)::r,b=>by simp only[List.cons_append,total,MF r b];omega
theorem NS:∀ (a b:List (Nat×List Ob)) (i:Nat),i<total a→iD (a++b) i=iD a i
 | [],b,i,h=>by simp[total]at h
 | (k,os)::r,b,i,h=>by
  simp only[List.cons_append,iD]
  split
  ·rfl
  ·exact NS r b _ (by simp only[total]at h;omega)
theorem NQ:∀ (a b:List (Nat×List Ob)) (k:Nat) (os:List Ob) (i:Nat),i<os.length→iD (a++(k,os)::b) (total a+i)=some k
 | [],b,k,os,i,h=>by simp[total,iD,h]
 | (k',os')::r,b,k,os,i,h=>by
  simp only[List.cons_append,iD,total]
  rw[if_neg (by omega),show os'.length+total r+i - os'.length=total r+i by omega]
  exact NQ r b k os i h
theorem NR:∀ (a:List (Nat×List Ob)) (i k:Nat),iD a i=some k→k∈a.map (·.1)
 | [],i,k,h=>by simp[iD]at h
 | (k',os)::r,i,k,h=>by
  simp only[iD]at h
  split at h
  ·have:=Option.some.inj h
   simp[this]
  ·simp[NR r _ k h]
theorem ML(f:Nat→Bool):∀ (objs:List (Nat×List Ob)) (i:Nat) (Y:Ob),(bV f objs)[i]? =some Y→Y≠ .dead→∃ d,iD objs i=some d∧f d=true
 | [],i,Y,h,_=>by simp[bV]at h
 | (k,os)::r,i,Y,h,hY=>by
  simp only[bV]at h
  simp only[iD]
  have hl:(if f k=true then os else jQ os).length=os.length:=by split <;>simp[pX]
  split
  ·rename_i hi
   rw[List.getElem?_append_left (by omega)]at h
   split at h
   ·rename_i hf;exact⟨k,rfl,hf⟩
   ·exact absurd (EC _ _ _ h) hY
  ·rename_i hi
   rw[List.getElem?_append_right (by omega),hl]at h
   exact ML f r _ Y h hY
theorem Vu{f f':Nat→Bool}(hf:∀ k,f k=true→f' k=true):∀ (objs:List (Nat×List Ob)) (i:Nat) (Y:Ob),(bV f objs)[i]? =some Y→Y= .dead∨(bV f' objs)[i]? =some Y
 | [],i,Y,h=>by simp[bV]at h
 | (k,os)::r,i,Y,h=>by
  simp only[bV]at h ⊢
  have hl:(if f k=true then os else jQ os).length=os.length:=by split <;>simp[pX]
  have hl':(if f' k=true then os else jQ os).length=os.length:=by split <;>simp[pX]
  by_cases hi:i<os.length
  ·rw[List.getElem?_append_left (by omega)]at h ⊢
   by_cases h1:f k=true
   ·rw[if_pos h1]at h
    rw[if_pos (hf k h1)]
    exact Or.inr h
   ·rw[if_neg h1]at h
    exact Or.inl (EC _ _ _ h)
  ·rw[List.getElem?_append_right (by omega),hl]at h
   rw[List.getElem?_append_right (by omega),hl']
   exact Vu hf r _ Y h
theorem Ee{f f':Nat→Bool}:∀ (objs:List (Nat×List Ob)),(∀ k∈objs.map (·.1),f k=f' k)→bV f objs=bV f' objs
 | [],_=>rfl
 | (k,os)::r,h=>by
  simp only[bV]
  rw[h k (by simp),Ee r fun k hk=>h k (by simp at hk ⊢;exact Or.inr hk)]
theorem Vl{g:Gh}{n:Nat}{I:Nat→Prop}{w:World}:∀ (v:PV) (u:Value),aj g n I w v u→∀ i∈bI v,i<n:=by
 intro v
 refine PV.rec (motive_1:=fun v=>∀ u,aj g n I w v u→∀ i∈bI v,i<n) (motive_2:=fun vs=>∀ us,ay g n I w vs us→∀ i∈aW vs,i<n) ?_ ?_ ?_ ?_ ?_ ?_ ?_ ?_ ?_ ?_ ?_ ?_ ?_ ?_ ?_ ?_ ?_ ?_ ?_ ?_ v
 all_goals first
  | (intro o u h i hi;simp[bI]at hi;subst hi;simp only[aj]at h;exact h.1)
  | (intro o a b c u h i hi;simp[bI]at hi;subst hi;simp only[aj]at h;exact h.1)
  | (intro vs ih u h i hi;simp only[aj]at h;obtain⟨us,_,h⟩:=h;exact ih us h i (by simpa [bI]using hi))
  | (intro f vs ih u h i hi;simp only[aj]at h;obtain⟨us,_,h⟩:=h;exact ih us h i (by simpa [bI]using hi))
  | (intro v vs ih1 ih2 us h i hi;simp only[ay]at h;obtain⟨u,t,_,h1,h2⟩:=h;simp only[aW,List.mem_append]at hi;rcases hi with hi |hi;exact ih1 u h1 i hi;exact ih2 t h2 i hi)
  | (intros;rename_i hi;simp[bI,aW]at hi;done)
theorem UE{g:Gh}{n:Nat}{I:Nat→Prop}{w:World}:∀ (vs:List PV) (us:List Value),ay g n I w vs us→∀ i∈aW vs,i<n
 | [],us,h,i,hi=>by simp[aW]at hi
 |v::r,us,h,i,hi=>by
  simp only[ay]at h
  obtain⟨u,t,_,h1,h2⟩:=h
  simp only[aW,List.mem_append]at hi
  rcases hi with hi |hi
  ·exact Vl v u h1 i hi
  ·exact UE r t h2 i hi
theorem aK.part{X:Cx Dr}{g:Gh}{ob ob':List Ob}{w:World}(s:aK X g ob w)(hl:ob'.length≤ob.length)(hn:X.n0≤ob'.length)(h:∀ (o:Nat) (Y:Ob),ob'[o]? =some Y→Y= .dead∨ob[o]? =some Y)(hid:∀ (o:Nat) (cells:List PV),ob'[o]? =some (.box cells)→∀ i∈aW cells,i<ob'.length):aK X g ob' w:=by
 have hb:∀ o,aJ g ob' o→aJ g ob o:=fun o hh=>by
  rcases hh with ⟨cells,hh⟩ | ⟨e,xs,hh,hn⟩
  ·rcases h o _ hh with h1 |h1
   ·cases h1
   ·exact Or.inl ⟨_,h1⟩
  ·rcases h o _ hh with h1 |h1
   ·cases h1
   ·exact Or.inr ⟨_,_,h1,hn⟩
 refine⟨fun o cells hh=> ?_,fun o e xs hh=> ?_,fun o o' k k' e=>s.inj o o' (hb o k) (hb o' k') e,fun o k=>s.base o (hb o k),s.bnd,s.jI,s.upd,s.bsz,hn,s.kept,s.keptJ⟩
 ·rcases h o _ hh with h1 |h1
  ·cases h1
  ·obtain⟨us,t,k1,k2,k3⟩:=s.box o cells h1
   exact⟨us,t,k1,ay.agree rfl s.jI (fun _ _=>rfl) cells us (fun i hi _=>⟨hid o cells hh i hi,Agree.refl _ _⟩) k2,k3⟩
 ·rcases h o _ hh with h1 |h1
  ·cases h1
  ·exact s.arr o e xs h1
def Gh.mix(g g':Gh)(a b:Nat):Gh:=
 ⟨fun o=>if a≤o∧o<b then g'.A o else g.A o,fun o=>if a≤o∧o<b then g'.H o else g.H o,fun o=>if a≤o∧o<b then g'.L o else g.L o,fun o=>if a≤o∧o<b then g'.S o else g.S o,
  fun o=>if a≤o∧o<b then g'.pre o else g.pre o,fun o=>if a≤o∧o<b then g'.post o else g.post o,g.J⟩
theorem qL{g g':Gh}{a b o:Nat}(h:¬ (a≤o∧o<b)):Agree g (g.mix g' a b) o:=⟨if_neg h,if_neg h,if_neg h,if_neg h,if_neg h,if_neg h⟩
theorem adT{g g':Gh}{a b o:Nat}(h:a≤o∧o<b):Agree g' (g.mix g' a b) o:=⟨if_pos h,if_pos h,if_pos h,if_pos h,if_pos h,if_pos h⟩
end Go.Rv
set_option linter.unusedVariables false
set_option linter.unusedSimpArgs false
namespace Go.Rv
open Go.RowKit
variable {Dr:Kn}
variable {R:Type} {P:Program} {tbl:dX} {env:Env} {ob:List Ob} {o:Oper} {K:PV→List Ob→Option R} {r:R}
theorem LK{vals vals':List (Nat×PV)}{u:Nat→Nat→PV}{f:Nat→Bool}(h:∀ j,f j=true→valOf vals j=valOf vals' j):∀ (ops:List Oper) (i:Nat),iU vals u f ops i=iU vals' u f ops i
 | [],_=>rfl
 |o::r,i=>by
  simp only[iU]
  cases o.dst with
  |none=>exact LK h r (i+1)
  |some d=>
   simp only
   rw[LK h r (i+1)]
   by_cases hf:f i=true
   ·rw[if_pos hf,if_pos hf,h i hf]
   ·rw[if_neg hf,if_neg hf]
def nT(tab:List Nat)(n:Nat)(objs:List (Nat×List Ob))(k i:Nat):Prop:=i<n∨∃ d,iD objs (i - n)=some d∧((tab.getD k 0).testBit d=true∨d=k)
structure POp (Dr:Kn) (P:Program) (N:Nat) (ops:List Oper) (tab:List Nat) (env0:Env) (ob0:List Ob) (vals:List (Nat×PV)) (objs:List (Nat×List Ob)) (k:Nat) (o:Oper):Prop where
 dst:vO N o.dst=true
 idv:∀ i∈bI (valOf vals k),nT tab ob0.length objs k i
 ex:∃ A os B,objs=A++(k,os)::B∧(∀ cells,Ob.box cells∈os→∀ i∈aW cells,nT tab ob0.length objs k i)∧
  ((∃ g want s,o.guard=some (g,want)∧(tab.getD k 0).testBit g=true∧(ops[g]?).bind (·.dst)=some s∧(valOf vals g= .skip∨∃ b,valOf vals g= .bool b∧b≠want)∧valOf vals k= .skip∧os=[])∨
  ((o.guard=none∨∃ g want s,o.guard=some (g,want)∧(tab.getD k 0).testBit g=true∧(ops[g]?).bind (·.dst)=some s∧valOf vals g= .bool want)∧
   WV Dr P (ob0++bV (fun j=>(tab.getD k 0).testBit j) A) (iU vals (iw tab env0 k) (fun j=>(tab.getD k 0).testBit j) ops 0++env0) o false (valOf vals k) (ob0++bV (fun j=>(tab.getD k 0).testBit j) A++os)))
theorem AZ{vals:List (Nat×PV)}{u:Nat→Nat→PV}{f:Nat→Bool}{env0:Env}{s:Nat}:∀ (ops:List Oper) (i j:Nat) (o:Oper),jP (jM ops)=true→ops[j]? =some o→o.dst=some s→look (iU vals u f ops i++env0) s=if f (i+j)=true then valOf vals (i+j)else u (i+j) s
 | [],i,j,o,_,h,_=>by simp at h
 |o1::ops,i,0,o,hn,h,hd=>by
  simp only[List.getElem?_cons_zero,Option.some.injEq]at h
  subst h
  simp only[iU,hd,List.cons_append,look,if_true,Nat.add_zero]
 |o1::ops,i,j+1,o,hn,h,hd=>by
  simp only[List.getElem?_cons_succ]at h
  have hmem:s∈jM ops:=by
   have:∀ (l:List Oper) (j:Nat),l[j]? =some o→s∈jM l:=by
    intro l
    induction l with
    |nil=>intro j h;simp at h
    |cons x l ih=>
     intro j h
     cases j with
     |zero=>
      simp only[List.getElem?_cons_zero,Option.some.injEq]at h
      subst h
      simp[jM,hd]
     |succ j=>
      have:=ih j (by simpa using h)
      simp only[jM]
      cases x.dst with
      |none=>exact this
      |some d=>exact List.mem_cons_of_mem _ this
   exact this ops j h
  simp only[iU]
  simp only[jM]at hn
  cases hd1:o1.dst with
  |none=>
   rw[hd1]at hn
   simp only
   rw[AZ ops (i+1) j o hn h hd]
   rw[show i+1+j=i+(j+1) by omega]
  |some d=>
   rw[hd1]at hn
   simp only[jP,Bool.and_eq_true,Bool.not_eq_true',List.contains_eq_mem,decide_eq_false_iff_not]at hn
   simp only[List.cons_append,look]
   rw[if_neg (fun e=>hn.1 (by rw[e];exact hmem)),AZ ops (i+1) j o hn.2 h hd]
   rw[show i+1+j=i+(j+1) by omega]
theorem MN{vals:List (Nat×PV)}{u:Nat→Nat→PV}{f:Nat→Bool}{env0:Env}{s:Nat}:∀ (ops:List Oper) (i:Nat),(∀ (j:Nat) (o:Oper),ops[j]? =some o→o.dst≠some s)→look (iU vals u f ops i++env0) s=look env0 s
 | [],i,_=>rfl
 |o1::ops,i,h=>by
  have ih:=MN (vals:=vals) (u:=u) (f:=f) (env0:=env0) ops (i+1) fun j o ho=>h (j+1) o (by simpa using ho)
  have h0:=h 0 o1 rfl
  simp only[iU]
  cases hd1:o1.dst with
  |none=>exact ih
  |some d=>
   rw[hd1]at h0
   simp only[List.cons_append,look]
   rw[if_neg (fun e=>h0 (by rw[e]))]
   exact ih
theorem Oi{s:Nat}:∀ (ops:List Oper) (i j:Nat) (oi oj:Oper),jP (jM ops)=true→ops[i]? =some oi→ops[j]? =some oj→oi.dst=some s→oj.dst=some s→i=j
 | [],i,j,oi,oj,_,h,_,_,_=>by simp at h
 |o::ops,0,0,oi,oj,_,_,_,_,_=>rfl
 |o::ops,i+1,j+1,oi,oj,hn,hi,hj,h1,h2=>by
  have hn':jP (jM ops)=true:=by
   simp only[jM]at hn
   cases hd:o.dst with
   |none=>rw[hd]at hn;exact hn
   |some d=>rw[hd]at hn;simp only[jP,Bool.and_eq_true]at hn;exact hn.2
  rw[Oi ops i j oi oj hn' (by simpa using hi) (by simpa using hj) h1 h2]
 |o::ops,0,j+1,oi,oj,hn,hi,hj,h1,h2=>by
  exfalso
  simp only[List.getElem?_cons_zero,Option.some.injEq]at hi
  subst hi
  have hm:=AZ (u:=fun _ _=> .undef) (vals:=[(0,PV.undef)]) (f:=fun _=>true) (env0:=[]) (s:=s)
  simp only[jM,h1,jP,Bool.and_eq_true,Bool.not_eq_true',List.contains_eq_mem,decide_eq_false_iff_not]at hn
  have:∀ (l:List Oper) (j:Nat),l[j]? =some oj→s∈jM l:=by
   intro l
   induction l with
   |nil=>intro j h;simp at h
   |cons x l ih=>
    intro j h
    cases j with
    |zero=>
     simp only[List.getElem?_cons_zero,Option.some.injEq]at h
     subst h
     simp[jM,h2]
    |succ j=>
     have:=ih j (by simpa using h)
     simp only[jM]
     cases x.dst with
     |none=>exact this
     |some d=>exact List.mem_cons_of_mem _ this
  exact hn.1 (this ops j (by simpa using hj))
 |o::ops,i+1,0,oi,oj,hn,hi,hj,h1,h2=>(Oi (o::ops) 0 (i+1) oj oi hn hj hi h2 h1).symm
theorem Xb{k:Nat}:∀ (A:List (Nat×List Ob)) (os:List Ob) (B:List (Nat×List Ob)) (i d:Nat),(∀ q∈B,k<q.1)→iD (A++(k,os)::B) i=some d→d<k→i<total A
 | [],os,B,i,d,hB,h,hd=>by
  simp only[List.nil_append,iD]at h
  split at h
  ·have:=Option.some.inj h;omega
  ·have:=NR _ _ _ h
   obtain⟨q,hq,e⟩:=List.mem_map.1 this
   have:=hB q hq
   omega
 | (k',os')::A,os,B,i,d,hB,h,hd=>by
  simp only[List.cons_append,iD]at h
  simp only[total]
  split at h
  ·omega
  ·have:=Xb A os B _ d hB h hd
   omega
end Go.Rv
set_option linter.unusedVariables false
set_option linter.unusedSimpArgs false
namespace Go.Rv
open Go.RowKit
variable {Dr:Kn}
variable {R:Type} {P:Program} {tbl:dX} {env:Env} {ob:List Ob} {o:Oper} {K:PV→List Ob→Option R} {r:R}
structure Inv (X:Cx Dr) (N:Nat) (ops:List Oper) (vals:List (Nat×PV)) (objs:List (Nat×List Ob)) (env0:Env) (ob0:List Ob) (E:Nat→Bool) (g:Gh) (a:Act) (w:World):Prop where
 sim:aK X g (ob0++bV E objs) w
 env:dG N g (ob0++bV E objs).length X.I w (iU vals (yP env0) E ops 0++env0) a
structure Base (ob0:List Ob) (env0:Env) (X:Cx Dr):Prop where
 n0:X.n0≤ob0.length
 ob:∀ (o:Nat) (cells:List PV),ob0[o]? =some (.box cells)→∀ i∈aW cells,i<ob0.length
 env:∀ s,∀ i∈bI (look env0 s),i<ob0.length
structure agn (Dr:Kn) (P:Program) (N:Nat) (ops:Array Oper) (tab:List Nat) (es:List (Nat×Oper)) (vals:List (Nat×PV)) (objs:List (Nat×List Ob)) (env0:Env) (ob0:List Ob):Prop where
 keys:objs.map (·.1)=es.map (·.1)
 sorted:es.Pairwise (fun p q=>p.1<q.1)
 bits:∀ k j,(tab.getD k 0).testBit j=true→j<k
 at_:∀ p∈es,ops[p.1]? =some p.2
 nodup:jP (jM ops.toList)=true
 all:∀ p∈es,POp Dr P N ops.toList tab env0 ob0 vals objs p.1 p.2
theorem acr{E:Nat→Bool}{k:Nat}{A B:List (Nat×List Ob)}{os:List Ob}(hA:k∉A.map (·.1))(hB:k∉B.map (·.1))(hE:E k=false):
  bV E (A++(k,os)::B)=bV E A++jQ os++bV E B∧bV (fun j=>E j||j==k) (A++(k,os)::B)=bV E A++os++bV E B:=by
 have h1:bV (fun j=>E j||j==k) A=bV E A:=Ee A fun j hj=>by
  have:j≠k:=fun e=>hA (e▸hj)
  simp[this]
 have h2:bV (fun j=>E j||j==k) B=bV E B:=Ee B fun j hj=>by
  have:j≠k:=fun e=>hB (e▸hj)
  simp[this]
 constructor
 ·rw[Eo];simp[bV,hE]
 ·rw[Eo,h1];simp[bV,h2]
end Go.Rv
