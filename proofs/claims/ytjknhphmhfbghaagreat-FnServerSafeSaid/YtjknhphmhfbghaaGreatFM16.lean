/- A function of the library by hand: RvHdo. -/
import Derived.Test.YtjknhphmhfbghaaGreatFM15
import Derived.KernelRfl
import Derived.Deep.RegionWith
import Derived.BigRegion
set_option linter.unusedVariables false
set_option linter.unusedSimpArgs false
set_option linter.unusedSectionVars false
namespace Go.Rv
open Go.Proofs Go.RowKit Go.Shelf Go.Lib
attribute [local go_sem] Oper.semAt_some
abbrev cellsS(s0 s1 s2 s3:Int)(h4 h5 h6:Value):List Value:=[.int .i64 s0,.int .i64 s1,.int .i64 s2,.int .i64 s3,h4,h5,h6]
def jm(w:World)(b:Nat)(pre post:List Value)(s:jo)(bs:List Nat):Prop:=
 ∃ h4 h5 h6 bs4 bs5 bs6 t,bs=bs4++(bs5++bs6)∧w.heap[b]? =some (.cells (pre++cellsS s.1 s.2.1 s.2.2.1 s.2.2.2.1 h4 h5 h6++post).toArray t (0,0))∧eH.dV w h4 s.2.2.2.2.1 bs4∧eH.dV w h5 s.2.2.2.2.2.1 bs5∧iI.dV w h6 s.2.2.2.2.2.2.1 bs6
theorem jm.keep{w w':World}{b:Nat}{pre post:List Value}{s:jo}{bs:List Nat}(h:jm w b pre post s bs)(hb:∀ q∈b::bs,w'.heap[q]? =w.heap[q]?):jm w' b pre post s bs:=by
 obtain⟨h4,h5,h6,bs4,bs5,bs6,t,rfl,h1,h2,h3,h7⟩:=h
 exact⟨h4,h5,h6,bs4,bs5,bs6,t,rfl,(hb b (by simp)).trans h1,eH.jE h2 fun q hq=>hb q (by simp[hq]),eH.jE h3 fun q hq=>hb q (by simp[hq]),iI.jE h7 fun q hq=>hb q (by simp[hq])⟩
theorem V3{w:World}{J:Nat→Prop}{b:Nat}{pre post:List Value}{s:jo}{bs:List Nat}(h:jm w b pre post s bs):∃ us t,w.heap[b]? =some (.cells (pre++us++post).toArray t (0,0))∧bT w J Cb s us bs:=by
 obtain⟨h4,h5,h6,bs4,bs5,bs6,t,rfl,h1,h2,h3,h7⟩:=h
 refine⟨_,t,h1,_,_,rfl,rfl,_,_,rfl,rfl,_,_,rfl,rfl,_,_,rfl,rfl,_,_,rfl, ?_⟩
 have e6:bT w J [CT.sl [CT.int .i64,CT.int .i64,CT.int .i64]] (s.2.2.2.2.2.2.1,()) [h6] bs6:=by
  rcases h7 with ⟨q1,q2,rfl⟩ | ⟨b6,rfl,q⟩
  ·exact⟨_,_,rfl,Or.inl ⟨q1,q2,rfl,rfl⟩⟩
  ·exact⟨_,_,rfl,Or.inr ⟨b6,[],rfl,q,rfl,rfl⟩⟩
 have e5:bT w J [CT.sl [CT.int .i64,CT.int .i64,CT.int .i64,CT.int .i64],CT.sl [CT.int .i64,CT.int .i64,CT.int .i64]] (s.2.2.2.2.2.1,s.2.2.2.2.2.2.1,()) [h5,h6] (bs5++bs6):=by
  rcases h3 with ⟨q1,q2,rfl⟩ | ⟨b5,rfl,q⟩
  ·exact⟨_,_,rfl,Or.inl ⟨q1,q2,e6⟩⟩
  ·exact⟨_,_,rfl,Or.inr ⟨b5,bs6,rfl,q,e6⟩⟩
 rcases h2 with ⟨q1,q2,rfl⟩ | ⟨b4,rfl,q⟩
 ·exact Or.inl ⟨q1,q2,e5⟩
 ·exact Or.inr ⟨b4,bs5++bs6,rfl,q,e5⟩
theorem Wl{w:World}{J:Nat→Prop}{b:Nat}{pre post us:List Value}{t:TypeId}{s:jo}{bs:List Nat}(h1:w.heap[b]? =some (.cells (pre++us++post).toArray t (0,0)))(h:bT w J Cb s us bs):jm w b pre post s bs:=by
 obtain⟨u0,t0,rfl,e0,u1,t1,rfl,e1,u2,t2,rfl,e2,u3,t3,rfl,e3,h4,t4,rfl,k4⟩:=h
 have e0:u0= .int .i64 s.1:=e0
 have e1:u1= .int .i64 s.2.1:=e1
 have e2:u2= .int .i64 s.2.2.1:=e2
 have e3:u3= .int .i64 s.2.2.2.1:=e3
 subst e0 e1 e2 e3
 have r6:∀ {t bs},bT w J [CT.sl [CT.int .i64,CT.int .i64,CT.int .i64]] (s.2.2.2.2.2.2.1,()) t bs→∃ h6,t=[h6]∧iI.dV w h6 s.2.2.2.2.2.2.1 bs:=fun k=>by
  obtain⟨h6,t6,rfl,k⟩:=k
  rcases k with ⟨q1,q2,rfl,rfl⟩ | ⟨b6,bt,rfl,q,rfl,rfl⟩
  ·exact⟨h6,rfl,Or.inl ⟨q1,q2,rfl⟩⟩
  ·exact⟨h6,rfl,Or.inr ⟨b6,rfl,q⟩⟩
 have r5:∀ {t bs},bT w J [CT.sl [CT.int .i64,CT.int .i64,CT.int .i64,CT.int .i64],CT.sl [CT.int .i64,CT.int .i64,CT.int .i64]] (s.2.2.2.2.2.1,s.2.2.2.2.2.2.1,()) t bs→∃ h5 h6 bs5 bs6,t=[h5,h6]∧bs=bs5++bs6∧eH.dV w h5 s.2.2.2.2.2.1 bs5∧iI.dV w h6 s.2.2.2.2.2.2.1 bs6:=fun k=>by
  obtain⟨h5,t5,rfl,k⟩:=k
  rcases k with ⟨q1,q2,k⟩ | ⟨b5,bt,rfl,q,k⟩
  ·obtain⟨h6,rfl,kk⟩:=r6 k
   exact⟨h5,h6,[],_,rfl,rfl,Or.inl ⟨q1,q2,rfl⟩,kk⟩
  ·obtain⟨h6,rfl,kk⟩:=r6 k
   exact⟨h5,h6,[b5],_,rfl,rfl,Or.inr ⟨b5,rfl,q⟩,kk⟩
 rcases k4 with ⟨q1,q2,k⟩ | ⟨b4,bt,rfl,q,k⟩
 ·obtain⟨h5,h6,bs5,bs6,rfl,rfl,k5,k6⟩:=r5 k
  exact⟨h4,h5,h6,[],bs5,bs6,t,rfl,h1,Or.inl ⟨q1,q2,rfl⟩,k5,k6⟩
 ·obtain⟨h5,h6,bs5,bs6,rfl,rfl,k5,k6⟩:=r5 k
  exact⟨h4,h5,h6,[b4],bs5,bs6,t,rfl,h1,Or.inr ⟨b4,rfl,q⟩,k5,k6⟩
def lq(w w':World)(e:Ending)(b:Nat)(bs:List Nat)(pre post:List Value)(y:Int×Int×Int×jo):Prop:=
 e= .returned (.agg #[.int .i64 y.1,.int .i64 y.2.1,.int .i64 y.2.2.1])∧aO KN w.heap.size (b::bs) w w'∧∃ bs',jm w' b pre post y.2.2.2 bs'∧(b::bs').Nodup∧∀ q∈bs',q∈bs∨w.heap.size≤q
theorem adQ{bs':List Nat}{us vs:List Value}{y:Int×Int×Int×jo}{w':World}{J:Nat→Prop}{bs:List Nat}{w:World}{e:Ending}(ha:Bq false w w' bs vs e)(ho:bT w' J [CT.int .i64,CT.int .i64,CT.int .i64] (y.1,y.2.1,y.2.2.1,()) us bs')(hg:qg [(true,[CT.int .i64,CT.int .i64,CT.int .i64])] us vs):e= .returned (.agg #[.int .i64 y.1,.int .i64 y.2.1,.int .i64 y.2.2.1])∧bs'=[]:=by
 obtain⟨u0,t0,rfl,e0,u1,t1,rfl,e1,u2,t2,rfl,e2,rfl,rfl⟩:=ho
 have e0:u0= .int .i64 y.1:=e0
 have e1:u1= .int .i64 y.2.1:=e1
 have e2:u2= .int .i64 y.2.2.1:=e2
 subst e0 e1 e2
 obtain⟨a,b,v,rest,hab,hl,rfl,hg,hb,rfl⟩:=hg
 subst hb
 rw[List.append_nil]at hab
 subst hab
 have hv:v= .agg _:=hg
 subst hv
 exact⟨ha,rfl⟩
theorem acD{w:World}{b:Nat}{pre post:List Value}{bs:List Nat}(s0 s1 s2 s3:Int)(gs ms:List fV)(ls:List cZ)(k id g a c:Int)(y:Int×Int×Int×jo)(hs:jm w b pre post (s0,s1,s2,s3,gs,ms,ls,()) bs)(hn:(b::bs).Nodup)(hl:∀ q∈b::bs,q<w.heap.size)
  (hF:qy (s0,s1,s2,s3,gs,ms,ls,k,id,g,a,c,())=some y):
  Calls Tryz.prog 75 #[.pointer (some ⟨b,pre.length,none⟩),.agg #[.int .i64 k,.int .i64 id,.int .i64 g,.int .i64 a,.int .i64 c]] w fun e w'=>lq w w' e b bs pre post y:=by
 obtain⟨us,t,h1,h2⟩:=V3 (J:=fun _=>False) hs
 refine(ZB.2 w (b::bs) (fun _=>False) (s0,s1,s2,s3,gs,ms,ls,k,id,g,a,c,()) y [.pointer (some ⟨b,pre.length,none⟩),.agg #[.int .i64 k,.int .i64 id,.int .i64 g,.int .i64 a,.int .i64 c]] _ (fun _ h=>h.elim) hn trivial ?_ hF rfl).mono ?_
 ·exact⟨_,_,b::bs,[],rfl,by simp,⟨b,pre,us,post,t,bs,rfl,rfl,h1,h2⟩,_,_,[],[],rfl,rfl,⟨_,⟨_,_,rfl,rfl,_,_,rfl,rfl,_,_,rfl,rfl,_,_,rfl,rfl,_,_,rfl,rfl,rfl⟩,rfl,rfl⟩,rfl,rfl⟩
 ·rintro e w' ⟨hu,us',vs,c1,c2,ha,ho,hg,hio,hnd,hin⟩
  obtain⟨rfl,rfl⟩:=adQ (y:=y) (w:=w) ha ho hg
  obtain⟨v1,t1,d1,d2,e1,rfl,⟨b',pre',us0,us1,post',tt,tt',bt,rfl,e2,e3,e4,e5,e6⟩,v2,t2,d3,d4,e7,rfl,rfl,e8,rfl⟩:=hio
  have hul:=rV Cb _ _ _ h2
  obtain⟨q1,q2⟩:=List.cons.inj e1
  rw[←q1]at e2
  simp only[Value.pointer.injEq,Option.some.injEq,Addr.mk.injEq]at e2
  obtain⟨rfl,hpl,_⟩:=e2
  have e3':=e3.symm.trans h1
  simp only[Option.some.injEq,Obj.cells.injEq,and_true,Array.mk.injEq]at e3'
  have e9:=List.append_inj (by simpa [List.append_assoc]using e3'.1:pre'++(us0++post')=pre++(us++post)) hpl.symm
  obtain⟨rfl,e10⟩:=e9
  obtain⟨rfl,rfl⟩:=List.append_inj e10 (by rw[e4,hul])
  refine⟨rfl,hu,bt,Wl e5 e6, ?_, ?_⟩
  ·simpa using hnd
  ·intro q hq
   have hq':q∈b::bs∨w.heap.size≤q:=hin q (by simp[hq])
   rcases hq' with hq' |hq'
   ·rcases List.mem_cons.1 hq' with rfl |hq'
    ·have hnd':(q::bt).Nodup:=by simpa using hnd
     exact absurd hq (List.nodup_cons.1 hnd').1
    ·exact Or.inl hq'
   ·exact Or.inr hq'
theorem uT{D:Kn}{B:Nat}{T:List Nat}(w:World)(a:Addr)(v:Value)(h:B≤a.block∨a.block∈T):aO D B T w (w.setCell a v):=
 ⟨rfl,rfl,rfl,by simp[World.setCell],fun k hk hn=>Go.RowKit.Below.heap_setCell w a v k (by rintro rfl;rcases h with h |h;omega;exact hn h),fun _=>Nat.le_refl _⟩
theorem aeP{w W w2:World}{b r:Nat}{bs bs':List Nat}{pre post:List Value}{s':jo}(v0 v1 v2:Value)(hw:aO KN w.heap.size (b::bs) w W)(hW:r<W.heap.size)(hr:w.heap.size≤r)(hl:∀ q∈b::bs,q<w.heap.size)(hu:aO KN W.heap.size (b::bs) W w2)
  (hs:jm w2 b pre post s' bs') (hn:(b::bs').Nodup) (hin:∀ q∈bs',q∈bs∨W.heap.size≤q):
  aO KN w.heap.size (b::bs) w (((w2.setCell ⟨r,0,none⟩ v0).setCell ⟨r,1,none⟩ v1).setCell ⟨r,2,none⟩ v2)∧∃ bs',jm (((w2.setCell ⟨r,0,none⟩ v0).setCell ⟨r,1,none⟩ v1).setCell ⟨r,2,none⟩ v2) b pre post s' bs'∧(b::bs').Nodup∧∀ q∈bs',q∈bs∨w.heap.size≤q:=by
 have hsz:=hw.size
 have t1:aO KN w.heap.size (b::bs) w2 (((w2.setCell ⟨r,0,none⟩ v0).setCell ⟨r,1,none⟩ v1).setCell ⟨r,2,none⟩ v2):=((uT _ _ _ (Or.inl hr)).trans (uT _ _ _ (Or.inl hr))).trans (uT _ _ _ (Or.inl hr))
 refine⟨(hw.trans (hu.mono' hsz)).trans t1,bs',hs.keep fun q hq=> ?_,hn,fun q hq=>(hin q hq).imp id fun h=>by omega⟩
 have hne:q≠r:=by
  rcases List.mem_cons.1 hq with rfl |hq
  ·have:=hl q (by simp);omega
  ·rcases hin q hq with h |h
   ·have:=hl q (by simp[h]);omega
   ·omega
 rw[Go.RowKit.Below.heap_setCell _ _ _ q hne,Go.RowKit.Below.heap_setCell _ _ _ q hne,Go.RowKit.Below.heap_setCell _ _ _ q hne]
abbrev bf(w:World)(b o:Nat)(k id g a c:Int):World:=((w.alloc (.cells #[.pointer (some ⟨b,o,none⟩)] 107)).alloc (.cells #[.int .i64 k,.int .i64 id,.int .i64 g,.int .i64 a,.int .i64 c] 31)).alloc (.cells #[.int .i64 0,.int .i64 0,.int .i64 0] 56)
theorem oz(w:World)(b o:Nat)(k id g a c:Int):(bf w b o k id g a c).heap.size=w.heap.size+3:=by
 show(((w.heap.push _).push _).push _).size=_
 simp
theorem ae3(h:Array Obj)(x y z:Obj):((h.push x).push y).push z=h++ #[x,y,z]:=by
 apply Array.ext'
 simp
theorem UR(w:World)(b o:Nat)(k id g a c:Int):(bf w b o k id g a c).heap=w.heap++ #[.cells #[.pointer (some ⟨b,o,none⟩)] 107,.cells #[.int .i64 k,.int .i64 id,.int .i64 g,.int .i64 a,.int .i64 c] 31,.cells #[.int .i64 0,.int .i64 0,.int .i64 0] 56]:=ae3 _ _ _ _
theorem pY(w:World)(b o:Nat)(k id g a c:Int)(q:Nat)(hq:q<w.heap.size):(bf w b o k id g a c).heap[q]? =w.heap[q]? :=by
 rw[UR,Array.getElem?_append_left hq]
theorem Oj(w:World)(b o:Nat)(k id g a c:Int)(j:Nat):(bf w b o k id g a c).heap[w.heap.size+j]? =(#[.cells #[.pointer (some ⟨b,o,none⟩)] 107,.cells #[.int .i64 k,.int .i64 id,.int .i64 g,.int .i64 a,.int .i64 c] 31,.cells #[.int .i64 0,.int .i64 0,.int .i64 0] 56]:Array Obj)[j]? :=by
 rw[UR,Array.getElem?_append_right (Nat.le_add_right _ _),Nat.add_sub_cancel_left]
theorem sO(w:World)(b o:Nat)(k id g a c:Int):(bf w b o k id g a c).heap[w.heap.size]? =some (.cells #[.pointer (some ⟨b,o,none⟩)] 107 (0,0)):=Oj w b o k id g a c 0
theorem XA(w:World)(b o:Nat)(k id g a c:Int):(bf w b o k id g a c).heap[w.heap.size+1]? =some (.cells #[.int .i64 k,.int .i64 id,.int .i64 g,.int .i64 a,.int .i64 c] 31 (0,0)):=Oj w b o k id g a c 1
theorem yx(w:World)(b o:Nat)(k id g a c:Int):(bf w b o k id g a c).heap[w.heap.size+2]? =some (.cells #[.int .i64 0,.int .i64 0,.int .i64 0] 56 (0,0)):=Oj w b o k id g a c 2
theorem adv(w:World)(b o:Nat)(k id g a c:Int)(T:List Nat):aO KN w.heap.size T w (bf w b o k id g a c):=
 ⟨rfl,rfl,rfl,by rw[oz];omega,fun q hq _=>pY w b o k id g a c q hq,fun h=>h.elim⟩
theorem Aw{W w2:World}{r:Nat}{T:List Nat}{x y z:Value}{t:TypeId}(hW:W.heap[r]? =some (.cells #[x,y,z] t (0,0)))(hT:r∉T)(hu:aO KN W.heap.size T W w2):
  w2.cell? ⟨r,0,none⟩=some x∧w2.cell? ⟨r,1,none⟩=some y∧w2.cell? ⟨r,2,none⟩=some z∧w2.frozen? ⟨r,0,none⟩=false∧w2.frozen? ⟨r,1,none⟩=false∧w2.frozen? ⟨r,2,none⟩=false:=by
 have h:w2.heap[r]? =some (.cells #[x,y,z] t (0,0)):=(hu.block r (Array.getElem?_eq_some_iff.1 hW).1 hT).trans hW
 unfold World.cell? World.frozen?
 rw[h]
 refine⟨rfl,rfl,rfl, ?_, ?_, ?_⟩ <;>simp
def mP(W w2:World)(b:Nat)(bs:List Nat)(pre post:List Value)(s:jo):Prop:=aO KN W.heap.size (b::bs) W w2∧∃ bs',jm w2 b pre post s bs'∧(b::bs').Nodup∧∀ q∈bs',q∈bs∨W.heap.size≤q
abbrev nU(w2:World)(r:Nat)(y0 y1 y2:Int):World:=((w2.setCell ⟨r,0,none⟩ (.int .i64 y0)).setCell ⟨r,1,none⟩ (.int .i64 y1)).setCell ⟨r,2,none⟩ (.int .i64 y2)
theorem aeh{w2:World}{r:Nat}{x y z:Value}{t:TypeId}(y0 y1 y2:Int)(h:w2.heap[r]? =some (.cells #[x,y,z] t (0,0))):(nU w2 r y0 y1 y2).heap[r]? =some (.cells #[.int .i64 y0,.int .i64 y1,.int .i64 y2] t (0,0)):=by
 have h0:w2.heap[r]? =some (.cells [x,y,z].toArray t (0,0)):=h
 have e1:=pO h0 0 (.int .i64 y0)
 have h1:(w2.setCell ⟨r,0,none⟩ (.int .i64 y0)).heap[r]? =some (.cells [Value.int .i64 y0,y,z].toArray t (0,0)):=by rw[e1];exact jD _ _ _ _ _ h0
 have e2:=pO h1 1 (.int .i64 y1)
 have h2:((w2.setCell ⟨r,0,none⟩ (.int .i64 y0)).setCell ⟨r,1,none⟩ (.int .i64 y1)).heap[r]? =some (.cells [Value.int .i64 y0,.int .i64 y1,z].toArray t (0,0)):=by rw[e2];exact jD _ _ _ _ _ h1
 have e3:=pO h2 2 (.int .i64 y2)
 unfold nU
 rw[e3]
 exact jD _ _ _ _ _ h2
theorem xN{w w2:World}{b:Nat}{bs:List Nat}{pre post:List Value}{k id g a c:Int}(y:Int×Int×Int×jo)(hl:∀ q∈b::bs,q<w.heap.size)(hm:mP (bf w b pre.length k id g a c) w2 b bs pre post y.2.2.2)(tmps:Array Value)(hp:tmps.getD 4 undef= .pointer (some ⟨w.heap.size+2,0,none⟩)):
  bodyPost Tryz.prog Tryz.f34 (fun e w'=>lq w w' e b bs pre post y) .ret { tmps:=tmps,defers:=[] } (nU w2 (w.heap.size+2) y.1 y.2.1 y.2.2.1):=by
 obtain⟨hu,bs',h2,h3,h4⟩:=hm
 have hg:w2.heap[w.heap.size+2]? =some (.cells #[.int .i64 0,.int .i64 0,.int .i64 0] 56 (0,0)):=(hu.block _ (by rw[oz];omega) (fun hm=>by have:=hl _ hm;omega)).trans (yx w b pre.length k id g a c)
 refine bodyPost_ret (results_cell_row rfl tmps _ (w.heap.size+2) _ _ (0,0) _ hp (aeh _ _ _ hg) Tryz.underlying56 rfl (by kernel_rfl)) rfl ?_
 exact⟨rfl,aeP _ _ _ (adv _ _ _ _ _ _ _ _ _) (by rw[oz];omega) (by omega) hl hu h2 h3 h4⟩
set_option maxHeartbeats 4000000 in
set_option maxRecDepth 100000 in
theorem do1{w:World}{b:Nat}{pre post:List Value}{bs:List Nat}(s0 s1 s2 s3:Int)(gs ms:List fV)(ls:List cZ)(id g a c:Int)(y:Int×Int×Int×jo)(hs:jm w b pre post (s0,s1,s2,s3,gs,ms,ls,()) bs)(hn:(b::bs).Nodup)(hl:∀ q∈b::bs,q<w.heap.size)
  (hF:qy (s0,s1,s2,s3,gs,ms,ls,1,id,g,a,c,())=some y):
  Calls Tryz.prog 34 #[.pointer (some ⟨b,pre.length,none⟩),.agg #[.int .i64 1,.int .i64 id,.int .i64 g,.int .i64 a,.int .i64 c]] w fun e w'=>lq w w' e b bs pre post y:=by
 have mixed:Tryz.prog.follows Departure.mixedOrders=true:=by kernel_rfl
 have hget:=acD (w:=bf w b pre.length 1 id g a c) s0 s1 s2 s3 gs ms ls 1 id g a c y (hs.keep fun q hq=>pY _ _ _ _ _ _ _ _ q (hl q hq)) hn (fun q hq=>by rw[oz];have:=hl q hq;omega) hF
 have HF:Aside (∀ w2,mP (bf w b pre.length 1 id g a c) w2 b bs pre post y.2.2.2→∀ tmps:Array Value,tmps.getD 4 undef= .pointer (some ⟨w.heap.size+2,0,none⟩)→bodyPost Tryz.prog Tryz.f34 (fun e w'=>lq w w' e b bs pre post y) .ret { tmps:=tmps,defers:=[] } (nU w2 (w.heap.size+2) y.1 y.2.1 y.2.2.1)):=fun w2 hm tmps hp=>xN y hl hm tmps hp
 have HA:Aside (∀ w2,aO KN (bf w b pre.length 1 id g a c).heap.size (b::bs) (bf w b pre.length 1 id g a c) w2→_):=fun w2 h=>Aw (yx w b pre.length 1 id g a c) (fun hm=>by have:=hl _ hm;omega) h
 clear hs hn hl hF
 go_enter Tryz.func34,Tryz.ntmps34
 go_wp2_with (go_at_call 75;refine hget.mono ?_;rintro e w2 ⟨rfl,hu,bs',h2,h3,h4⟩;obtain⟨k0,k1,k2,f0,f1,f2⟩:=HA.out w2 hu)
 exact HF.out w2 ⟨hu,bs',h2,h3,h4⟩ _ rfl
set_option maxHeartbeats 1000000 in
set_option maxRecDepth 100000 in
theorem afM(W:World)(x:cZ)(r:Nat)(k id g a c:Int)(hr:W.heap[r]? =some (.cells #[.int .i64 k,.int .i64 id,.int .i64 g,.int .i64 a,.int .i64 c] 31 (0,0))):
  Calls Tryz.prog 78 (#[.agg #[.int .i64 x.1,.int .i64 x.2.1,.int .i64 x.2.2.1]]++ #[.pointer (some ⟨r,0,none⟩)]) W fun e W'=>e= .returned (.bool (x.1==id))∧aO KN W.heap.size [] W W':=by
 have hlt:r<W.heap.size:=(Array.getElem?_eq_some_iff.1 hr).1
 have c1:W.cell? ⟨r,1,none⟩=some (.int .i64 id):=by
  unfold World.cell?
  rw[hr]
  rfl
 have hu:aO KN W.heap.size [] W (W.alloc (.cells #[.int .i64 x.1,.int .i64 x.2.1,.int .i64 x.2.2.1] 47)):=xC [] W _
 have HU:Aside _:=hu
 clear hr hu
 simp only[List.push_toArray,List.append_toArray,List.cons_append,List.nil_append]
 go_enter Tryz.func78,Tryz.ntmps78
 go_wp2
 all_goals (go_ret;exact⟨by simp_all,HU.out⟩)
set_option maxHeartbeats 1000000 in
set_option maxRecDepth 100000 in
theorem afL(W:World)(x:cZ)(r b o:Nat)(n:Int)(hr:W.heap[r]? =some (.cells #[.pointer (some ⟨b,o,none⟩)] 107 (0,0)))(hn:W.cell? ⟨b,o+2,none⟩=some (.int .i64 n))(hb:b<W.heap.size):
  Calls Tryz.prog 79 (#[.agg #[.int .i64 x.1,.int .i64 x.2.1,.int .i64 x.2.2.1]]++ #[.pointer (some ⟨r,0,none⟩)]) W fun e W'=>e= .returned (.bool (decide (x.2.2.1≤n)))∧aO KN W.heap.size [] W W':=by
 have mixed:Tryz.prog.follows Departure.mixedOrders=true:=by kernel_rfl
 have hlt:r<W.heap.size:=(Array.getElem?_eq_some_iff.1 hr).1
 have c1:W.cell? ⟨r,0,none⟩=some (.pointer (some ⟨b,o,none⟩)):=by
  unfold World.cell?
  rw[hr]
  rfl
 have hu:aO KN W.heap.size [] W (W.alloc (.cells #[.int .i64 x.1,.int .i64 x.2.1,.int .i64 x.2.2.1] 47)).drew:=(xC [] W _).trans (pV _ _ _)
 have HU:Aside _:=hu
 clear hr hu
 simp only[List.push_toArray,List.append_toArray,List.cons_append,List.nil_append]
 go_enter Tryz.func79,Tryz.ntmps79
 go_wp2
 go_region
 all_goals go_wp2
 all_goals (go_ret;exact⟨by simp_all,HU.out⟩)
theorem Wi{W:World}{h:Value}{xs:List fV}{bs:List Nat}{I:Nat→Prop}(hR:eH.dV W h xs bs)(hI:∀ q∈bs,I q):aZ I W (.sl eH.eE) xs h:=by
 obtain⟨a,c,rfl,hh⟩:=eH.MI hR
 rcases hR with ⟨rfl,⟨a',ha⟩,rfl⟩ | ⟨b,rfl,ho⟩
 ·exact⟨a,c,rfl,by cases ha;exact Nat.le_refl _,Or.inl rfl⟩
 ·obtain⟨_,cap,us,t,e1,e2,e3,e4,e5,e6⟩:=ho
  simp only[Value.slice.injEq]at e1
  obtain⟨rfl,_,rfl⟩:=e1
  refine⟨_,_,rfl,e2,Or.inr ⟨_,rfl,hI b (by simp),fun i x hx=> ?_⟩⟩
  have h1:=Ec (I':=I) _ _ _ rfl (e6 i x hx)
  rw[dU,Nat.zero_add]
  exact h1
theorem acp{W:World}(s3:Int)(h4 h5:Value)(gs ms:List fV)(bs4 bs5:List Nat)(id ix:Int)(is:Bool)(r4:eH.dV W h4 gs bs4)(r5:eH.dV W h5 ms bs5)(hl:∀ q∈bs4++bs5,q<W.heap.size)(hF:oZ (s3,gs,ms,id,())=some (ix,is,())):
  Calls Tryz.prog 76 #[.agg #[.int .i64 s3,h4,h5],.int .i64 id] W fun e w'=>e= .returned (.tuple #[.int .i64 ix,.bool is])∧aO KN W.heap.size [] W w':=by
 have hok:aF KN Tryz.prog 76 Qv:=CU
 refine(hok.2 W [] (fun _=>False) (s3,gs,ms,id,()) (ix,is,()) [.agg #[.int .i64 s3,h4,h5],.int .i64 id] _ (fun _ h=>h.elim) List.nodup_nil trivial ?_ hF rfl).mono ?_
 ·have q4:aZ (fun q=>q<W.heap.size∧¬ q∈([]:List Nat)) W (.sl eH.eE) gs h4:=Wi r4 fun q hq=>⟨hl q (List.mem_append.2 (Or.inl hq)),by simp⟩
  have q5:aZ (fun q=>q<W.heap.size∧¬ q∈([]:List Nat)) W (.sl eH.eE) ms h5:=Wi r5 fun q hq=>⟨hl q (List.mem_append.2 (Or.inr hq)),by simp⟩
  exact⟨_,_,[],[],rfl,rfl,⟨[.int .i64 s3,h4,h5],⟨_,_,rfl,rfl,h4,[h5],rfl,q4,h5,[],rfl,q5,rfl⟩,rfl,rfl⟩,_,_,[],[],rfl,rfl,⟨_,⟨_,_,rfl,rfl,rfl⟩,rfl,rfl⟩,rfl,rfl⟩
 ·rintro e w' ⟨hu,us,vs,c1,c2,ha,ho,hg,hio,hnd,hin⟩
  refine⟨?_,hu⟩
  obtain⟨u0,t0,rfl,e0,u1,t1,rfl,e1,rfl,rfl⟩:=ho
  have e0:u0= .int .i64 ix:=e0
  have e1:u1= .bool is:=e1
  subst e0 e1
  obtain⟨a,b,v,rest,hab,hl,rfl,hg,a2,b2,v2,rest2,hab2,hl2,rfl,hg2,hb2,rfl⟩:=hg
  subst hb2
  have ha':e= .returned (.tuple #[v,v2]):=ha
  have q1:a=[v]:=hg
  have q2:a2=[v2]:=hg2
  subst q1 q2
  simp only[List.cons_append,List.nil_append,List.append_nil]at hab hab2
  subst hab2
  obtain⟨rfl,h2⟩:=List.cons.inj hab
  obtain⟨rfl,_⟩:=List.cons.inj h2
  exact ha'
theorem lS(pre post us:List Value)(j:Nat)(v:Value)(hj:us[j]? =some v):(pre++us++post)[pre.length+j]? =some v:=by
 have:=(List.getElem?_eq_some_iff.1 hj).1
 rw[List.append_assoc,List.getElem?_append_right (by omega),Nat.add_sub_cancel_left,List.getElem?_append_left this,hj]
theorem xG(pre post us:List Value)(j:Nat)(v:Value)(hj:j<us.length):(pre++us++post).set (pre.length+j) v=pre++us.set j v++post:=by
 rw[List.append_assoc,List.set_append_right _ _ (by omega),Nat.add_sub_cancel_left,List.set_append_left _ _ hj,List.append_assoc]
theorem VK{W w2 w3:World}{b:Nat}{pre post:List Value}{s0 s1 s2 s3:Int}{gs ms:List fV}{ls:List cZ}{h4 h5 h6:Value}{bs4 bs5 bs6:List Nat}{t:TypeId}{p:cZ→Bool}(hu2:aO KN W.heap.size (b::(bs4++(bs5++bs6))) W w2)(hn:(b::(bs4++(bs5++bs6))).Nodup)(hl:∀ q∈b::(bs4++(bs5++bs6)),q<W.heap.size)
  (r4:eH.dV w2 h4 gs bs4) (hd:NJ w2 w3 b pre.length (pre++cellsS s0 s1 s2 s3 h4 h5 h6++post) t ls ms bs5 bs6 p):mP W w3 b (bs4++(bs5++bs6)) pre post (lF s0 s1 s2 s3 gs ms ls p):=by
 obtain⟨h5',h6',hu,hb,o5,o6,q5,q6⟩:=hd
 have hsz:=hu2.size
 obtain⟨n1,n2⟩:=List.nodup_cons.1 hn
 have n3:=List.nodup_append.1 n2
 refine⟨hu2.trans ((hu.mono' hsz).wide fun q hq=> ?_),bs4++(bs5++bs6),⟨h4,h5',h6',bs4,bs5,bs6,t,rfl, ?_,eH.jE r4 fun q hq=>hu.block q ?_ ?_,q5,q6⟩,hn,fun q hq=>Or.inl hq⟩
 ·rcases List.mem_cons.1 hq with rfl |hq
  ·simp
  ·exact List.mem_cons_of_mem _ (List.mem_append.2 (Or.inr hq))
 ·rw[hb,xG _ _ _ _ _ (by simp),xG _ _ _ _ _ (by simp)]
  rfl
 ·have:=hl q (by simp[hq]);omega
 ·intro hm
  rcases List.mem_cons.1 hm with rfl |hm
  ·exact n1 (List.mem_append.2 (Or.inl hq))
  ·exact n3.2.2 q hq q hm rfl
set_option maxHeartbeats 4000000 in
set_option maxRecDepth 100000 in
theorem do2{w:World}{b:Nat}{pre post:List Value}{bs:List Nat}(s0 s1 s2 s3:Int)(gs ms:List fV)(ls:List cZ)(id g a c ix:Int)(is:Bool)(hs:jm w b pre post (s0,s1,s2,s3,gs,ms,ls,()) bs)(hn:(b::bs).Nodup)(hl:∀ q∈b::bs,q<w.heap.size)
  (hF:oZ (s3,gs,ms,id,())=some (ix,is,())) (hok:is=true→kL ms ls):
  Calls Tryz.prog 34 #[.pointer (some ⟨b,pre.length,none⟩),.agg #[.int .i64 2,.int .i64 id,.int .i64 g,.int .i64 a,.int .i64 c]] w fun e w'=>
   lq w w' e b bs pre post (if is=true then(0,0,0,lF s0 s1 s2 s3 gs ms ls (fun l=>l.1==id))else(0,0,4,s0,s1,s2,s3,gs,ms,ls,())):=by
 have mixed:Tryz.prog.follows Departure.mixedOrders=true:=by kernel_rfl
 obtain⟨h4,h5,h6,bs4,bs5,bs6,t,rfl,hb,r4,r5,r6⟩:=hs
 obtain⟨W,hW⟩:∃ W,W=bf w b pre.length 2 id g a c:=⟨_,rfl⟩
 have hold:∀ q,q<w.heap.size→W.heap[q]? =w.heap[q]? :=fun q hq=>by rw[hW];exact pY _ _ _ _ _ _ _ _ q hq
 have hsz:W.heap.size=w.heap.size+3:=by rw[hW,oz]
 have hbW:W.heap[b]? =some (.cells (pre++cellsS s0 s1 s2 s3 h4 h5 h6++post).toArray t (0,0)):=(hold b (hl b (by simp))).trans hb
 have k3:W.cell? ⟨b,pre.length+3,none⟩=some (.int .i64 s3):=cell_of hbW (lS _ _ _ 3 _ rfl)
 have k4:W.cell? ⟨b,pre.length+3+1,none⟩=some h4:=cell_of hbW (lS _ _ _ 4 _ rfl)
 have k5:W.cell? ⟨b,pre.length+3+2,none⟩=some h5:=cell_of hbW (lS _ _ _ 5 _ rfl)
 have hmem:=acp (W:=W.drew) s3 h4 h5 gs ms bs4 bs5 id ix is (eH.jE r4 fun q hq=>hold q (hl q (by simp[hq]))) (eH.jE r5 fun q hq=>hold q (hl q (by simp[hq]))) (fun q hq=>by show q<W.heap.size;have:=hl q (by rcases List.mem_append.1 hq with h |h <;>simp[h]);omega) hF
 rw[hW]at k3 k4 k5 hmem
 have HF:Aside (∀ (y:Int×Int×Int×jo) (w2:World),mP (bf w b pre.length 2 id g a c) w2 b (bs4++(bs5++bs6)) pre post y.2.2.2→∀ tmps:Array Value,tmps.getD 4 undef= .pointer (some ⟨w.heap.size+2,0,none⟩)→bodyPost Tryz.prog Tryz.f34 (fun e w'=>lq w w' e b (bs4++(bs5++bs6)) pre post y) .ret { tmps:=tmps,defers:=[] } (nU w2 (w.heap.size+2) y.1 y.2.1 y.2.2.1)):=fun y w2 hm tmps hp=>xN y hl hm tmps hp
 go_enter Tryz.func34,Tryz.ntmps34
 have c0:(bf w b pre.length 2 id g a c).cell? ⟨w.heap.size,0,none⟩=some (.pointer (some ⟨b,pre.length,none⟩)):=cell_of (cs:=[_]) (sO w b pre.length 2 id g a c) rfl
 have c1:(bf w b pre.length 2 id g a c).cell? ⟨w.heap.size+1,1,none⟩=some (.int .i64 id):=cell_of (cs:=[_,_,_,_,_]) (XA w b pre.length 2 id g a c) rfl
 have hu0:∀ w2,aO KN (bf w b pre.length 2 id g a c).drew.heap.size [] (bf w b pre.length 2 id g a c).drew w2→aO KN (bf w b pre.length 2 id g a c).heap.size (b::(bs4++(bs5++bs6))) (bf w b pre.length 2 id g a c) w2:=fun w2 h=>(pV _ _ _).trans (h.wide (by simp))
 have hk:∀ w2,aO KN (bf w b pre.length 2 id g a c).drew.heap.size [] (bf w b pre.length 2 id g a c).drew w2→∀ q,q<w.heap.size+3→w2.heap[q]? =(bf w b pre.length 2 id g a c).heap[q]? :=fun w2 h q hq=>h.block q (by show q<(bf w b pre.length 2 id g a c).heap.size;rw[oz];exact hq) (by simp)
 have HA:Aside (∀ w2,aO KN (bf w b pre.length 2 id g a c).heap.size (b::(bs4++(bs5++bs6))) (bf w b pre.length 2 id g a c) w2→w2.cell? ⟨w.heap.size+2,0,none⟩=some (.int .i64 0)∧w2.cell? ⟨w.heap.size+2,1,none⟩=some (.int .i64 0)∧w2.cell? ⟨w.heap.size+2,2,none⟩=some (.int .i64 0)∧w2.frozen? ⟨w.heap.size+2,0,none⟩=false∧w2.frozen? ⟨w.heap.size+2,1,none⟩=false∧w2.frozen? ⟨w.heap.size+2,2,none⟩=false):=
  fun w2 h=>Aw (yx w b pre.length 2 id g a c) (fun hm=>by have:=hl _ hm;omega) h
 have hs:jm w b pre post (s0,s1,s2,s3,gs,ms,ls,()) (bs4++(bs5++bs6)):=⟨h4,h5,h6,bs4,bs5,bs6,t,rfl,hb,r4,r5,r6⟩
 have HM0:Aside (∀ w2,aO KN (bf w b pre.length 2 id g a c).drew.heap.size [] (bf w b pre.length 2 id g a c).drew w2→mP (bf w b pre.length 2 id g a c) w2 b (bs4++(bs5++bs6)) pre post (s0,s1,s2,s3,gs,ms,ls,())):=
  fun w2 h=>⟨hu0 w2 h,_,hs.keep fun q hq=>(hk w2 h q (by have:=hl q hq;omega)).trans (pY _ _ _ _ _ _ _ _ q (hl q hq)),hn,fun q hq=>Or.inl hq⟩
 have HM1:Aside (∀ w2,kL ms ls→aO KN (bf w b pre.length 2 id g a c).drew.heap.size [] (bf w b pre.length 2 id g a c).drew w2→w2.cell? ⟨w.heap.size,0,none⟩=some (.pointer (some ⟨b,pre.length,none⟩))∧
   Calls Tryz.prog 77 #[.pointer (some ⟨b,pre.length,none⟩),.func (.func 78) #[] #[.pointer (some ⟨w.heap.size+1,0,none⟩)]] w2 fun e w3=>e= .returned (.tuple #[])∧mP (bf w b pre.length 2 id g a c) w3 b (bs4++(bs5++bs6)) pre post (lF s0 s1 s2 s3 gs ms ls (fun l=>l.1==id))):=fun w2 hids h=>by
  obtain⟨q1,q2,q3⟩:=hids
  have hsz2:w.heap.size+3≤w2.heap.size:=by have:=h.size;rw[show(bf w b pre.length 2 id g a c).drew.heap.size=(bf w b pre.length 2 id g a c).heap.size from rfl,oz]at this;exact this
  have kk:∀ q,q<w.heap.size→w2.heap[q]? =w.heap[q]? :=fun q hq=>(hk w2 h q (by omega)).trans (pY _ _ _ _ _ _ _ _ q hq)
  have hb2:w2.heap[b]? =some (.cells (pre++cellsS s0 s1 s2 s3 h4 h5 h6++post).toArray t (0,0)):=(kk b (hl b (by simp))).trans hb
  have n2:=(List.nodup_cons.1 hn)
  have n3:=List.nodup_append.1 n2.2
  refine⟨cell_of (cs:=[_]) ((hk w2 h _ (by omega)).trans (sO w b pre.length 2 id g a c)) rfl, ?_⟩
  refine(Un (w:=w2) b pre.length _ t h5 h6 ls ms bs5 bs6 78 #[.pointer (some ⟨w.heap.size+1,0,none⟩)] (fun l=>l.1==id) (fun args w=>jV (by kernel_rfl) args w) hb2 (lS _ _ _ 5 _ rfl) (lS _ _ _ 6 _ rfl) (eH.jE r5 fun q hq=>kk q (hl q (by simp[hq]))) (iI.jE r6 fun q hq=>kk q (hl q (by simp[hq])))
   (List.nodup_cons.2 ⟨fun hm=>n2.1 (List.mem_append.2 (Or.inr hm)),n3.2.1⟩) (fun q hq=>by have:=hl q (List.mem_cons_of_mem _ (List.mem_append.2 (Or.inr hq)));omega) q1 q2 q3 ?_).mono ?_
  ·intro W3 x hu hx
   exact afM W3 x (w.heap.size+1) 2 id g a c ((hu.block _ (by omega) (fun hm=>by have:=hl (w.heap.size+1) (by simp[hm]);omega)).trans ((hk w2 h _ (by omega)).trans (XA w b pre.length 2 id g a c)))
  ·rintro e w3 ⟨rfl,hd⟩
   exact⟨rfl,VK (hu0 w2 h) hn (fun q hq=>by rw[oz];have:=hl q hq;omega) (eH.jE r4 fun q hq=>kk q (hl q (by simp[hq]))) hd⟩
 have HO:Aside (is=true→kL ms ls):=hok
 clear hs hk hu0 hok hb hbW r4 r5 r6 hold hsz hW hF hl hn
 cases is with
 |false=>
  go_wp2_with fail
  go_region_with (go_at_call 76;refine hmem.mono ?_;rintro e w2 ⟨rfl,hb2⟩;obtain⟨k0,k1,k2,f0,f1,f2⟩:=HA.out w2 (HM0.out w2 hb2).1)
  all_goals
   go_wp2_with fail
   exact HF.out (0,0,4,s0,s1,s2,s3,gs,ms,ls,()) w2 (HM0.out w2 hb2) _ rfl
 |true=>
  go_wp2_with fail
  go_region_with (go_at_call 76;refine hmem.mono ?_;rintro e w2 ⟨rfl,hb2⟩;obtain⟨cc0,hdrop⟩:=HM1.out w2 (HO.out (by simp)) hb2)
  all_goals
   go_wp2_with (go_at_call 77;refine hdrop.mono ?_;rintro e w3 ⟨rfl,hm3⟩;obtain⟨k0,k1,k2,f0,f1,f2⟩:=HA.out w3 hm3.1)
   exact HF.out (0,0,0,lF s0 s1 s2 s3 gs ms ls (fun l=>l.1==id)) w3 hm3 _ rfl
theorem acI{W:World}{b:Nat}{pre post:List Value}{s0 s1 s2 s3:Int}{h4 h5 h6:Value}{t:TypeId}(hb:W.heap[b]? =some (.cells (pre++cellsS s0 s1 s2 s3 h4 h5 h6++post).toArray t (0,0)))(n:Int):
  (W.setCell ⟨b,pre.length+2,none⟩ (.int .i64 n)).heap[b]? =some (.cells (pre++cellsS s0 s1 n s3 h4 h5 h6++post).toArray t (0,0)):=by
 rw[pO hb,jD W b _ _ t hb,xG _ _ _ _ _ (by simp)]
 rfl
theorem MX(X:World)(cs:List Value)(t:TypeId)(j:Nat)(v:Value):(X.alloc (.cells cs.toArray t)).setCell ⟨X.heap.size,j,none⟩ v=X.alloc (.cells (cs.set j v).toArray t):=by
 have hg:(X.alloc (.cells cs.toArray t)).heap[X.heap.size]? =some (.cells cs.toArray t (0,0)):=by
  show(X.heap.push _)[X.heap.size]? =_
  simp
 rw[pO hg,World.setRow_alloc_new]
theorem aei(w:World)(b o:Nat)(k id g a c y0 y1 y2:Int):nU (bf w b o k id g a c) (w.heap.size+2) y0 y1 y2=((w.alloc (.cells #[.pointer (some ⟨b,o,none⟩)] 107)).alloc (.cells #[.int .i64 k,.int .i64 id,.int .i64 g,.int .i64 a,.int .i64 c] 31)).alloc (.cells #[.int .i64 y0,.int .i64 y1,.int .i64 y2] 56):=by
 have hz:((w.alloc (.cells #[.pointer (some ⟨b,o,none⟩)] 107)).alloc (.cells #[.int .i64 k,.int .i64 id,.int .i64 g,.int .i64 a,.int .i64 c] 31)).heap.size=w.heap.size+2:=by
  show((w.heap.push _).push _).size=_
  simp
 unfold nU bf
 rw[←hz]
 have e1:=MX ((w.alloc (.cells #[.pointer (some ⟨b,o,none⟩)] 107)).alloc (.cells #[.int .i64 k,.int .i64 id,.int .i64 g,.int .i64 a,.int .i64 c] 31)) [.int .i64 0,.int .i64 0,.int .i64 0] 56 0 (.int .i64 y0)
 have e2:=MX ((w.alloc (.cells #[.pointer (some ⟨b,o,none⟩)] 107)).alloc (.cells #[.int .i64 k,.int .i64 id,.int .i64 g,.int .i64 a,.int .i64 c] 31)) [.int .i64 y0,.int .i64 0,.int .i64 0] 56 1 (.int .i64 y1)
 have e3:=MX ((w.alloc (.cells #[.pointer (some ⟨b,o,none⟩)] 107)).alloc (.cells #[.int .i64 k,.int .i64 id,.int .i64 g,.int .i64 a,.int .i64 c] 31)) [.int .i64 y0,.int .i64 y1,.int .i64 0] 56 2 (.int .i64 y2)
 generalize (w.alloc (.cells #[.pointer (some ⟨b,o,none⟩)] 107)).alloc (.cells #[.int .i64 k,.int .i64 id,.int .i64 g,.int .i64 a,.int .i64 c] 31)=X at*
 exact(congrArg (fun Y:World=>(Y.setCell ⟨X.heap.size,1,none⟩ (.int .i64 y1)).setCell ⟨X.heap.size,2,none⟩ (.int .i64 y2)) e1).trans ((congrArg (fun Y:World=>Y.setCell ⟨X.heap.size,2,none⟩ (.int .i64 y2)) e2).trans e3)
set_option maxHeartbeats 4000000 in
set_option maxRecDepth 100000 in
theorem afO{w:World}{b:Nat}{pre post:List Value}{bs:List Nat}(s0 s1 s3:Int)(gs ms:List fV)(ls:List cZ)(id g a c:Int)(hs:jm w b pre post (s0,s1,999000,s3,gs,ms,ls,()) bs)(hn:(b::bs).Nodup)(hl:∀ q∈b::bs,q<w.heap.size):
  Calls Tryz.prog 34 #[.pointer (some ⟨b,pre.length,none⟩),.agg #[.int .i64 4,.int .i64 id,.int .i64 g,.int .i64 a,.int .i64 c]] w fun e w'=>lq w w' e b bs pre post (0,0,9,s0,s1,999000,s3,gs,ms,ls,()):=by
 have mixed:Tryz.prog.follows Departure.mixedOrders=true:=by kernel_rfl
 have hs':=hs.keep (w':=bf w b pre.length 4 id g a c) fun q hq=>pY _ _ _ _ _ _ _ _ q (hl q hq)
 have HM:mP (bf w b pre.length 4 id g a c) (bf w b pre.length 4 id g a c) b bs pre post (s0,s1,999000,s3,gs,ms,ls,()):=⟨aO.refl _ _ _,bs,hs',hn,fun q hq=>Or.inl hq⟩
 have HF:Aside (∀ tmps:Array Value,tmps.getD 4 undef= .pointer (some ⟨w.heap.size+2,0,none⟩)→bodyPost Tryz.prog Tryz.f34 (fun e w'=>lq w w' e b bs pre post (0,0,9,s0,s1,999000,s3,gs,ms,ls,())) .ret { tmps:=tmps,defers:=[] } (((w.alloc (.cells #[.pointer (some ⟨b,pre.length,none⟩)] 107)).alloc (.cells #[.int .i64 4,.int .i64 id,.int .i64 g,.int .i64 a,.int .i64 c] 31)).alloc (.cells #[.int .i64 0,.int .i64 0,.int .i64 9] 56))):=fun tmps hp=>by
  rw[←aei]
  exact xN (0,0,9,s0,s1,999000,s3,gs,ms,ls,()) hl HM tmps hp
 obtain⟨k0,k1,k2,f0,f1,f2⟩:=Aw (yx w b pre.length 4 id g a c) (fun hm=>by have:=hl _ hm;omega) (aO.refl (bf w b pre.length 4 id g a c).heap.size (b::bs) (bf w b pre.length 4 id g a c))
 obtain⟨h4,h5,h6,bs4,bs5,bs6,t,rfl,hb,r4,r5,r6⟩:=hs'
 have kc:(bf w b pre.length 4 id g a c).cell? ⟨b,pre.length+2,none⟩=some (.int .i64 999000):=cell_of hb (lS _ _ _ 2 _ rfl)
 have c0:(bf w b pre.length 4 id g a c).cell? ⟨w.heap.size,0,none⟩=some (.pointer (some ⟨b,pre.length,none⟩)):=cell_of (cs:=[_]) (sO w b pre.length 4 id g a c) rfl
 clear hs hn hl HM hb r4 r5 r6
 go_enter Tryz.func34,Tryz.ntmps34
 go_wp2_with fail
 exact HF.out _ rfl
set_option maxHeartbeats 4000000 in
set_option maxRecDepth 100000 in
theorem afN{w:World}{b:Nat}{pre post:List Value}{bs:List Nat}(s0 s1 s2 s3:Int)(gs ms:List fV)(ls:List cZ)(id g a c:Int)(hs:jm w b pre post (s0,s1,s2,s3,gs,ms,ls,()) bs)(hn:(b::bs).Nodup)(hl:∀ q∈b::bs,q<w.heap.size)(hne:s2≠999000)(h0:0≤s2)(h1:s2≤1048576)(hids:kL ms ls):
  Calls Tryz.prog 34 #[.pointer (some ⟨b,pre.length,none⟩),.agg #[.int .i64 4,.int .i64 id,.int .i64 g,.int .i64 a,.int .i64 c]] w fun e w'=>lq w w' e b bs pre post (0,0,0,lF s0 s1 (s2+1) s3 gs ms ls (fun l=>decide (l.2.2.1≤s2+1))):=by
 have mixed:Tryz.prog.follows Departure.mixedOrders=true:=by kernel_rfl
 obtain⟨h4,h5,h6,bs4,bs5,bs6,t,rfl,hb,r4,r5,r6⟩:=hs
 have kk0:∀ q,q<w.heap.size→(bf w b pre.length 4 id g a c).heap[q]? =w.heap[q]? :=fun q hq=>pY _ _ _ _ _ _ _ _ q hq
 have hbW:(bf w b pre.length 4 id g a c).heap[b]? =some (.cells (pre++cellsS s0 s1 s2 s3 h4 h5 h6++post).toArray t (0,0)):=(kk0 b (hl b (by simp))).trans hb
 have n2:=(List.nodup_cons.1 hn)
 have n3:=List.nodup_append.1 n2.2
 have HF:Aside (∀ w2:World,mP (bf w b pre.length 4 id g a c) w2 b (bs4++(bs5++bs6)) pre post (lF s0 s1 (s2+1) s3 gs ms ls (fun l=>decide (l.2.2.1≤s2+1)))→∀ tmps:Array Value,tmps.getD 4 undef= .pointer (some ⟨w.heap.size+2,0,none⟩)→bodyPost Tryz.prog Tryz.f34 (fun e w'=>lq w w' e b (bs4++(bs5++bs6)) pre post (0,0,0,lF s0 s1 (s2+1) s3 gs ms ls (fun l=>decide (l.2.2.1≤s2+1)))) .ret { tmps:=tmps,defers:=[] } (nU w2 (w.heap.size+2) 0 0 0)):=fun w2 hm tmps hp=>xN (0,0,0,lF s0 s1 (s2+1) s3 gs ms ls (fun l=>decide (l.2.2.1≤s2+1))) hl hm tmps hp
 have HA:Aside (∀ w2,aO KN (bf w b pre.length 4 id g a c).heap.size (b::(bs4++(bs5++bs6))) (bf w b pre.length 4 id g a c) w2→w2.cell? ⟨w.heap.size+2,0,none⟩=some (.int .i64 0)∧w2.cell? ⟨w.heap.size+2,1,none⟩=some (.int .i64 0)∧w2.cell? ⟨w.heap.size+2,2,none⟩=some (.int .i64 0)∧w2.frozen? ⟨w.heap.size+2,0,none⟩=false∧w2.frozen? ⟨w.heap.size+2,1,none⟩=false∧w2.frozen? ⟨w.heap.size+2,2,none⟩=false):=
  fun w2 h=>Aw (yx w b pre.length 4 id g a c) (fun hm=>by have:=hl _ hm;omega) h
 have kc:(bf w b pre.length 4 id g a c).cell? ⟨b,pre.length+2,none⟩=some (.int .i64 s2):=cell_of hbW (lS _ _ _ 2 _ rfl)
 have fc:(bf w b pre.length 4 id g a c).frozen? ⟨b,pre.length+2,none⟩=false:=xH hbW _
 have c0:(bf w b pre.length 4 id g a c).cell? ⟨w.heap.size,0,none⟩=some (.pointer (some ⟨b,pre.length,none⟩)):=cell_of (cs:=[_]) (sO w b pre.length 4 id g a c) rfl
 have hbw:=hl b (by simp)
 have hdrop:Calls Tryz.prog 77 #[.pointer (some ⟨b,pre.length,none⟩),.func (.func 79) #[] #[.pointer (some ⟨w.heap.size,0,none⟩)]] ((bf w b pre.length 4 id g a c).setCell ⟨b,pre.length+2,none⟩ (.int .i64 (s2+1))) fun e w3=>e= .returned (.tuple #[])∧mP (bf w b pre.length 4 id g a c) w3 b (bs4++(bs5++bs6)) pre post (lF s0 s1 (s2+1) s3 gs ms ls (fun l=>decide (l.2.2.1≤s2+1))):=by
  obtain⟨q1,q2,q3⟩:=hids
  have hb4:=acI hbW (s2+1)
  have hu4:aO KN (bf w b pre.length 4 id g a c).heap.size (b::(bs4++(bs5++bs6))) (bf w b pre.length 4 id g a c) ((bf w b pre.length 4 id g a c).setCell ⟨b,pre.length+2,none⟩ (.int .i64 (s2+1))):=uT _ _ _ (Or.inr (by simp))
  have hz4:((bf w b pre.length 4 id g a c).setCell ⟨b,pre.length+2,none⟩ (.int .i64 (s2+1))).heap.size=w.heap.size+3:=by simp[World.setCell]
  have kk:∀ q,q≠b→((bf w b pre.length 4 id g a c).setCell ⟨b,pre.length+2,none⟩ (.int .i64 (s2+1))).heap[q]? =(bf w b pre.length 4 id g a c).heap[q]? :=fun q hq=>Go.RowKit.Below.heap_setCell _ _ _ q hq
  generalize (bf w b pre.length 4 id g a c).setCell ⟨b,pre.length+2,none⟩ (.int .i64 (s2+1))=W4 at*
  have hne4:∀ q∈bs4++(bs5++bs6),q≠b:=fun q hq=>by rintro rfl;exact n2.1 hq
  have kq:∀ q∈bs4++(bs5++bs6),W4.heap[q]? =w.heap[q]? :=fun q hq=>(kk q (hne4 q hq)).trans (kk0 q (hl q (List.mem_cons_of_mem _ hq)))
  refine(Un (w:=W4) b pre.length _ t h5 h6 ls ms bs5 bs6 79 #[.pointer (some ⟨w.heap.size,0,none⟩)] (fun l=>decide (l.2.2.1≤s2+1)) (fun args w=>jV (by kernel_rfl) args w) hb4 (lS _ _ _ 5 _ rfl) (lS _ _ _ 6 _ rfl) (eH.jE r5 fun q hq=>kq q (by simp[hq])) (iI.jE r6 fun q hq=>kq q (by simp[hq]))
   (List.nodup_cons.2 ⟨fun hm=>n2.1 (List.mem_append.2 (Or.inr hm)),n3.2.1⟩) (fun q hq=>by have:=hl q (List.mem_cons_of_mem _ (List.mem_append.2 (Or.inr hq)));omega) q1 q2 q3 ?_).mono ?_
  ·intro W3 x hu hx
   have hs3:=hu.size
   have n4:∀ q,q<W4.heap.size→q∉bs6→W3.heap[q]? =W4.heap[q]? :=fun q hq hn=>hu.block q hq hn
   refine afL W3 x w.heap.size b pre.length (s2+1) ((n4 _ (by omega) (fun hm=>by have:=hl w.heap.size (by simp[hm]);omega)).trans ((kk _ (by omega)).trans (sO w b pre.length 4 id g a c))) (cell_of ((n4 b (by omega) (fun hm=>n2.1 (by simp[hm]))).trans hb4) (lS _ _ _ 2 _ rfl)) (by omega)
  ·rintro e w3 ⟨rfl,hd⟩
   exact⟨rfl,VK hu4 hn (fun q hq=>by rw[oz];have:=hl q hq;omega) (eH.jE r4 fun q hq=>kq q (by simp[hq])) hd⟩
 have hne':((s2:Int)==999000)=false:=beq_eq_false_iff_ne.2 hne
 have hw1:IntKind.i64.wrap (s2+1)=s2+1:=by rw[IntKind.wrap_i64];omega
 clear hids hn hl hb hbW r4 r5 r6 kk0 n2 n3
 go_enter Tryz.func34,Tryz.ntmps34
 go_wp2_with (go_at_call 77;refine hdrop.mono ?_;rintro e w3 ⟨rfl,hm3⟩;obtain⟨k0,k1,k2,f0,f1,f2⟩:=HA.out w3 hm3.1)
 exact HF.out w3 hm3 _ rfl
end Go.Rv
