/- A function of the library by hand: RvHdo2. -/
import Derived.Test.YtjknhphmhfbghaaGreatFM16
import Derived.KernelRfl
import Derived.Deep.RegionWith
import Derived.BigRegion
set_option linter.unusedVariables false
set_option linter.unusedSimpArgs false
set_option linter.unusedSectionVars false
namespace Go.Rv
open Go.Proofs Go.RowKit Go.Shelf Go.Lib
attribute [local go_sem] Oper.semAt_some
theorem adx(W:World)(r:Nat)(y0 y1 y2:Int):nU W.drew r y0 y1 y2=(nU W r y0 y1 y2).drew:=rfl
set_option maxHeartbeats 4000000 in
set_option maxRecDepth 100000 in
theorem do5{w:World}{b:Nat}{pre post:List Value}{bs:List Nat}(s0 s1 s2 s3:Int)(gs ms:List fV)(ls:List cZ)(id g a c:Int)(hs:jm w b pre post (s0,s1,s2,s3,gs,ms,ls,()) bs)(hn:(b::bs).Nodup)(hl:∀ q∈b::bs,q<w.heap.size):
  Calls Tryz.prog 34 #[.pointer (some ⟨b,pre.length,none⟩),.agg #[.int .i64 5,.int .i64 id,.int .i64 g,.int .i64 a,.int .i64 c]] w fun e w'=>lq w w' e b bs pre post (0,0,0,s0,s2,s2,s3,gs,[],[],()):=by
 have mixed:Tryz.prog.follows Departure.mixedOrders=true:=by kernel_rfl
 obtain⟨h4,h5,h6,bs4,bs5,bs6,t,rfl,hb,r4,r5,r6⟩:=hs
 have hbW:(bf w b pre.length 5 id g a c).heap[b]? =some (.cells (pre++cellsS s0 s1 s2 s3 h4 h5 h6++post).toArray t (0,0)):=(pY _ _ _ _ _ _ _ _ b (hl b (by simp))).trans hb
 have kc:(bf w b pre.length 5 id g a c).cell? ⟨b,pre.length+2,none⟩=some (.int .i64 s2):=cell_of hbW (lS _ _ _ 2 _ rfl)
 have kb:(bf w b pre.length 5 id g a c).cell? ⟨b,pre.length+1,none⟩=some (.int .i64 s1):=cell_of hbW (lS _ _ _ 1 _ rfl)
 have k5:(bf w b pre.length 5 id g a c).cell? ⟨b,pre.length+3+2,none⟩=some h5:=cell_of hbW (lS _ _ _ 5 _ rfl)
 have k6:(bf w b pre.length 5 id g a c).cell? ⟨b,pre.length+6,none⟩=some h6:=cell_of hbW (lS _ _ _ 6 _ rfl)
 have fb:(bf w b pre.length 5 id g a c).frozen? ⟨b,pre.length+1,none⟩=false:=xH hbW _
 have f5:(bf w b pre.length 5 id g a c).frozen? ⟨b,pre.length+3+2,none⟩=false:=xH hbW _
 have f6:(bf w b pre.length 5 id g a c).frozen? ⟨b,pre.length+6,none⟩=false:=xH hbW _
 have c0:(bf w b pre.length 5 id g a c).cell? ⟨w.heap.size,0,none⟩=some (.pointer (some ⟨b,pre.length,none⟩)):=cell_of (cs:=[_]) (sO w b pre.length 5 id g a c) rfl
 have hbw:=hl b (by simp)
 have hm:mP (bf w b pre.length 5 id g a c) ((((bf w b pre.length 5 id g a c).setCell ⟨b,pre.length+1,none⟩ (.int .i64 s2)).setCell ⟨b,pre.length+3+2,none⟩ (.slice none 0 0)).setCell ⟨b,pre.length+6,none⟩ (.slice none 0 0)).drew b (bs4++(bs5++bs6)) pre post (s0,s2,s2,s3,gs,[],[],()):=by
  have e1:=pO hbW (pre.length+1) (.int .i64 s2)
  rw[xG _ _ _ _ _ (by simp)]at e1
  have h1:((bf w b pre.length 5 id g a c).setCell ⟨b,pre.length+1,none⟩ (.int .i64 s2)).heap[b]? =some (.cells (pre++cellsS s0 s2 s2 s3 h4 h5 h6++post).toArray t (0,0)):=by rw[e1];exact jD _ _ _ _ _ hbW
  have e2:=pO h1 (pre.length+3+2) (.slice none 0 0)
  rw[show pre.length+3+2=pre.length+5 from rfl,xG _ _ _ _ _ (by simp)]at e2
  have h2:(((bf w b pre.length 5 id g a c).setCell ⟨b,pre.length+1,none⟩ (.int .i64 s2)).setCell ⟨b,pre.length+5,none⟩ (.slice none 0 0)).heap[b]? =some (.cells (pre++cellsS s0 s2 s2 s3 h4 (.slice none 0 0) h6++post).toArray t (0,0)):=by rw[e2];exact jD _ _ _ _ _ h1
  have e3:=pO h2 (pre.length+6) (.slice none 0 0)
  rw[xG _ _ _ _ _ (by simp)]at e3
  have h3:((((bf w b pre.length 5 id g a c).setCell ⟨b,pre.length+1,none⟩ (.int .i64 s2)).setCell ⟨b,pre.length+5,none⟩ (.slice none 0 0)).setCell ⟨b,pre.length+6,none⟩ (.slice none 0 0)).heap[b]? =some (.cells (pre++cellsS s0 s2 s2 s3 h4 (.slice none 0 0) (.slice none 0 0)++post).toArray t (0,0)):=by rw[e3];exact jD _ _ _ _ _ h2
  have n2:=List.nodup_cons.1 hn
  have n3:=List.nodup_append.1 n2.2
  refine⟨(((uT _ _ _ (Or.inr (by simp))).trans (uT _ _ _ (Or.inr (by simp)))).trans (uT _ _ _ (Or.inr (by simp)))).trans (pV _ _ _),bs4++([]++[]),⟨h4,_,_,bs4,[],[],t,rfl,h3,eH.jE r4 fun q hq=> ?_,Or.inl ⟨rfl,⟨none,rfl⟩,rfl⟩,Or.inl ⟨rfl,⟨none,rfl⟩,rfl⟩⟩,List.nodup_cons.2 ⟨fun h=>n2.1 (List.mem_append.2 (Or.inl (by simpa using h))),by simpa using n3.1⟩,fun q hq=>Or.inl (List.mem_append.2 (Or.inl (by simpa using hq)))⟩
  have hne:q≠b:=by rintro rfl;exact n2.1 (List.mem_append.2 (Or.inl hq))
  show((((bf w b pre.length 5 id g a c).setCell ⟨b,pre.length+1,none⟩ (.int .i64 s2)).setCell ⟨b,pre.length+3+2,none⟩ (.slice none 0 0)).setCell ⟨b,pre.length+6,none⟩ (.slice none 0 0)).heap[q]? =_
  rw[Go.RowKit.Below.heap_setCell _ _ _ q hne,Go.RowKit.Below.heap_setCell _ _ _ q hne,Go.RowKit.Below.heap_setCell _ _ _ q hne]
  exact pY _ _ _ _ _ _ _ _ q (hl q (by simp[hq]))
 have HF:Aside (∀ tmps:Array Value,tmps.getD 4 undef= .pointer (some ⟨w.heap.size+2,0,none⟩)→bodyPost Tryz.prog Tryz.f34 (fun e w'=>lq w w' e b (bs4++(bs5++bs6)) pre post (0,0,0,s0,s2,s2,s3,gs,[],[],())) .ret { tmps:=tmps,defers:=[] } (nU ((((bf w b pre.length 5 id g a c).setCell ⟨b,pre.length+1,none⟩ (.int .i64 s2)).setCell ⟨b,pre.length+3+2,none⟩ (.slice none 0 0)).setCell ⟨b,pre.length+6,none⟩ (.slice none 0 0)) (w.heap.size+2) 0 0 0).drew):=fun tmps hp=>by
  rw[←adx]
  exact xN (0,0,0,s0,s2,s2,s3,gs,[],[],()) hl hm tmps hp
 clear hm hb hbW r4 r5 r6 hn hl
 go_enter Tryz.func34,Tryz.ntmps34
 go_wp2_with fail
 go_region
 all_goals go_wp2_with fail
 all_goals exact HF.out _ rfl
theorem abv{W:World}(k id g a c:Int)(e0 e1 e2 e3 e4:Int)(hF:nC (k,id,g,a,c,())=some (e0,e1,e2,e3,e4,())):
  Calls Tryz.prog 72 #[.agg #[.int .i64 k,.int .i64 id,.int .i64 g,.int .i64 a,.int .i64 c]] W fun e w'=>e= .returned (.agg #[.int .i64 e0,.int .i64 e1,.int .i64 e2,.int .i64 e3,.int .i64 e4])∧aO KN W.heap.size [] W w':=by
 have hok:aF KN Tryz.prog 72 Si:=Rf
 refine(hok.2 W [] (fun _=>False) (k,id,g,a,c,()) (e0,e1,e2,e3,e4,()) [.agg #[.int .i64 k,.int .i64 id,.int .i64 g,.int .i64 a,.int .i64 c]] _ (fun _ h=>h.elim) List.nodup_nil trivial ?_ hF rfl).mono ?_
 ·exact⟨_,_,[],[],rfl,rfl,⟨_,⟨_,_,rfl,rfl,_,_,rfl,rfl,_,_,rfl,rfl,_,_,rfl,rfl,_,_,rfl,rfl,rfl⟩,rfl,rfl⟩,rfl,rfl⟩
 ·rintro e w' ⟨hu,us,vs,c1,c2,ha,ho,hg,hio,hnd,hin⟩
  refine⟨?_,hu⟩
  obtain⟨u0,t0,rfl,q0,u1,t1,rfl,q1,u2,t2,rfl,q2,u3,t3,rfl,q3,u4,t4,rfl,q4,rfl,rfl⟩:=ho
  have q0:u0= .int .i64 e0:=q0
  have q1:u1= .int .i64 e1:=q1
  have q2:u2= .int .i64 e2:=q2
  have q3:u3= .int .i64 e3:=q3
  have q4:u4= .int .i64 e4:=q4
  subst q0 q1 q2 q3 q4
  obtain⟨x,y,v,rest,hab,hl,rfl,hg,hb,rfl⟩:=hg
  subst hb
  rw[List.append_nil]at hab
  subst hab
  have hv:v= .agg _:=hg
  subst hv
  exact ha
theorem ab6{w:World}{b:Nat}{pre post:List Value}{bs:List Nat}(s0 s1 s2 s3:Int)(gs ms:List fV)(ls:List cZ)(e0 e1 e2 e3 e4:Int)(y0 y1:Int)(gs' ms':List fV)(hs:jm w b pre post (s0,s1,s2,s3,gs,ms,ls,()) bs)(hn:(b::bs).Nodup)(hl:∀ q∈b::bs,q<w.heap.size)
  (hF:ng (s3,gs,ms,e0,e1,e2,e3,e4,())=some (y0,y1,gs',ms',())):
  Calls Tryz.prog 80 #[.pointer (some ⟨b,pre.length+3,none⟩),.agg #[.int .i64 e0,.int .i64 e1,.int .i64 e2,.int .i64 e3,.int .i64 e4]] w fun e w'=>e= .returned (.int .i64 y0)∧mP w w' b bs pre post (s0,s1,s2,y1,gs',ms',ls,()):=by
 obtain⟨h4,h5,h6,bs4,bs5,bs6,t,rfl,hb,r4,r5,r6⟩:=hs
 have n2:=List.nodup_cons.1 hn
 have n3:=List.nodup_append.1 n2.2
 have n4:=List.nodup_append.1 n3.2.1
 have e6:bT w (fun _=>False) [CT.int .i64,CT.sl [CT.int .i64,CT.int .i64,CT.int .i64,CT.int .i64],CT.sl [CT.int .i64,CT.int .i64,CT.int .i64,CT.int .i64]] (s3,gs,ms,()) [.int .i64 s3,h4,h5] (bs4++bs5):=by
  have k5:bT w (fun _=>False) [CT.sl [CT.int .i64,CT.int .i64,CT.int .i64,CT.int .i64]] (ms,()) [h5] bs5:=by
   rcases r5 with ⟨q1,q2,rfl⟩ | ⟨b5,rfl,q⟩
   ·exact⟨_,_,rfl,Or.inl ⟨q1,q2,rfl,rfl⟩⟩
   ·exact⟨_,_,rfl,Or.inr ⟨b5,[],rfl,q,rfl,rfl⟩⟩
  refine⟨_,_,rfl,rfl,_,_,rfl, ?_⟩
  rcases r4 with ⟨q1,q2,rfl⟩ | ⟨b4,rfl,q⟩
  ·exact Or.inl ⟨q1,q2,k5⟩
  ·exact Or.inr ⟨b4,bs5,rfl,q,k5⟩
 have hT:(b::(bs4++bs5)).Nodup:=by
  refine List.nodup_cons.2 ⟨fun h=>n2.1 (by rcases List.mem_append.1 h with h |h <;>simp[h]),List.nodup_append.2 ⟨n3.1,n4.1,fun x hx z hz=>n3.2.2 x hx z (List.mem_append.2 (Or.inl hz))⟩⟩
 have hok:aF KN Tryz.prog 80 QX:=ZY
 have hpl:(pre++[Value.int .i64 s0,.int .i64 s1,.int .i64 s2]).length=pre.length+3:=by simp
 have hb':w.heap[b]? =some (.cells ((pre++[Value.int .i64 s0,.int .i64 s1,.int .i64 s2])++[Value.int .i64 s3,h4,h5]++(h6::post)).toArray t (0,0)):=by rw[hb];simp
 refine(hok.2 w (b::(bs4++bs5)) (fun _=>False) (s3,gs,ms,e0,e1,e2,e3,e4,()) (y0,y1,gs',ms',()) [.pointer (some ⟨b,pre.length+3,none⟩),.agg #[.int .i64 e0,.int .i64 e1,.int .i64 e2,.int .i64 e3,.int .i64 e4]] _ (fun _ h=>h.elim) hT trivial ?_ hF rfl).mono ?_
 ·exact⟨_,_,b::(bs4++bs5),[],rfl,by simp,⟨b,pre++[Value.int .i64 s0,.int .i64 s1,.int .i64 s2],_,h6::post,t,bs4++bs5,rfl,by rw[hpl],hb',e6⟩,_,_,[],[],rfl,rfl,⟨_,⟨_,_,rfl,rfl,_,_,rfl,rfl,_,_,rfl,rfl,_,_,rfl,rfl,_,_,rfl,rfl,rfl⟩,rfl,rfl⟩,rfl,rfl⟩
 ·rintro e w' ⟨hu,us',vs,c1,c2,ha,ho,hg,hio,hnd,hin⟩
  obtain⟨u0,t0,rfl,q0,rfl,rfl⟩:=ho
  have q0:u0= .int .i64 y0:=q0
  subst q0
  obtain⟨x,y,v,rest,hab,hl',rfl,hg,hbb,rfl⟩:=hg
  subst hbb
  rw[List.append_nil]at hab
  subst hab
  have hv:[Value.int .i64 y0]=[v]:=hg
  obtain⟨rfl,_⟩:=List.cons.inj hv
  obtain⟨v1,t1,d1,d2,e1,rfl,⟨b',pre',us0,us1,post',tt,tt',bt,rfl,e2,e3,e4,e5,e6⟩,v2,t2,d3,d4,e7,rfl,rfl,e8,rfl⟩:=hio
  obtain⟨q1,q2⟩:=List.cons.inj e1
  rw[←q1]at e2
  simp only[Value.pointer.injEq,Option.some.injEq,Addr.mk.injEq]at e2
  obtain⟨rfl,hpl',_⟩:=e2
  have e3':=e3.symm.trans hb'
  simp only[Option.some.injEq,Obj.cells.injEq,and_true,Array.mk.injEq]at e3'
  have e9:=List.append_inj (by simpa [List.append_assoc]using e3'.1:pre'++(us0++post')=(pre++[Value.int .i64 s0,.int .i64 s1,.int .i64 s2])++([Value.int .i64 s3,h4,h5]++(h6::post))) (by rw[hpl];exact hpl'.symm)
  obtain⟨rfl,e10⟩:=e9
  obtain⟨rfl,rfl⟩:=List.append_inj e10 (by rw[e4];rfl)
  obtain⟨u3,t3,rfl,k3,h4',t4,rfl,k4⟩:=e6
  have k3:u3= .int .i64 y1:=k3
  subst k3
  have hnd':(b::bt).Nodup:=by simpa using hnd
  have hin':∀ q∈b::bt,q∈b::(bs4++bs5)∨w.heap.size≤q:=fun q hq=>hin q (by simpa using hq)
  have key:∃ h5' bs4' bs5',t4=[h5']∧bt=bs4'++bs5'∧eH.dV w' h4' gs' bs4'∧eH.dV w' h5' ms' bs5':=by
   have r5':∀ {t bs},bT w' (fun _=>False) [CT.sl [CT.int .i64,CT.int .i64,CT.int .i64,CT.int .i64]] (ms',()) t bs→∃ h5,t=[h5]∧eH.dV w' h5 ms' bs:=fun k=>by
    obtain⟨h6,t6,rfl,k⟩:=k
    rcases k with ⟨q1,q2,rfl,rfl⟩ | ⟨b6,bt,rfl,q,rfl,rfl⟩
    ·exact⟨h6,rfl,Or.inl ⟨q1,q2,rfl⟩⟩
    ·exact⟨h6,rfl,Or.inr ⟨b6,rfl,q⟩⟩
   rcases k4 with ⟨q1,q2,k⟩ | ⟨b4,bt',rfl,q,k⟩
   ·obtain⟨h5',rfl,k5⟩:=r5' k
    exact⟨h5',[],_,rfl,rfl,Or.inl ⟨q1,q2,rfl⟩,k5⟩
   ·obtain⟨h5',rfl,k5⟩:=r5' k
    exact⟨h5',[b4],bt',rfl,rfl,Or.inr ⟨b4,rfl,q⟩,k5⟩
  obtain⟨h5',bs4',bs5',rfl,rfl,r4',r5'⟩:=key
  have ns:∀ q∈bs6,q≠b∧q∉bs4++bs5∧q∉bs4'++bs5':=fun q hq=>by
   have h1:q≠b:=by rintro rfl;exact n2.1 (by simp[hq])
   have h2:q∉bs4++bs5:=fun hm=>by
    rcases List.mem_append.1 hm with hm |hm
    ·exact n3.2.2 q hm q (by simp[hq]) rfl
    ·exact n4.2.2 q hm q hq rfl
   refine⟨h1,h2,fun hm=> ?_⟩
   rcases hin' q (List.mem_cons_of_mem _ hm)with h |h
   ·rcases List.mem_cons.1 h with h |h
    ·exact h1 h
    ·exact h2 h
   ·have:=hl q (by simp[hq]);omega
  refine⟨ha,hu.wide fun q hq=> ?_,bs4'++(bs5'++bs6),⟨h4',h5',h6,bs4',bs5',bs6,tt',rfl,by rw[e5];simp,r4',r5',iI.jE r6 fun q hq=>hu.block q (hl q (by simp[hq])) (fun hm=>by
   rcases List.mem_cons.1 hm with hm |hm
   ·exact(ns q hq).1 hm
   ·exact(ns q hq).2.1 hm)⟩, ?_, ?_⟩
  ·rcases List.mem_cons.1 hq with rfl |hq
   ·simp
   ·rcases List.mem_append.1 hq with h |h <;>simp[h]
  ·have m2:=List.nodup_cons.1 hnd'
   refine List.nodup_cons.2 ⟨fun hm=> ?_, ?_⟩
   ·rw[←List.append_assoc]at hm
    rcases List.mem_append.1 hm with hm |hm
    ·exact m2.1 hm
    ·exact(ns b hm).1 rfl
   ·rw[←List.append_assoc]
    exact List.nodup_append.2 ⟨m2.2,n4.2.1,fun x hx z hz=>by rintro rfl;exact(ns x hz).2.2 hx⟩
  ·intro q hq
   rw[←List.append_assoc]at hq
   rcases List.mem_append.1 hq with hq |hq
   ·rcases hin' q (List.mem_cons_of_mem _ hq)with h |h
    ·rcases List.mem_cons.1 h with rfl |h
     ·exact absurd hq (List.nodup_cons.1 hnd').1
     ·left;rcases List.mem_append.1 h with h |h <;>simp[h]
    ·exact Or.inr h
   ·left;simp[hq]
set_option maxHeartbeats 4000000 in
set_option maxRecDepth 100000 in
theorem do6{w:World}{b:Nat}{pre post:List Value}{bs:List Nat}(s0 s1 s2 s3:Int)(gs ms:List fV)(ls:List cZ)(k id g a c:Int)(e0 e1 e2 e3 e4 y0 y1:Int)(gs' ms':List fV)(hs:jm w b pre post (s0,s1,s2,s3,gs,ms,ls,()) bs)(hn:(b::bs).Nodup)(hl:∀ q∈b::bs,q<w.heap.size)
  (k1:(k==1)=false) (k2:(k==2)=false) (k4:(k==4)=false) (k5:(k==5)=false) (hE:nC (k,id,g,a,c,())=some (e0,e1,e2,e3,e4,())) (hF:ng (s3,gs,ms,e0,e1,e2,e3,e4,())=some (y0,y1,gs',ms',())):
  Calls Tryz.prog 34 #[.pointer (some ⟨b,pre.length,none⟩),.agg #[.int .i64 k,.int .i64 id,.int .i64 g,.int .i64 a,.int .i64 c]] w fun e w'=>lq w w' e b bs pre post (0,0,y0,s0,s1,s2,y1,gs',ms',ls,()):=by
 have mixed:Tryz.prog.follows Departure.mixedOrders=true:=by kernel_rfl
 have hE1:=abv (W:=(bf w b pre.length k id g a c).drew) k id g a c e0 e1 e2 e3 e4 hE
 have HF:Aside (∀ w2:World,mP (bf w b pre.length k id g a c) w2 b bs pre post (s0,s1,s2,y1,gs',ms',ls,())→∀ tmps:Array Value,tmps.getD 4 undef= .pointer (some ⟨w.heap.size+2,0,none⟩)→bodyPost Tryz.prog Tryz.f34 (fun e w'=>lq w w' e b bs pre post (0,0,y0,s0,s1,s2,y1,gs',ms',ls,())) .ret { tmps:=tmps,defers:=[] } (nU w2 (w.heap.size+2) 0 0 y0)):=fun w2 hm tmps hp=>xN (0,0,y0,s0,s1,s2,y1,gs',ms',ls,()) hl hm tmps hp
 have HA:Aside (∀ w2,aO KN (bf w b pre.length k id g a c).heap.size (b::bs) (bf w b pre.length k id g a c) w2→w2.cell? ⟨w.heap.size+2,0,none⟩=some (.int .i64 0)∧w2.cell? ⟨w.heap.size+2,1,none⟩=some (.int .i64 0)∧w2.cell? ⟨w.heap.size+2,2,none⟩=some (.int .i64 0)∧w2.frozen? ⟨w.heap.size+2,0,none⟩=false∧w2.frozen? ⟨w.heap.size+2,1,none⟩=false∧w2.frozen? ⟨w.heap.size+2,2,none⟩=false):=
  fun w2 h=>Aw (yx w b pre.length k id g a c) (fun hm=>by have:=hl _ hm;omega) h
 have HM:Aside (∀ w2,aO KN (bf w b pre.length k id g a c).drew.heap.size [] (bf w b pre.length k id g a c).drew w2→w2.cell? ⟨w.heap.size,0,none⟩=some (.pointer (some ⟨b,pre.length,none⟩))∧
   Calls Tryz.prog 80 #[.pointer (some ⟨b,pre.length+3,none⟩),.agg #[.int .i64 e0,.int .i64 e1,.int .i64 e2,.int .i64 e3,.int .i64 e4]] w2 fun e w3=>e= .returned (.int .i64 y0)∧mP (bf w b pre.length k id g a c) w3 b bs pre post (s0,s1,s2,y1,gs',ms',ls,())):=fun w2 h=>by
  have hk:∀ q,q<w.heap.size+3→w2.heap[q]? =(bf w b pre.length k id g a c).heap[q]? :=fun q hq=>h.block q (by show q<(bf w b pre.length k id g a c).heap.size;rw[oz];exact hq) (by simp)
  have hsz2:(bf w b pre.length k id g a c).heap.size≤w2.heap.size:=h.size
  refine⟨cell_of (cs:=[_]) ((hk _ (by omega)).trans (sO w b pre.length k id g a c)) rfl, ?_⟩
  refine(ab6 s0 s1 s2 s3 gs ms ls e0 e1 e2 e3 e4 y0 y1 gs' ms' (hs.keep fun q hq=>(hk q (by have:=hl q hq;omega)).trans (pY _ _ _ _ _ _ _ _ q (hl q hq))) hn (fun q hq=>by rw[oz]at hsz2;have:=hl q hq;omega) hF).mono ?_
  rintro e w3 ⟨rfl,hu,bs',h1,h2,h3⟩
  exact⟨rfl,((pV _ _ _).trans (h.wide (by simp))).trans (hu.mono' hsz2),bs',h1,h2,fun q hq=>(h3 q hq).imp (fun h=>h) fun hh=>Nat.le_trans hsz2 hh⟩
 have c0:(bf w b pre.length k id g a c).cell? ⟨w.heap.size,0,none⟩=some (.pointer (some ⟨b,pre.length,none⟩)):=cell_of (cs:=[_]) (sO w b pre.length k id g a c) rfl
 clear hs hn hl hE hF
 go_enter Tryz.func34,Tryz.ntmps34
 go_wp2_with fail
 go_region_with (first
  | (go_at_call 72;refine hE1.mono ?_;rintro e w2 ⟨rfl,hb2⟩;obtain⟨cc0,hE2⟩:=HM.out w2 hb2)
  | (go_at_call 80;refine hE2.mono ?_;rintro e w3 ⟨rfl,hm3⟩;obtain⟨k0,k1',k2',f0,f1,f2⟩:=HA.out w3 hm3.1))
 all_goals
  go_wp2_with fail
  exact HF.out w3 hm3 _ rfl
theorem ado{w:World}{b:Nat}{pre post:List Value}{bs:List Nat}(s0 s1 s2 s3:Int)(gs ms:List fV)(ls:List cZ)(k id g a c:Int)(y:Int×Int×Int×jo)(hs:jm w b pre post (s0,s1,s2,s3,gs,ms,ls,()) bs)(hn:(b::bs).Nodup)(hl:∀ q∈b::bs,q<w.heap.size)
  (hF:nX s0 s1 s2 s3 gs ms ls k id g a c=some y):
  Calls Tryz.prog 34 #[.pointer (some ⟨b,pre.length,none⟩),.agg #[.int .i64 k,.int .i64 id,.int .i64 g,.int .i64 a,.int .i64 c]] w fun e w'=>lq w w' e b bs pre post y:=by
 unfold nX at hF
 by_cases h1:k=1
 ·subst h1
  rw[if_pos rfl]at hF
  exact do1 s0 s1 s2 s3 gs ms ls id g a c y hs hn hl hF
 rw[if_neg h1]at hF
 by_cases h2:k=2
 ·subst h2
  rw[if_pos rfl]at hF
  obtain⟨⟨ix,is,⟨⟩⟩,hm,hF⟩:=Option.bind_eq_some_iff.1 hF
  have h:=do2 s0 s1 s2 s3 gs ms ls id g a c ix is hs hn hl hm
  by_cases hi:is=true
  ·subst hi
   have hF:(if kL ms ls then some ((0,0,0,lF s0 s1 s2 s3 gs ms ls (fun l=>l.1==id)):Int×Int×Int×jo)else none)=some y:=(if_pos rfl).symm.trans hF
   by_cases ho:kL ms ls
   ·rw[if_pos ho]at hF
    have:=Option.some.inj hF
    subst this
    exact h fun _=>ho
   ·rw[if_neg ho]at hF
    cases hF
  ·have hi':is=false:=by simpa using hi
   subst hi'
   have hF:some ((0,0,4,s0,s1,s2,s3,gs,ms,ls,()):Int×Int×Int×jo)=some y:=(if_neg (by simp)).symm.trans hF
   have:=Option.some.inj hF
   subst this
   exact h fun h=>by cases h
 rw[if_neg h2]at hF
 by_cases h4:k=4
 ·subst h4
  rw[if_pos rfl]at hF
  by_cases h9:s2=999000
  ·subst h9
   rw[if_pos rfl]at hF
   have:=Option.some.inj hF
   subst this
   exact afO s0 s1 s3 gs ms ls id g a c hs hn hl
  ·rw[if_neg h9]at hF
   by_cases ho:kL ms ls∧0≤s2∧s2≤1048576
   ·rw[if_pos ho]at hF
    have:=Option.some.inj hF
    subst this
    exact afN s0 s1 s2 s3 gs ms ls id g a c hs hn hl h9 ho.2.1 ho.2.2 ho.1
   ·rw[if_neg ho]at hF
    cases hF
 rw[if_neg h4]at hF
 by_cases h5:k=5
 ·subst h5
  rw[if_pos rfl]at hF
  have:=Option.some.inj hF
  subst this
  exact do5 s0 s1 s2 s3 gs ms ls id g a c hs hn hl
 rw[if_neg h5]at hF
 obtain⟨⟨e0,e1,e2,e3,e4,⟨⟩⟩,hE,hF⟩:=Option.bind_eq_some_iff.1 hF
 obtain⟨⟨y0,y1,gs',ms',⟨⟩⟩,hE2,hF⟩:=Option.bind_eq_some_iff.1 hF
 have:=Option.some.inj hF
 subst this
 exact do6 s0 s1 s2 s3 gs ms ls k id g a c e0 e1 e2 e3 e4 y0 y1 gs' ms' hs hn hl (beq_eq_false_iff_ne.2 h1) (beq_eq_false_iff_ne.2 h2) (beq_eq_false_iff_ne.2 h4) (beq_eq_false_iff_ne.2 h5) hE hE2
theorem aeu{w:World}{b:Nat}{pre post:List Value}{s:jo}{bs:List Nat}(h:jm w b pre post s bs):∀ q∈b::bs,q<w.heap.size:=by
 obtain⟨h4,h5,h6,bs4,bs5,bs6,t,rfl,h1,h2,h3,h7⟩:=h
 have hM:∀ {h:Value} {xs:List fV} {bs:List Nat},eH.dV w h xs bs→∀ q∈bs,q<w.heap.size:=fun hR q hq=>by
  rcases hR with ⟨_,_,rfl⟩ | ⟨b,rfl,ho⟩
  ·cases hq
  ·obtain⟨_,cap,us,t,_,_,_,e4,_⟩:=ho
   rw[List.mem_singleton.1 hq]
   exact(Array.getElem?_eq_some_iff.1 e4).1
 have hL:∀ {h:Value} {xs:List cZ} {bs:List Nat},iI.dV w h xs bs→∀ q∈bs,q<w.heap.size:=fun hR q hq=>by
  rcases hR with ⟨_,_,rfl⟩ | ⟨b,rfl,ho⟩
  ·cases hq
  ·obtain⟨_,cap,us,t,_,_,_,e4,_⟩:=ho
   rw[List.mem_singleton.1 hq]
   exact(Array.getElem?_eq_some_iff.1 e4).1
 intro q hq
 rcases List.mem_cons.1 hq with rfl |hq
 ·exact(Array.getElem?_eq_some_iff.1 h1).1
 ·rcases List.mem_append.1 hq with hq |hq
  ·exact hM h2 q hq
  ·rcases List.mem_append.1 hq with hq |hq
   ·exact hM h3 q hq
   ·exact hL h7 q hq
theorem Qz:aF KN Tryz.prog 34 ⟨ZG,Zl,wO,[]⟩:=by
 refine⟨fun args w=>jV (by kernel_rfl) args w,fun w T J (x:Int×Int×Int×Int×List fV×List fV×List cZ×Int×Int×Int×Int×Int×Unit) (y:Int×Int×Int×jo) vals avals hJ hT htab hargs (hF:wO x=some y) hp=> ?_⟩
 obtain⟨s0,s1,s2,s3,gs,ms,ls,k,id,g,a,c,⟨⟩⟩:=x
 obtain⟨v1,t1,b1,b1',rfl,rfl,⟨b,pre,us,post,t,bt,rfl,rfl,hb,ho⟩,v2,t2,b2,b2',rfl,rfl,⟨us2,hc2,hg2,rfl⟩,rfl,rfl⟩:=hargs
 have hp':_=avals:=hp
 subst hp'
 obtain⟨u0,q0,rfl,r0,u1,q1,rfl,r1,u2,q2,rfl,r2,u3,q3,rfl,r3,u4,q4,rfl,r4,rfl⟩:=hc2
 have r0:u0= .int .i64 k:=r0
 have r1:u1= .int .i64 id:=r1
 have r2:u2= .int .i64 g:=r2
 have r3:u3= .int .i64 a:=r3
 have r4:u4= .int .i64 c:=r4
 subst r0 r1 r2 r3 r4
 have hv2:v2= .agg #[.int .i64 k,.int .i64 id,.int .i64 g,.int .i64 a,.int .i64 c]:=hg2
 subst hv2
 have hs:jm w b pre post (s0,s1,s2,s3,gs,ms,ls,()) bt:=Wl hb ho
 have hT':(b::bt).Nodup:=by simpa using hT
 have hlen:=rV Cb _ _ _ ho
 refine(ado s0 s1 s2 s3 gs ms ls k id g a c y hs hT' (aeu hs) hF).mono ?_
 rintro e w' ⟨rfl,hu,bs',hs',hn',hin⟩
 obtain⟨us',t',hb',ho'⟩:=V3 (J:=J) hs'
 obtain⟨y0,y1,y2,ys⟩:=y
 refine⟨⟨hu.os,hu.tape,hu.output,hu.size,fun q hq hn=>hu.block q hq (fun hm=>hn (List.mem_append.2 (Or.inl hm))),fun h=>h.elim⟩,[.int .i64 y0,.int .i64 y1,.int .i64 y2],[.agg #[.int .i64 y0,.int .i64 y1,.int .i64 y2]],[],b::bs',rfl,⟨_,_,rfl,rfl,_,_,rfl,rfl,_,_,rfl,rfl,rfl,rfl⟩,⟨_,[],_,[],rfl,rfl,rfl,rfl,rfl,rfl⟩,⟨_,_,b::bs',[],rfl,by simp,⟨b,pre,us,us',post,t,t',bs',rfl,rfl,hb,hlen,hb',ho'⟩,_,_,[],[],rfl,rfl,rfl,rfl,rfl⟩,by simpa using hn', ?_⟩
 intro q hq
 have hq':q∈b::bs':=by simpa using hq
 rcases List.mem_cons.1 hq' with rfl |hq'
 ·exact Or.inl (by simp)
 ·rcases hin q hq' with h |h
  ·exact Or.inl (by simp[h])
  ·exact Or.inr h
#print axioms Qz
end Go.Rv
