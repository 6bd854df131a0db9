/- A function of the library by hand: RvHdrop. -/
import Derived.Test.YtjknhphmhfbghaaGreatFM13
import Derived.Maps.Own
import Derived.Maps.Views
import Derived.Maps.OwnOps
import Derived.WalkKit
import Derived.Deep.RegionWith
set_option linter.unusedVariables false
set_option linter.unusedSimpArgs false
set_option linter.unusedSectionVars false
namespace Go.Rv
open Go.Proofs Go.RowKit Go.Shelf Go.Lib Go.Maps
attribute [local go_sem] Oper.semAt_some
abbrev cZ:=Int×Int×Int×Unit
abbrev fV:=Int×Int×Int×Int×Unit
def qj(p:cZ→Bool)(ls:List cZ)(k:Int):Bool:=ls.foldl (fun b l=>if l.1=k then p l else b) false
def ku(p:cZ→Bool)(ls:List cZ):DataW Unit:=ls.foldl (fun D l=>D.put (.int .i64 l.1) (.lit (.bool (p l)))) (.map [])
abbrev kW(k:Int):Prop:=0≤k∧k≤1048576
theorem keyed:Keyed Tryz.prog 2:=int_keyed Tryz.underlying2
theorem aeH(k:Int)(h:kW k):(Lit.int .i64 k).wf=true:=WalkArith.wf_i64 (by unfold kW at h;omega)
theorem Ot(k:Int)(h:kW k):keyOf Tryz.prog 2 (.int .i64 k)=some (.int .i64 k):=keyOf_int_mk Tryz.underlying2 (aeH k h)
theorem ab5(p:cZ→Bool)(ls:List cZ)(l:cZ):ku p (ls++[l])=(ku p ls).put (.int .i64 l.1) (.lit (.bool (p l))):=by simp[ku]
theorem adi(p:cZ→Bool)(k:Int)(ls:List cZ)(h:∀ l∈ls,kW l.1):(ku p ls).atKey (.int .i64 k) (.lit (.bool false))= .lit (.bool (qj p ls k)):=by
 have key:∀ (ls:List cZ) (D:DataW Unit) (b:Bool),(∀ l∈ls,kW l.1)→IsMap D→D.atKey (.int .i64 k) (.lit (.bool false))= .lit (.bool b)→
   (ls.foldl (fun D l=>D.put (.int .i64 l.1) (.lit (.bool (p l)))) D).atKey (.int .i64 k) (.lit (.bool false))= .lit (.bool (ls.foldl (fun b l=>if l.1=k then p l else b) b)):=by
  intro ls
  induction ls with
  |nil=>intro D b _ _ h;exact h
  |cons l r ih=>
   intro D b h hD hb
   have hl:=h l (by simp)
   refine ih _ _ (fun x hx=>h x (List.mem_cons_of_mem _ hx)) ?_ ?_
   ·obtain⟨es,rfl⟩:=hD
    exact⟨_,rfl⟩
   ·show(D.put (.int .i64 l.1) (.lit (.bool (p l)))).atKey (.int .i64 k) (.lit (.bool false))= .lit (.bool (if l.1=k then p l else b))
    by_cases e:l.1=k
    ·rw[if_pos e, ←e]
     exact atKey_put_same hD (keyed.key (Ot _ hl)) _ _
    ·rw[if_neg e,atKey_put_other (fun h=>e (by cases h;rfl))]
     exact hb
 exact key ls _ _ h ⟨[],rfl⟩ rfl
abbrev lu(w:World)(gm n:Nat)(D:DataW Unit):Prop:=w.ownsMap Tryz.prog 2 (plainElem Tryz.prog 4) gm n D
theorem Uf{w w':World}{gm n:Nat}{D:DataW Unit}(h:lu w gm n D)(hb:w'.heap[gm]? =w.heap[gm]?):lu w' gm n D:=by
 obtain⟨es,clock,h1,h2⟩:=h
 exact⟨es,clock,hb.trans h1,h2⟩
theorem Wy:Tryz.prog.underlying 128=some (.map 2 4):=Tryz.underlying128
theorem aeX(w:World):(zeroValue 4).run Tryz.prog w= .ok (.bool false) w:=by kernel_rfl
set_option maxRecDepth 100000 in
theorem acv{w:World}{gm n:Nat}(p:cZ→Bool)(ls:List cZ)(hl:∀ l∈ls,kW l.1)(h:lu w gm n (ku p ls))(k:Int)(hk:kW k):
  (Instr.lookup 128 (.map (some gm)) (.int .i64 k) false).run Tryz.prog w= .ok (.bool (qj p ls k)) w:=by
 obtain⟨v,ps,hrun,hv⟩:=h.lookup keyed Wy (aeX w) (plainElem_bool Tryz.underlying4 false) (Ot k hk)
 rw[adi p k ls hl]at hv
 have:v= .bool (qj p ls k):=by
  unfold plainElem at hv
  rw[Tryz.underlying4]at hv
  cases v <;>simp at hv
  rw[hv.1]
 rw[hrun,this]
set_option maxHeartbeats 1000000 in
set_option maxRecDepth 100000 in
theorem drop1(W:World)(x:fV)(gb gm n:Nat)(p:cZ→Bool)(ls:List cZ)(hl:∀ l∈ls,kW l.1)(hx:kW x.1)(hg:W.heap[gb]? =some (.cells #[.map (some gm)] 128 (0,0)))(ho:lu W gm n (ku p ls)):
  Calls Tryz.prog 108 (#[.agg #[.int .i64 x.1,.int .i64 x.2.1,.int .i64 x.2.2.1,.int .i64 x.2.2.2.1]]++ #[.pointer (some ⟨gb,0,none⟩)]) W fun e W'=>e= .returned (.bool (qj p ls x.1))∧aO KN W.heap.size [] W W':=by
 have hlt:gb<W.heap.size:=(Array.getElem?_eq_some_iff.1 hg).1
 have hA:lu (W.alloc (.cells #[.int .i64 x.1,.int .i64 x.2.1,.int .i64 x.2.2.1,.int .i64 x.2.2.2.1] 73)) gm n (ku p ls):=ho.alloc _
 have hrun:=acv p ls hl hA x.1 hx
 have hgc:W.cell? ⟨gb,0,none⟩=some (.map (some gm)):=by
  unfold World.cell?
  rw[hg]
  rfl
 have hu:aO KN W.heap.size [] W (W.alloc (.cells #[.int .i64 x.1,.int .i64 x.2.1,.int .i64 x.2.2.1,.int .i64 x.2.2.2.1] 73)):=xC [] W _
 clear hg ho hA
 generalize qj p ls x.1=c at*
 simp only[List.push_toArray,List.append_toArray,List.cons_append,List.nil_append]
 go_enter Tryz.func108,Tryz.ntmps108
 go_wp2
 go_ret
 exact⟨rfl,hu⟩
theorem adz(w:World)(o1 o2:Obj):((w.alloc o1).alloc o2).heap[w.heap.size+1]? =some o2:=by
 show((w.heap.push o1).push o2)[w.heap.size+1]? =_
 have:w.heap.size+1=(w.heap.push o1).size:=by simp
 rw[this]
 exact Array.getElem?_push_size
theorem Eh(wr:World)(x:cZ)(gb gm:Nat)(hg:wr.heap[gb]? =some (.cells #[.map (some gm)] 128 (0,0))):
  (wr.alloc (.cells #[.int .i64 x.1,.int .i64 x.2.1,.int .i64 x.2.2.1] 47)).cell? ⟨gb,0,none⟩=some (.map (some gm))∧(wr.alloc (.cells #[.int .i64 x.1,.int .i64 x.2.1,.int .i64 x.2.2.1] 47)).cell? ⟨wr.heap.size,0,none⟩=some (.int .i64 x.1)∧(wr.alloc (.cells #[.int .i64 x.1,.int .i64 x.2.1,.int .i64 x.2.2.1] 47)).cell? ⟨wr.heap.size,1,none⟩=some (.int .i64 x.2.1)∧(wr.alloc (.cells #[.int .i64 x.1,.int .i64 x.2.1,.int .i64 x.2.2.1] 47)).cell? ⟨wr.heap.size,2,none⟩=some (.int .i64 x.2.2.1):=by
 have hl:gb<wr.heap.size:=(Array.getElem?_eq_some_iff.1 hg).1
 have h1:(wr.alloc (.cells #[.int .i64 x.1,.int .i64 x.2.1,.int .i64 x.2.2.1] 47)).heap[gb]? =some (.cells #[.map (some gm)] 128 (0,0)):=by
  show(wr.heap.push _)[gb]? =_
  rw[Array.getElem?_push_lt hl, ←hg,Array.getElem?_eq_getElem hl]
 have h2:(wr.alloc (.cells #[.int .i64 x.1,.int .i64 x.2.1,.int .i64 x.2.2.1] 47)).heap[wr.heap.size]? =some (.cells #[.int .i64 x.1,.int .i64 x.2.1,.int .i64 x.2.2.1] 47 (0,0)):=by
  show(wr.heap.push _)[wr.heap.size]? =_
  simp
 unfold World.cell?
 rw[h1,h2]
 exact⟨rfl,rfl,rfl,rfl⟩
theorem acG(wr w2:World)(x:cZ)(n k:Nat)(ls:List cZ)(p:cZ→Bool)(hn:n≤wr.heap.size)(hg:wr.heap[n+1]? =some (.cells #[.map (some n)] 128 (0,0)))(ho:lu wr n k (ku p (ls.take k)))(hk:k≤1048576)(hx:kW x.1)(hxk:ls[k]? =some x)
  (hb:aO KN (wr.alloc (.cells #[.int .i64 x.1,.int .i64 x.2.1,.int .i64 x.2.2.1] 47)).drew.heap.size [] (wr.alloc (.cells #[.int .i64 x.1,.int .i64 x.2.1,.int .i64 x.2.2.1] 47)).drew w2):
  w2.cell? ⟨n+1,0,none⟩=some (.map (some n))∧w2.cell? ⟨wr.heap.size,0,none⟩=some (.int .i64 x.1)∧
   ∃ w3,(Instr.mapUpdate 128 (.map (some n)) (.int .i64 x.1) (.bool (p x))).run Tryz.prog w2= .ok () w3∧aO KN n [] w2 w3∧w3.heap[n+1]? =some (.cells #[.map (some n)] 128 (0,0))∧lu w3 n (k+1) (ku p (ls.take (k+1))):=by
 have hl:n+1<wr.heap.size:=(Array.getElem?_eq_some_iff.1 hg).1
 have hz:(wr.alloc (.cells #[.int .i64 x.1,.int .i64 x.2.1,.int .i64 x.2.2.1] 47)).drew.heap.size=wr.heap.size+1:=by show(wr.heap.push _).size=_;simp
 have keep:∀ q,q<wr.heap.size→w2.heap[q]? =wr.heap[q]? :=fun q hq=>(hb.block q (by omega) (by simp)).trans (by
  show(wr.heap.push _)[q]? =_
  rw[Array.getElem?_push_lt hq,Array.getElem?_eq_getElem hq])
 have h1:=(keep (n+1) hl).trans hg
 have h2:w2.heap[wr.heap.size]? =some (.cells #[.int .i64 x.1,.int .i64 x.2.1,.int .i64 x.2.2.1] 47 (0,0)):=(hb.block _ (by omega) (by simp)).trans (by
  show(wr.heap.push _)[wr.heap.size]? =_
  simp)
 have hsz:=hb.size
 have ho2:lu w2 n k (ku p (ls.take k)):=Uf ho (keep n (by omega))
 obtain⟨w3,hrun,ho3,hgr⟩:=ho2.update keyed Wy (by unfold maxLen;omega) (Ot _ hx) (plainElem_bool Tryz.underlying4 (p x))
 refine⟨?_, ?_,w3,hrun,⟨hgr.os,hgr.tape,hgr.output,hgr.size,fun q hq _=>hgr.block q (by omega) (by simp;omega),fun h=>h.elim⟩,(hgr.block (n+1) (Array.getElem?_eq_some_iff.1 h1).1 (by simp)).trans h1, ?_⟩
 ·unfold World.cell?
  rw[h1]
  rfl
 ·unfold World.cell?
  rw[h2]
  rfl
 ·rw[List.take_add_one,hxk]
  show lu w3 n (k+1) (ku p (ls.take k++[x]))
  rw[ab5]
  exact ho3
def NJ(w w':World)(b o:Nat)(cs:List Value)(t:TypeId)(ls:List cZ)(ms:List fV)(bs5 bs6:List Nat)(p:cZ→Bool):Prop:=
 ∃ h5' h6',aO KN w.heap.size (b::(bs5++bs6)) w w'∧w'.heap[b]? =some (.cells ((cs.set (o+6) h6').set (o+5) h5').toArray t (0,0))∧
   h5'.oneCell'=true∧h6'.oneCell'=true∧eH.dV w' h5' (ms.filter fun m=> !qj p ls m.1) bs5∧iI.dV w' h6' (ls.filter fun l=> !p l) bs6
def VW(w w2:World)(b o:Nat)(cs:List Value)(t:TypeId)(h5 h6':Value)(ls:List cZ)(ms:List fV)(bs5 bs6:List Nat)(p:cZ→Bool):Prop:=
 (∃ v,w2.cell? ⟨b,o+6,none⟩=some v)∧w2.frozen? ⟨b,o+6,none⟩=false∧w2.cell? ⟨b,o+5,none⟩=some h5∧
  Calls Tryz.prog 107 #[h5,.func (.func 108) #[] #[.pointer (some ⟨w.heap.size+1,0,none⟩)]] (w2.setCell ⟨b,o+6,none⟩ h6') fun e w4=>
   ∃ a n c,e= .returned (.slice a n c)∧w4.cell? ⟨b,o+5,none⟩=some h5∧w4.frozen? ⟨b,o+5,none⟩=false∧NJ w (w4.setCell ⟨b,o+5,none⟩ (.slice a n c)) b o cs t ls ms bs5 bs6 p
theorem xH{W:World}{b:Nat}{cs:List Value}{T:TypeId}(hg:W.heap[b]? =some (.cells cs.toArray T (0,0)))(o:Nat):W.frozen? ⟨b,o,none⟩=false:=by
 unfold World.frozen?
 rw[hg]
 simp
theorem pO{W:World}{b:Nat}{cs:List Value}{T:TypeId}(hg:W.heap[b]? =some (.cells cs.toArray T (0,0)))(o:Nat)(v:Value):W.setCell ⟨b,o,none⟩ v=W.setRow b (cs.set o v).toArray:=by
 rw[setCell_eq_setRow _ _ _ _ _ _ _ hg]
 simp
theorem acF(w wr w2:World)(b o:Nat)(cs:List Value)(t:TypeId)(h5 h6':Value)(ls:List cZ)(ms:List fV)(bs5 bs6:List Nat)(p:cZ→Bool)(HU:aO KN w.heap.size [] w wr)(hbr:wr.heap[b]? =some (.cells cs.toArray t (0,0)))(c5:cs[o+5]? =some h5)(c6l:o+6<cs.length)
  (H5:eH.dV w h5 ms bs5) (HN:(b::(bs5++bs6)).Nodup) (HL:∀ x∈bs5++bs6,x<w.heap.size) (HK:∀ l∈ls,kW l.1) (HM:∀ m∈ms,kW m.1) (HG:wr.heap[w.heap.size+1]? =some (.cells #[.map (some w.heap.size)] 128 (0,0)))
  (HO:lu wr w.heap.size ls.length (ku p ls)) (hbw:b<w.heap.size) (hu2:aO KN wr.heap.size bs6 wr w2) (one6:h6'.oneCell'=true) (hR6:iI.dV w2 h6' (ls.filter fun l=> !p l) bs6):VW w w2 b o cs t h5 h6' ls ms bs5 bs6 p:=by
 have hsz:=HU.size
 have hsz2:=hu2.size
 have hgl:=(Array.getElem?_eq_some_iff.1 HG).1
 obtain⟨n1,n2⟩:=List.nodup_cons.1 HN
 have n3:=List.nodup_append.1 n2
 have b5:b∉bs5:=fun h=>n1 (List.mem_append.2 (Or.inl h))
 have b6:b∉bs6:=fun h=>n1 (List.mem_append.2 (Or.inr h))
 have hb2:w2.heap[b]? =some (.cells cs.toArray t (0,0)):=(hu2.block b (by omega) b6).trans hbr
 have hb3:(w2.setRow b (cs.set (o+6) h6').toArray).heap[b]? =some (.cells (cs.set (o+6) h6').toArray t (0,0)):=jD w2 b _ _ t hb2
 have hz3:(w2.setRow b (cs.set (o+6) h6').toArray).heap.size=w2.heap.size:=setRow_size _ _ _
 have ho3:∀ q,q≠b→(w2.setRow b (cs.set (o+6) h6').toArray).heap[q]? =w2.heap[q]? :=fun q hq=>setRow_other _ _ _ _ hq
 refine⟨⟨_,cell_of hb2 (List.getElem?_eq_getElem c6l)⟩,xH hb2 _,cell_of hb2 c5, ?_⟩
 rw[pO hb2]
 have hu3:aO KN w.heap.size (b::(bs5++bs6)) w2 (w2.setRow b (cs.set (o+6) h6').toArray):=kK _ _ _ _ _ (Or.inl (by simp))
 generalize w2.setRow b (cs.set (o+6) h6').toArray=W3 at*
 have h53:eH.dV W3 h5 ms bs5:=eH.jE H5 fun q hq=>by
  have q1:=HL q (List.mem_append.2 (Or.inl hq))
  rw[ho3 q (fun h=>b5 (h▸hq)),hu2.block q (by omega) (fun h=>n3.2.2 q hq q h rfl),HU.block q q1 (by simp)]
 have g6:∀ q,w.heap.size≤q→q∉bs6∧q∉bs5∧q≠b:=fun q hq=>⟨fun h=>by have:=HL q (List.mem_append.2 (Or.inr h));omega,fun h=>by have:=HL q (List.mem_append.2 (Or.inl h));omega,by omega⟩
 have hSays:eH.Says KN 108 #[.pointer (some ⟨w.heap.size+1,0,none⟩)] (fun m=>qj p ls m.1) ms W3.heap.size bs5 W3:=fun W x hW hx=>by
  have e1:∀ q,w.heap.size≤q→q<wr.heap.size→W.heap[q]? =wr.heap[q]? :=fun q q1 q2=>by
   obtain⟨a1,a2,a3⟩:=g6 q q1
   rw[hW.block q (by omega) a2,ho3 q a3,hu2.block q q2 a1]
  exact drop1 W x (w.heap.size+1) w.heap.size ls.length p ls HK (HM x hx) ((e1 _ (by omega) hgl).trans HG) (Uf HO (e1 _ (Nat.le_refl _) (by omega)))
 refine(eH.del (D:=KN) 108 _ _ (fun args w=>jV (by kernel_rfl) args w) h53 hSays).mono ?_
 rintro e w4 ⟨a5,n5,c5',rfl,hu4,hR5⟩
 have hsz4:=hu4.size
 have hb4:w4.heap[b]? =some (.cells (cs.set (o+6) h6').toArray t (0,0)):=(hu4.block b (by omega) b5).trans hb3
 refine⟨a5,n5,c5',rfl,cell_of hb4 (by rw[List.getElem?_set_ne (by omega)];exact c5),xH hb4 _, ?_⟩
 rw[pO hb4]
 refine⟨_,h6', ?_,jD w4 b _ _ t hb4,rfl,one6, ?_, ?_⟩
 ·have t1:aO KN w.heap.size (b::(bs5++bs6)) w wr:=HU.wide (by simp)
  have t2:aO KN w.heap.size (b::(bs5++bs6)) wr w2:=(hu2.mono' hsz).wide fun q hq=>List.mem_cons_of_mem _ (List.mem_append.2 (Or.inr hq))
  have t4:aO KN w.heap.size (b::(bs5++bs6)) W3 w4:=(hu4.mono' (by omega)).wide fun q hq=>List.mem_cons_of_mem _ (List.mem_append.2 (Or.inl hq))
  exact(((t1.trans t2).trans hu3).trans t4).trans (kK _ _ _ _ _ (Or.inl (by simp)))
 ·exact eH.jE hR5 fun q hq=>setRow_other _ _ _ _ (fun h=>b5 (h▸hq))
 ·refine iI.jE hR6 fun q hq=> ?_
  have q1:=HL q (List.mem_append.2 (Or.inr hq))
  rw[setRow_other _ _ _ _ (by rintro rfl;exact b6 hq),hu4.block q (by omega) (fun h=>n3.2.2 q h q hq rfl),ho3 q (by rintro rfl;exact b6 hq)]
set_option maxHeartbeats 4000000 in
set_option maxRecDepth 100000 in
theorem Un{w:World}(b o:Nat)(cs:List Value)(t:TypeId)(h5 h6:Value)(ls:List cZ)(ms:List fV)(bs5 bs6:List Nat)(g:Nat)(lb:Array Value)(p:cZ→Bool)(eg:∀ args w,(callFunc g args).run Tryz.prog w= .ok (.enter g args) w)
  (hb:w.heap[b]? =some (.cells cs.toArray t (0,0))) (c5:cs[o+5]? =some h5) (c6:cs[o+6]? =some h6) (hR5:eH.dV w h5 ms bs5) (hR6:iI.dV w h6 ls bs6) (hn:(b::(bs5++bs6)).Nodup) (hlt:∀ x∈bs5++bs6,x<w.heap.size)
  (hl:ls.length≤1048576) (hkl:∀ l∈ls,kW l.1) (hkm:∀ m∈ms,kW m.1) (hp:iI.Says KN g lb p ls w.heap.size bs6 w):
  Calls Tryz.prog 77 #[.pointer (some ⟨b,o,none⟩),.func (.func g) #[] lb] w fun e w'=>e= .returned (.tuple #[])∧NJ w w' b o cs t ls ms bs5 bs6 p:=by
 have mixed:Tryz.prog.follows Departure.mixedOrders=true:=by kernel_rfl
 have hmm:= @run_makeMap Tryz.prog
 have hbw:b<w.heap.size:=(Array.getElem?_eq_some_iff.1 hb).1
 obtain⟨a6,q6,rfl,hrow6⟩:=iI.MI hR6
 have k6:=cell_of hb c6
 have HB0:Aside (w.heap[b]? =some (.cells cs.toArray t (0,0))):=hb
 have HP:Aside (iI.Says KN g lb p ls w.heap.size bs6 w):=hp
 have H5:Aside (eH.dV w h5 ms bs5):=hR5
 have H6:Aside (iI.dV w (.slice a6 ls.length q6) ls bs6):=hR6
 have HR6:Aside (∀ (j:Nat) (x:cZ),ls[j]? =some x→∃ bl t sp,a6=some ⟨bl,0,none⟩∧bs6=[bl]∧Row w bl iI.eE t ls sp):=hrow6
 have HN:Aside ((b::(bs5++bs6)).Nodup):=hn
 have HL:Aside (∀ x∈bs5++bs6,x<w.heap.size):=hlt
 have HK:Aside (∀ l∈ls,kW l.1):=hkl
 have HM:Aside (∀ m∈ms,kW m.1):=hkm
 clear hp hR5 hR6 hrow6 hn hlt hkl hkm hb
 go_enter Tryz.func77,Tryz.ntmps77
 go_wp2
 have G0:Aside (aO KN w.heap.size [] w ((w.alloc (.map #[] 0)).alloc (.cells #[.map (some w.heap.size)] 128))):=(xC [] w _).trans ((xC [] _ _).mono' (by show _≤(w.heap.push _).size;simp))
 have G1:Aside (((w.alloc (.map #[] 0)).alloc (.cells #[.map (some w.heap.size)] 128)).heap[w.heap.size+1]? =some (.cells #[.map (some w.heap.size)] 128 (0,0))):=adz w _ _
 have G2:Aside (lu ((w.alloc (.map #[] 0)).alloc (.cells #[.map (some w.heap.size)] 128)) w.heap.size 0 (ku p [])):=(World.ownsMap_made w _ _ _).alloc _
 go_loopg [6,13] ls.length (fun gg _ s13 wr=>∃ k:Nat,k≤ls.length∧ls.length - k≤gg∧s13= .int .i64 k∧Aside (aO KN w.heap.size [] w wr)∧Aside (wr.heap[w.heap.size+1]? =some (.cells #[.map (some w.heap.size)] 128 (0,0)))∧Aside (lu wr w.heap.size k (ku p (ls.take k))))
 case atStart=>exact⟨0,Nat.zero_le _,by omega,rfl,G0,G1,by rw[List.take_zero];exact G2⟩
 case round=>
  obtain⟨k,hk,hgg,rfl,HU,HG,HO⟩:=hrel
  by_cases hlt:k<ls.length
  ·have hltz:(k:Int)<(ls.length:Int):=by omega
   obtain⟨x,hx⟩:∃ x,ls[k]? =some x:=⟨ls[k],List.getElem?_eq_getElem hlt⟩
   obtain⟨bl,tl,spl,rfl,hbs,hr⟩:=HR6.out k x hx
   have HX:Aside (ls[k]? =some x):=hx
   have HMM:Aside (x∈ls):=List.mem_of_getElem? hx
   have hcs:=iI.cells_at (show Row wr bl iI.eE tl ls spl from(HU.out.block bl (jW hr) (by simp)).trans hr) k x hx
   obtain⟨c0,c1,c2⟩:=hcs
   clear hx hr hbs
   have F0:(store ⟨wr.heap.size,0,none⟩ (.int .i64 x.1)).run Tryz.prog (wr.alloc (.cells #[.int .i64 0,.int .i64 0,.int .i64 0] 47))= .ok () (wr.alloc (.cells #[.int .i64 x.1,.int .i64 0,.int .i64 0] 47)):=ny Tryz.prog wr [.int .i64 0,.int .i64 0,.int .i64 0] 47 0 _ (by simp)
   have F1:(store ⟨wr.heap.size,1,none⟩ (.int .i64 x.2.1)).run Tryz.prog (wr.alloc (.cells #[.int .i64 x.1,.int .i64 0,.int .i64 0] 47))= .ok () (wr.alloc (.cells #[.int .i64 x.1,.int .i64 x.2.1,.int .i64 0] 47)):=ny Tryz.prog wr [.int .i64 x.1,.int .i64 0,.int .i64 0] 47 1 _ (by simp)
   have F2:(store ⟨wr.heap.size,2,none⟩ (.int .i64 x.2.2.1)).run Tryz.prog (wr.alloc (.cells #[.int .i64 x.1,.int .i64 x.2.1,.int .i64 0] 47))= .ok () (wr.alloc (.cells #[.int .i64 x.1,.int .i64 x.2.1,.int .i64 x.2.2.1] 47)):=ny Tryz.prog wr [.int .i64 x.1,.int .i64 x.2.1,.int .i64 0] 47 2 _ (by simp)
   have HA:Aside (aO KN w.heap.size [] w (wr.alloc (.cells #[.int .i64 x.1,.int .i64 x.2.1,.int .i64 x.2.2.1] 47)).drew):=HU.out.trans (((xC [] wr _).trans (pV _ _ _)).mono' HU.out.size)
   have hcall:=HP.out (wr.alloc (.cells #[.int .i64 x.1,.int .i64 x.2.1,.int .i64 x.2.2.1] 47)).drew x (HA.out.wide (by simp)) HMM.out
   have hgc:(wr.alloc (.cells #[.int .i64 x.1,.int .i64 x.2.1,.int .i64 x.2.2.1] 47)).cell? ⟨w.heap.size+1,0,none⟩=some (.map (some w.heap.size)):=(Eh wr x (w.heap.size+1) w.heap.size HG.out).1
   have hv0:(wr.alloc (.cells #[.int .i64 x.1,.int .i64 x.2.1,.int .i64 x.2.2.1] 47)).cell? ⟨wr.heap.size,0,none⟩=some (.int .i64 x.1):=(Eh wr x (w.heap.size+1) w.heap.size HG.out).2.1
   have hv1:(wr.alloc (.cells #[.int .i64 x.1,.int .i64 x.2.1,.int .i64 x.2.2.1] 47)).cell? ⟨wr.heap.size,1,none⟩=some (.int .i64 x.2.1):=(Eh wr x (w.heap.size+1) w.heap.size HG.out).2.2.1
   have hv2:(wr.alloc (.cells #[.int .i64 x.1,.int .i64 x.2.1,.int .i64 x.2.2.1] 47)).cell? ⟨wr.heap.size,2,none⟩=some (.int .i64 x.2.2.1):=(Eh wr x (w.heap.size+1) w.heap.size HG.out).2.2.2
   have KEEP:Aside (∀ w2,aO KN (wr.alloc (.cells #[.int .i64 x.1,.int .i64 x.2.1,.int .i64 x.2.2.1] 47)).drew.heap.size [] (wr.alloc (.cells #[.int .i64 x.1,.int .i64 x.2.1,.int .i64 x.2.2.1] 47)).drew w2→w2.cell? ⟨w.heap.size+1,0,none⟩=some (.map (some w.heap.size))∧w2.cell? ⟨wr.heap.size,0,none⟩=some (.int .i64 x.1)∧
     ∃ w3,(Instr.mapUpdate 128 (.map (some w.heap.size)) (.int .i64 x.1) (.bool (p x))).run Tryz.prog w2= .ok () w3∧aO KN w.heap.size [] w2 w3∧w3.heap[w.heap.size+1]? =some (.cells #[.map (some w.heap.size)] 128 (0,0))∧lu w3 w.heap.size (k+1) (ku p (ls.take (k+1)))):=
    fun w2 hb=>acG wr w2 x w.heap.size k ls p HU.out.size HG.out HO.out (by omega) (HK.out x HMM.out) HX.out hb
   go_wp2
   go_region_with (go_at_fn g;refine hcall.mono ?_;rintro e w2 ⟨rfl,hb⟩;obtain⟨kk1,kk2,w3,hrun,HU3,HG3,HO3⟩:=KEEP.out _ hb)
   all_goals
    have HV:Aside (aO KN w.heap.size [] w w3):=(HA.out.trans (hb.mono' HA.out.size)).trans HU3
    have HG4:Aside (w3.heap[w.heap.size+1]? =some (.cells #[.map (some w.heap.size)] 128 (0,0))):=HG3
    have HO4:Aside (lu w3 w.heap.size (k+1) (ku p (ls.take (k+1)))):=HO3
    clear hb HU3 HG3 HO3 hrun kk1 kk2 F0 F1 F2 hgc hv0 hv1 hv2 c0 c1 c2 hcall
    go_wp2
    go_roundg (ls.length - (k+1))
    case measure=>omega
    case rel=>exact⟨k+1,by omega,by omega,by go_num,HV,HG4,HO4⟩
  ·obtain rfl:k=ls.length:=by omega
   have hltz:¬ (ls.length:Int)<(ls.length:Int):=by omega
   have HO5:Aside (lu wr w.heap.size ls.length (ku p ls)):=by have:=HO.out;rw[List.take_length]at this;exact this
   have hbr:wr.heap[b]? =some (.cells cs.toArray t (0,0)):=(HU.out.block b hbw (by simp)).trans HB0.out
   have k6:=cell_of hbr c6
   have hL:=HL.out
   have hbN:=HN.out
   have H6r:iI.dV wr (.slice a6 ls.length q6) ls bs6:=iI.jE H6.out fun q hq=>HU.out.block q (hL q (List.mem_append.2 (Or.inr hq))) (by simp)
   have hcall1:=iI.del (D:=KN) g lb p eg H6r (fun W x hW hx=>HP.out W x ((HU.out.wide (by simp)).trans (hW.mono' HU.out.size)) hx)
   have REST:Aside (∀ w2 h6',h6'.oneCell'=true→aO KN wr.heap.size bs6 wr w2→iI.dV w2 h6' (ls.filter fun l=> !p l) bs6→VW w w2 b o cs t h5 h6' ls ms bs5 bs6 p):=
    fun w2 h6' q1 q2 q3=>acF w wr w2 b o cs t h5 h6' ls ms bs5 bs6 p HU.out hbr c5 (List.getElem?_eq_some_iff.1 c6).1 H5.out hbN hL HK.out HM.out HG.out HO5.out hbw q2 q1 q3
   clear hbr hL hbN H6r c5 c6
   go_wp2_with (first
    | (go_at_call 106;refine hcall1.mono ?_;rintro e w2 ⟨a',n',c',rfl,hu2,hr2⟩;obtain⟨⟨v6,k6'⟩,f6,k5,hc2⟩:=REST.out w2 (.slice a' n' c') rfl hu2 hr2;clear hr2 hu2 k6)
    | (go_at_call 107;refine hc2.mono ?_;rintro e w4 ⟨a5,n5,c5,rfl,k5',f5,hpost⟩))
   go_end0
   exact⟨rfl,hpost⟩
end Go.Rv
