/- A function of the library by hand: RvHdf:Member. -/
import Derived.Test.YtjknhphmhfbghaaGreatFM12
import Derived.Deep.AppendSrc
import Derived.Lib.AppendZerosOnto
import Derived.Lib.Overlaps
import Derived.Shelf.Spec.SlicesInsert
import Derived.Deep.RegionLaw
import Derived.Deep.LoopGhost
import Derived.Sort.WalkB12
import Derived.KernelRfl
set_option linter.unusedVariables false
set_option linter.unusedSimpArgs false
set_option linter.unusedSectionVars false
namespace Go.Rv
open Go.Proofs Go.RowKit Go.Shelf Go.Lib
attribute [local go_sem] Oper.semAt_some
namespace eH
abbrev eE:List CT:=[.int .i64,.int .i64,.int .i64,.int .i64]
theorem info:(Tryz.prog.info? 73).map (fun i=>(i.zero,i.size,i.bytes))=some (some (.agg #[.int .i64 0,.int .i64 0,.int .i64 0,.int .i64 0]),4,32):=by kernel_rfl
theorem und:Tryz.prog.underlying 24=some (.slice 73):=Tryz.underlying24
abbrev zz(n:Nat):List Value:=(Builtin.zeroCells (Value.agg #[.int .i64 0,.int .i64 0,.int .i64 0,.int .i64 0]).cells n).toList
theorem gY(n:Nat):(zz n).length=n*4:=by simp[zz,Builtin.zeroCells,Value.cells]
theorem vH(n:Nat):∀ v∈zz n,v.oneCell'=true:=by
 intro v hv
 simp only[zz,Builtin.zeroCells,Array.toList_map,List.mem_map]at hv
 obtain⟨i,_,rfl⟩:=hv
 have h:∀ j,j<4→((Value.agg #[.int .i64 0,.int .i64 0,.int .i64 0,.int .i64 0]).cells[j]!).oneCell'=true:=by
  intro j hj
  rcases j with _ |_ |_ |_ |j <;>first |rfl |omega
 exact h _ (Nat.mod_lt _ (by decide))
abbrev ag(x:ah.V eE):Value:= .agg #[.int .i64 x.1,.int .i64 x.2.1,.int .i64 x.2.2.1,.int .i64 x.2.2.2.1]
def Says(D:Kn)(g:Nat)(lb:Array Value)(p:ah.V eE→Bool)(xs:List (ah.V eE))(B:Nat)(T:List Nat)(w:World):Prop:=
 ∀ W x,aO D B T w W→x∈xs→Calls Tryz.prog g (#[.agg #[.int .i64 x.1,.int .i64 x.2.1,.int .i64 x.2.2.1,.int .i64 x.2.2.2.1]]++lb) W fun e W'=>e= .returned (.bool (p x))∧aO D W.heap.size [] W W'
theorem cells_at{w:World}{b:Nat}{t:TypeId}{xs:List (ah.V eE)}{sp:List Value}(hr:Row w b eE t xs sp)(j:Nat)(x:ah.V eE)(hx:xs[j]? =some x):
  w.cell? ⟨b,j*4,none⟩=some (.int .i64 x.1)∧w.cell? ⟨b,j*4+1,none⟩=some (.int .i64 x.2.1)∧w.cell? ⟨b,j*4+2,none⟩=some (.int .i64 x.2.2.1)∧w.cell? ⟨b,j*4+3,none⟩=some (.int .i64 x.2.2.2.1):=by
 have h:=fun q v (hv:(bD eE x)[q]? =some v)=>by
  have h1:=AQ eE xs j x hx q v hv
  have h2:=(jK hr (j*4+q)).trans ((List.getElem?_append_left (List.getElem?_eq_some_iff.1 h1).1).trans h1)
  exact h2
 exact⟨h 0 _ rfl,h 1 _ rfl,h 2 _ rfl,h 3 _ rfl⟩
set_option maxHeartbeats 4000000 in
set_option maxRecDepth 100000 in
theorem index{D:Kn}{w:World}(g:Nat)(lb:Array Value)(p:ah.V eE→Bool)(eg:∀ args w,(callFunc g args).run Tryz.prog w= .ok (.enter g args) w)(B:Nat)(T:List Nat)(b cap:Nat){t:TypeId}(xs:List (ah.V eE))(sp:List Value)(hr:Row w b eE t xs sp)
  (hbig:xs.length≤9223372036854775807) (hp:Says D g lb p xs w.heap.size [] w):
  Calls Tryz.prog 124 #[.slice (some ⟨b,0,none⟩) xs.length cap,.func (.func g) #[] lb] w fun e w'=>
   aO D w.heap.size [] w w'∧((e= .returned (.int .i64 (-1))∧∀ x∈xs,p x=false)∨∃ k:Nat,∃ x,e= .returned (.int .i64 k)∧xs[k]? =some x∧p x=true∧(∀ y∈xs.take k,p y=false)∧((k:Int)== -1)=false∧k<xs.length∧IntKind.i64.wrap ((k:Int)+1)=(k:Int)+1):=by
 have HR:Aside (Row w b eE t xs sp):=hr
 have hbw:=jW hr
 have HP:Aside (Says D g lb p xs w.heap.size [] w):=hp
 clear hp hr
 have mixed:Tryz.prog.follows Departure.mixedOrders=true:=by kernel_rfl
 go_enter Tryz.func124,Tryz.ntmps124
 go_wp2
 go_loopg [5,8] xs.length (fun gg _ s8 wr=>∃ k:Nat,k≤xs.length∧xs.length - k≤gg∧s8= .int .i64 k∧Aside (aO D w.heap.size [] w wr)∧Aside (∀ x∈xs.take k,p x=false))
 case atStart=>exact⟨0,Nat.zero_le _,by omega,rfl,aO.refl _ _ _,(show Aside _ from fun x hx=>by simp at hx)⟩
 case round=>
  obtain⟨k,hk,hg,rfl,HB,A⟩:=hrel
  by_cases hlt:k<xs.length
  ·have hltz:(k:Int)<(xs.length:Int):=by omega
   obtain⟨x,hx⟩:∃ x,xs[k]? =some x:=⟨xs[k],List.getElem?_eq_getElem hlt⟩
   have hr1:Row wr b eE t xs sp:=(HB.out.block b hbw (by simp)).trans HR.out
   have HX:Aside (xs[k]? =some x):=hx
   have HM:Aside (x∈xs):=List.mem_of_getElem? hx
   have hcs:=cells_at hr1 k x hx
   clear hr1 hx
   obtain⟨c0,c1,c2,c3⟩:=hcs
   cases hq:p x with
   |true=>
    have HQ:Aside (p x=true):=hq
    have hcall:=HP.out wr x HB.out HM.out
    rw[hq]at hcall
    clear hq
    go_wp2_with (go_at_fn g;refine hcall.mono ?_;rintro e w' ⟨rfl,hb⟩)
    go_ret
    exact⟨HB.out.trans (hb.mono' HB.out.size),Or.inr ⟨k,x,rfl,HX.out,HQ.out,A.out,beq_eq_false_iff_ne.2 (by omega),hlt,by rw[IntKind.wrap_i64];omega⟩⟩
   |false=>
    have HQ:Aside (p x=false):=hq
    have hcall:=HP.out wr x HB.out HM.out
    rw[hq]at hcall
    clear hq
    go_wp2_with (go_at_fn g;refine hcall.mono ?_;rintro e w' ⟨rfl,hb⟩)
    go_roundg (xs.length - (k+1))
    case measure=>omega
    case rel=>
     refine⟨k+1,by omega,by omega,by go_num,HB.out.trans (hb.mono' HB.out.size),(show Aside _ from fun y hy=> ?_)⟩
     rw[List.take_add_one,HX.out]at hy
     rcases List.mem_append.1 hy with hy |hy
     ·exact A.out y hy
     ·rw[List.mem_singleton.1 hy];exact HQ.out
  ·have hltz:¬ (k:Int)<(xs.length:Int):=by omega
   have:k=xs.length:=by omega
   subst this
   go_wp2
   go_ret
   exact⟨HB.out,Or.inl ⟨rfl,by simpa using A.out⟩⟩
theorem filter_all{α:Type}(p:α→Bool)(l:List α)(h:∀ x∈l,p x=false):(l.filter fun x=> !p x)=l:=List.filter_eq_self.2 fun x hx=>by rw[h x hx];rfl
structure Inv (p:ah.V eE→Bool) (xs ys:List (ah.V eE)) (i j:Nat):Prop where
 len:ys.length=xs.length
 lt:i<j
 le:j≤xs.length
 low:ys.take i=(xs.take j).filter fun x=> !p x
 high:ys.drop j=xs.drop j
theorem inv_start(p:ah.V eE→Bool)(xs:List (ah.V eE))(k:Nat)(x:ah.V eE)(hx:xs[k]? =some x)(ht:p x=true)(ha:∀ y∈xs.take k,p y=false):Inv p xs xs k (k+1):=by
 have hk:=(List.getElem?_eq_some_iff.1 hx).1
 refine⟨rfl,by omega,by omega, ?_,rfl⟩
 rw[List.take_add_one,hx,List.filter_append,filter_all p _ ha]
 simp[ht]
theorem NE{p:ah.V eE→Bool}{xs ys:List (ah.V eE)}{i j:Nat}(h:Inv p xs ys i j)(x:ah.V eE)(hx:xs[j]? =some x)(ht:p x=true):Inv p xs ys i (j+1):=by
 have hk:=(List.getElem?_eq_some_iff.1 hx).1
 refine⟨h.len,by have:=h.lt;omega,by omega, ?_, ?_⟩
 ·rw[List.take_add_one,hx,List.filter_append,h.low]
  simp[ht]
 ·rw[←List.drop_drop,h.high,List.drop_drop]
theorem NF{p:ah.V eE→Bool}{xs ys:List (ah.V eE)}{i j:Nat}(h:Inv p xs ys i j)(x:ah.V eE)(hx:xs[j]? =some x)(ht:p x=false):Inv p xs (ys.set i x) (i+1) (j+1):=by
 have hk:=(List.getElem?_eq_some_iff.1 hx).1
 have h1:=h.lt
 have h2:=h.len
 refine⟨by rw[List.length_set,h.len],by omega,by omega, ?_, ?_⟩
 ·have e1:xs.take (j+1)=xs.take j++[x]:=by rw[List.take_add_one,hx];rfl
  have e2:(ys.set i x).take (i+1)=ys.take i++[x]:=by
   rw[List.take_add_one,List.getElem?_set,if_pos rfl,if_pos (by omega),List.take_set,List.set_eq_of_length_le (by rw[List.length_take];omega)]
   rfl
  rw[e1,e2,List.filter_append, ←h.low]
  simp[ht]
 ·rw[List.drop_set,if_pos (by omega), ←List.drop_drop,h.high,List.drop_drop]
theorem Md{D:Kn}{t:TypeId}(wr w2:World)(b i:Nat)(ys:List (ah.V eE))(x:ah.V eE)(sp:List Value)(hb:aO D ((wr.alloc (.cells #[.int .i64 x.1,.int .i64 x.2.1,.int .i64 x.2.2.1,.int .i64 x.2.2.2.1] 73))).heap.size [] (wr.alloc (.cells #[.int .i64 x.1,.int .i64 x.2.1,.int .i64 x.2.2.1,.int .i64 x.2.2.2.1] 73)) w2)(hy:Row wr b eE t ys sp)(hi:i<ys.length):
  w2.cell? ⟨wr.heap.size,0,none⟩=some (.int .i64 x.1)∧w2.cell? ⟨wr.heap.size,1,none⟩=some (.int .i64 x.2.1)∧w2.cell? ⟨wr.heap.size,2,none⟩=some (.int .i64 x.2.2.1)∧w2.cell? ⟨wr.heap.size,3,none⟩=some (.int .i64 x.2.2.2.1)∧(store ⟨b,i*4,none⟩ (.int .i64 x.1)).run Tryz.prog w2= .ok () (w2.setRow b ((ai eE ys++sp).set (i*4) (.int .i64 x.1)).toArray)∧(store ⟨b,i*4+1,none⟩ (.int .i64 x.2.1)).run Tryz.prog (w2.setRow b ((ai eE ys++sp).set (i*4) (.int .i64 x.1)).toArray)= .ok () (w2.setRow b (((ai eE ys++sp).set (i*4) (.int .i64 x.1)).set (i*4+1) (.int .i64 x.2.1)).toArray)∧(store ⟨b,i*4+2,none⟩ (.int .i64 x.2.2.1)).run Tryz.prog (w2.setRow b (((ai eE ys++sp).set (i*4) (.int .i64 x.1)).set (i*4+1) (.int .i64 x.2.1)).toArray)= .ok () (w2.setRow b ((((ai eE ys++sp).set (i*4) (.int .i64 x.1)).set (i*4+1) (.int .i64 x.2.1)).set (i*4+2) (.int .i64 x.2.2.1)).toArray)∧(store ⟨b,i*4+3,none⟩ (.int .i64 x.2.2.2.1)).run Tryz.prog (w2.setRow b ((((ai eE ys++sp).set (i*4) (.int .i64 x.1)).set (i*4+1) (.int .i64 x.2.1)).set (i*4+2) (.int .i64 x.2.2.1)).toArray)= .ok () (w2.setRow b (((((ai eE ys++sp).set (i*4) (.int .i64 x.1)).set (i*4+1) (.int .i64 x.2.1)).set (i*4+2) (.int .i64 x.2.2.1)).set (i*4+3) (.int .i64 x.2.2.2.1)).toArray):=by
 have h0:=jW hy
 have hz:((wr.alloc (.cells #[.int .i64 x.1,.int .i64 x.2.1,.int .i64 x.2.2.1,.int .i64 x.2.2.2.1] 73))).heap.size=wr.heap.size+1:=by show(wr.heap.push _).size=_;simp
 have hg:w2.heap[b]? =some (.cells (ai eE ys++sp).toArray t (0,0)):=by
  have h1:((wr.alloc (.cells #[.int .i64 x.1,.int .i64 x.2.1,.int .i64 x.2.2.1,.int .i64 x.2.2.2.1] 73))).heap[b]? =wr.heap[b]? :=by
   show(wr.heap.push _)[b]? =_
   rw[Array.getElem?_push_lt h0,Array.getElem?_eq_getElem h0]
  exact(hb.block b (by omega) (by simp)).trans (h1.trans hy)
 have hn:w2.heap[wr.heap.size]? =some (.cells (bD eE x).toArray 73 (0,0)):=by
  refine(hb.block _ (by omega) (by simp)).trans ?_
  show(wr.heap.push _)[wr.heap.size]? =_
  simp
  rfl
 have kc:∀ (j:Nat) (v:Value),(bD eE x)[j]? =some v→w2.cell? ⟨wr.heap.size,j,none⟩=some v:=fun j v hv=>by
  unfold World.cell?
  rw[hn]
  simpa using hv
 have hl:(ai eE ys++sp).length=ys.length*4+sp.length:=by rw[List.length_append,dJ];rfl
 exact⟨kc 0 _ rfl,kc 1 _ rfl,kc 2 _ rfl,kc 3 _ rfl,KX Tryz.prog w2 b _ t _ _ hg (by rw[hl];omega),zZ Tryz.prog w2 b _ _ t _ _ hg (by simp only[List.length_set,hl];omega),zZ Tryz.prog w2 b _ _ t _ _ hg (by simp only[List.length_set,hl];omega),zZ Tryz.prog w2 b _ _ t _ _ hg (by simp only[List.length_set,hl];omega)⟩
theorem NC{D:Kn}{t:TypeId}(wr w2:World)(b i:Nat)(ys:List (ah.V eE))(x:ah.V eE)(sp:List Value)(hb:aO D ((wr.alloc (.cells #[.int .i64 x.1,.int .i64 x.2.1,.int .i64 x.2.2.1,.int .i64 x.2.2.2.1] 73))).heap.size [] (wr.alloc (.cells #[.int .i64 x.1,.int .i64 x.2.1,.int .i64 x.2.2.1,.int .i64 x.2.2.2.1] 73)) w2)(hy:Row wr b eE t ys sp)(hi:i<ys.length):
  aO D w2.heap.size [b] w2 (w2.setRow b ((((((ai eE ys++sp).set (i*4) (.int .i64 x.1)).set (i*4+1) (.int .i64 x.2.1)).set (i*4+2) (.int .i64 x.2.2.1)).set (i*4+3) (.int .i64 x.2.2.2.1))).toArray)∧Row (w2.setRow b ((((((ai eE ys++sp).set (i*4) (.int .i64 x.1)).set (i*4+1) (.int .i64 x.2.1)).set (i*4+2) (.int .i64 x.2.2.1)).set (i*4+3) (.int .i64 x.2.2.2.1))).toArray) b eE t (ys.set i x) sp:=by
 have h0:=jW hy
 have hz:((wr.alloc (.cells #[.int .i64 x.1,.int .i64 x.2.1,.int .i64 x.2.2.1,.int .i64 x.2.2.2.1] 73))).heap.size=wr.heap.size+1:=by show(wr.heap.push _).size=_;simp
 have hg:w2.heap[b]? =some (.cells (ai eE ys++sp).toArray t (0,0)):=by
  have h1:((wr.alloc (.cells #[.int .i64 x.1,.int .i64 x.2.1,.int .i64 x.2.2.1,.int .i64 x.2.2.2.1] 73))).heap[b]? =wr.heap[b]? :=by
   show(wr.heap.push _)[b]? =_
   rw[Array.getElem?_push_lt h0,Array.getElem?_eq_getElem h0]
  exact(hb.block b (by omega) (by simp)).trans (h1.trans hy)
 refine⟨kK _ _ _ _ _ (Or.inl (by simp)), ?_⟩
 have hl:(ai eE ys++sp).length=ys.length*4+sp.length:=by rw[List.length_append,dJ];rfl
 have e:(((((ai eE ys++sp).set (i*4) (.int .i64 x.1)).set (i*4+1) (.int .i64 x.2.1)).set (i*4+2) (.int .i64 x.2.2.1)).set (i*4+3) (.int .i64 x.2.2.2.1))=ai eE (ys.set i x)++sp:=by
  have h1:=Nj (bD eE x) (ai eE ys++sp) (i*4) (by rw[iH,hl];show _+4≤_;omega)
  exact h1.trans (TS eE ys sp i x hi)
 rw[e]
 exact kY eE _ _ hg
set_option maxHeartbeats 4000000 in
set_option maxRecDepth 100000 in
theorem calls{D:Kn}{w:World}(g:Nat)(lb:Array Value)(p:ah.V eE→Bool)(eg:∀ args w,(callFunc g args).run Tryz.prog w= .ok (.enter g args) w)(b cap:Nat){t:TypeId}(xs:List (ah.V eE))(sp:List Value)(hr:Row w b eE t xs sp)
  (h1:xs.length≤cap) (hm:cap≤9223372036854775807) (hsp:sp.length=(cap - xs.length)*4) (hp:Says D g lb p xs w.heap.size [b] w):
  Calls Tryz.prog 107 #[.slice (some ⟨b,0,none⟩) xs.length cap,.func (.func g) #[] lb] w fun e w'=>
   ∃ m z,e= .returned (.slice (some ⟨b,0,none⟩) m cap)∧m=(xs.filter fun x=> !p x).length∧aO D w.heap.size [b] w w'∧Row w' b eE t (xs.filter fun x=> !p x) z∧z.length=(cap - m)*4:=by
 obtain⟨i0,hi0,hz0,hz1,hz2⟩:=info_parts info
 have mixed:Tryz.prog.follows Departure.mixedOrders=true:=by kernel_rfl
 have e6:∀ args w,(callFunc 124 args).run Tryz.prog w= .ok (.enter 124 args) w:=fun args w=>jV (by kernel_rfl) args w
 have hbw:=jW hr
 have hIF:=index (D:=D) g lb p eg w.heap.size [] b cap xs sp hr (by omega) (fun W x hW hx=>hp W x (hW.wide (by simp)) hx)
 have HR:Aside (Row w b eE t xs sp):=hr
 have HP:Aside (Says D g lb p xs w.heap.size [b] w):=hp
 clear hr hp
 go_enter Tryz.func107,Tryz.ntmps107
 go_wp2_with (go_at_fn 124;refine hIF.mono ?_;rintro e w' ⟨hu0,(⟨rfl,hall⟩ | ⟨k0,x0,rfl,hx0,ht0,hall,hne1,hk0,hw0⟩)⟩)
 ·go_ret
  refine⟨xs.length,sp,rfl, ?_,hu0.wide (by simp), ?_,hsp⟩
  ·rw[filter_all p xs hall]
  ·rw[filter_all p xs hall]
   exact(hu0.block b hbw (by simp)).trans HR.out
 ·have HI:Aside (Inv p xs xs k0 (k0+1)):=inv_start p xs k0 x0 hx0 ht0 hall
  have HU0:Aside (aO D w.heap.size [] w w'):=hu0
  clear hx0 ht0 hall hu0 hIF
  go_loopg [5,6,7] xs.length (fun gg s5 s6 _ wr=>∃ (i j:Nat) (ys:List (ah.V eE)),s5= .int .i64 i∧s6= .int .i64 j∧j≤xs.length∧xs.length - j≤gg∧Aside (aO D w.heap.size [b] w wr)∧Aside (Row wr b eE t ys sp)∧Aside (Inv p xs ys i j))
  case atStart=>exact⟨k0,k0+1,xs,rfl,by go_num,by omega,by omega,(show Aside _ from HU0.out.wide (by simp)),(show Aside _ from(HU0.out.block b hbw (by simp)).trans HR.out),HI⟩
  case round=>
   obtain⟨i,j,ys,rfl,rfl,hjd,hgg,HB,HY,I2⟩:=hrel
   have hij:=I2.out.lt
   by_cases hlt:j<xs.length
   ·have hltz:(j:Int)<(xs.length:Int):=by omega
    obtain⟨x,hx⟩:∃ x,xs[j]? =some x:=⟨xs[j],List.getElem?_eq_getElem hlt⟩
    have hyx:ys[j]? =some x:=by
     have h:=congrArg (fun l:List (ah.V eE)=>l[0]?) I2.out.high
     simp only[List.getElem?_drop,Nat.add_zero]at h
     rw[h,hx]
    have HX:Aside (xs[j]? =some x):=hx
    have HM:Aside (x∈xs):=List.mem_of_getElem? hx
    have hcs:=cells_at HY.out j x hyx
    clear hx hyx
    obtain⟨c0,c1,c2,c3⟩:=hcs
    have F0:=fun a0=>ny Tryz.prog wr [.int .i64 0,.int .i64 0,.int .i64 0,.int .i64 0] 73 0 a0 (by decide)
    have F0:(store ⟨wr.heap.size,0,none⟩ (.int .i64 x.1)).run Tryz.prog (wr.alloc (.cells #[.int .i64 0,.int .i64 0,.int .i64 0,.int .i64 0] 73))= .ok () (wr.alloc (.cells #[.int .i64 x.1,.int .i64 0,.int .i64 0,.int .i64 0] 73)):=ny Tryz.prog wr [.int .i64 0,.int .i64 0,.int .i64 0,.int .i64 0] 73 0 _ (by simp)
    have F1:(store ⟨wr.heap.size,1,none⟩ (.int .i64 x.2.1)).run Tryz.prog (wr.alloc (.cells #[.int .i64 x.1,.int .i64 0,.int .i64 0,.int .i64 0] 73))= .ok () (wr.alloc (.cells #[.int .i64 x.1,.int .i64 x.2.1,.int .i64 0,.int .i64 0] 73)):=ny Tryz.prog wr [.int .i64 x.1,.int .i64 0,.int .i64 0,.int .i64 0] 73 1 _ (by simp)
    have F2:(store ⟨wr.heap.size,2,none⟩ (.int .i64 x.2.2.1)).run Tryz.prog (wr.alloc (.cells #[.int .i64 x.1,.int .i64 x.2.1,.int .i64 0,.int .i64 0] 73))= .ok () (wr.alloc (.cells #[.int .i64 x.1,.int .i64 x.2.1,.int .i64 x.2.2.1,.int .i64 0] 73)):=ny Tryz.prog wr [.int .i64 x.1,.int .i64 x.2.1,.int .i64 0,.int .i64 0] 73 2 _ (by simp)
    have F3:(store ⟨wr.heap.size,3,none⟩ (.int .i64 x.2.2.2.1)).run Tryz.prog (wr.alloc (.cells #[.int .i64 x.1,.int .i64 x.2.1,.int .i64 x.2.2.1,.int .i64 0] 73))= .ok () (wr.alloc (.cells #[.int .i64 x.1,.int .i64 x.2.1,.int .i64 x.2.2.1,.int .i64 x.2.2.2.1] 73)):=ny Tryz.prog wr [.int .i64 x.1,.int .i64 x.2.1,.int .i64 x.2.2.1,.int .i64 0] 73 3 _ (by simp)
    have hw1:IntKind.i64.wrap ((j:Int)+1)=((j+1:Nat):Int):=by rw[IntKind.wrap_i64];omega
    have hw2:IntKind.i64.wrap ((i:Int)+1)=((i+1:Nat):Int):=by rw[IntKind.wrap_i64];omega
    have HA:Aside (aO D w.heap.size [b] w (wr.alloc (.cells #[.int .i64 x.1,.int .i64 x.2.1,.int .i64 x.2.2.1,.int .i64 x.2.2.2.1] 73))):=HB.out.trans ((aO.of_below (Below.alloc (Below.refl _ wr) (Nat.le_refl _) _) [b]).mono' HB.out.size)
    have KEEP:Aside (∀ w2,aO D ((wr.alloc (.cells #[.int .i64 x.1,.int .i64 x.2.1,.int .i64 x.2.2.1,.int .i64 x.2.2.2.1] 73))).heap.size [] (wr.alloc (.cells #[.int .i64 x.1,.int .i64 x.2.1,.int .i64 x.2.2.1,.int .i64 x.2.2.2.1] 73)) w2→w2.cell? ⟨wr.heap.size,0,none⟩=some (.int .i64 x.1)∧w2.cell? ⟨wr.heap.size,1,none⟩=some (.int .i64 x.2.1)∧w2.cell? ⟨wr.heap.size,2,none⟩=some (.int .i64 x.2.2.1)∧w2.cell? ⟨wr.heap.size,3,none⟩=some (.int .i64 x.2.2.2.1)∧(store ⟨b,i*4,none⟩ (.int .i64 x.1)).run Tryz.prog w2= .ok () (w2.setRow b ((ai eE ys++sp).set (i*4) (.int .i64 x.1)).toArray)∧(store ⟨b,i*4+1,none⟩ (.int .i64 x.2.1)).run Tryz.prog (w2.setRow b ((ai eE ys++sp).set (i*4) (.int .i64 x.1)).toArray)= .ok () (w2.setRow b (((ai eE ys++sp).set (i*4) (.int .i64 x.1)).set (i*4+1) (.int .i64 x.2.1)).toArray)∧(store ⟨b,i*4+2,none⟩ (.int .i64 x.2.2.1)).run Tryz.prog (w2.setRow b (((ai eE ys++sp).set (i*4) (.int .i64 x.1)).set (i*4+1) (.int .i64 x.2.1)).toArray)= .ok () (w2.setRow b ((((ai eE ys++sp).set (i*4) (.int .i64 x.1)).set (i*4+1) (.int .i64 x.2.1)).set (i*4+2) (.int .i64 x.2.2.1)).toArray)∧(store ⟨b,i*4+3,none⟩ (.int .i64 x.2.2.2.1)).run Tryz.prog (w2.setRow b ((((ai eE ys++sp).set (i*4) (.int .i64 x.1)).set (i*4+1) (.int .i64 x.2.1)).set (i*4+2) (.int .i64 x.2.2.1)).toArray)= .ok () (w2.setRow b (((((ai eE ys++sp).set (i*4) (.int .i64 x.1)).set (i*4+1) (.int .i64 x.2.1)).set (i*4+2) (.int .i64 x.2.2.1)).set (i*4+3) (.int .i64 x.2.2.2.1)).toArray)):=fun w2 hb=>Md wr w2 b i ys x sp hb HY.out (by have:=I2.out.len;omega)
    cases hq:p x with
    |false=>
     have HQ:Aside (p x=false):=hq
     have hcall:=HP.out _ x HA.out HM.out
     rw[hq]at hcall
     clear hq
     go_wp2_with (go_at_fn g;refine hcall.mono ?_;rintro e w2 ⟨rfl,hb⟩;obtain⟨v0,v1,v2,v3,s0,s1,s2,s3⟩:=KEEP.out _ hb)
     go_roundg (xs.length - (j+1))
     case measure=>omega
     case rel=>
      have hl:=I2.out.len
      obtain⟨k1,k2⟩:=NC wr w2 b i ys x sp hb HY.out (by omega)
      exact⟨i+1,j+1,ys.set i x,by go_num,by go_num,by omega,Nat.le_refl _,(show Aside _ from(HA.out.trans ((hb.wide (by simp)).mono' HA.out.size)).trans (k1.mono' (Nat.le_trans HA.out.size hb.size))),(show Aside _ from k2),(show Aside _ from NF I2.out x HX.out HQ.out)⟩
    |true=>
     have HQ:Aside (p x=true):=hq
     have hcall:=HP.out _ x HA.out HM.out
     rw[hq]at hcall
     clear hq
     go_wp2_with (go_at_fn g;refine hcall.mono ?_;rintro e w2 ⟨rfl,hb⟩)
     go_roundg (xs.length - (j+1))
     case measure=>omega
     case rel=>
      have hrow:Row w2 b eE t ys sp:=by
       have h0:=jW HY.out
       have h1:((wr.alloc (.cells #[.int .i64 x.1,.int .i64 x.2.1,.int .i64 x.2.2.1,.int .i64 x.2.2.2.1] 73))).heap[b]? =wr.heap[b]? :=by
        show(wr.heap.push _)[b]? =_
        rw[Array.getElem?_push_lt h0,Array.getElem?_eq_getElem h0]
       exact(hb.block b (by show b<(wr.heap.push _).size;simp;omega) (by simp)).trans (h1.trans HY.out)
      exact⟨i,j+1,ys,rfl,by go_num,by omega,Nat.le_refl _,(show Aside _ from HA.out.trans ((hb.wide (by simp)).mono' HA.out.size)),(show Aside _ from hrow),(show Aside _ from NE I2.out x HX.out HQ.out)⟩
   ·obtain rfl:j=xs.length:=by omega
    have hltz:¬ (xs.length:Int)<(xs.length:Int):=by omega
    have hl:=I2.out.len
    have hg:wr.heap[b]? =some (.cells (ai eE ys++sp).toArray t (0,0)):=HY.out
    have hcl:∀ ty c,(Builtin.clear_ #[24] ty #[.slice (some ⟨b,i*4,none⟩) (xs.length - i) c]).run Tryz.prog wr= .ok (.tuple #[]) (wr.setRow b (ai eE (xs.filter fun x=> !p x)++(zz (xs.length - i)++sp)).toArray):=fun ty c=>by
     have hyl:(ai eE ys).length=xs.length*4:=by rw[dJ,hl];rfl
     have h:=DZ (P:=Tryz.prog) wr 24 ty 73 _ i0 b (i*4) (xs.length - i) c _ t (zz (xs.length - i)) und hi0 hz0 (by omega) rfl hg (by rw[List.size_toArray,List.length_append,hyl,gY];omega) (vH _)
     rw[h]
     have e1:(ai eE ys++sp).take (i*4)=ai eE (xs.filter fun x=> !p x):=by
      rw[List.take_append_of_le_length (by rw[hyl];omega)]
      have h2:=I2.out.low
      rw[List.take_length]at h2
      rw[←h2]
      exact Au eE ys i (by omega)
     have e2:(ai eE ys++sp).drop (i*4+(zz (xs.length - i)).length)=sp:=by
      rw[List.drop_append,List.drop_of_length_le (by rw[hyl,gY];omega),List.nil_append,hyl,gY]
      rw[show i*4+(xs.length - i)*4 - xs.length*4=0 by omega]
      rfl
     show(.ok (.tuple #[]) (wr.setRow b (List.take (i*4) (ai eE ys++sp)++zz (xs.length - i)++List.drop (i*4+(zz (xs.length - i)).length) (ai eE ys++sp)).toArray):Result Value)=_
     rw[e1,e2,List.append_assoc]
    have hfin:i=(xs.filter fun x=> !p x).length:=by
     have h2:=congrArg List.length I2.out.low
     rw[List.take_length,List.length_take]at h2
     omega
    have HF:Aside (i=(xs.filter fun x=> !p x).length):=hfin
    have hci:¬ (cap=i):=by omega
    have hic:i≤cap:=by omega
    have hin:i≤xs.length:=by omega
    have hfinal:∀ w',w'=wr.setRow b (ai eE (xs.filter fun x=> !p x)++(zz (xs.length - i)++sp)).toArray→∃ m z,Ending.returned (.slice (some ⟨b,0,none⟩) i cap)= .returned (.slice (some ⟨b,0,none⟩) m cap)∧m=(xs.filter fun x=> !p x).length∧aO D w.heap.size [b] w w'∧Row w' b eE t (xs.filter fun x=> !p x) z∧z.length=(cap - m)*4:=by
     rintro w' rfl
     refine⟨i,zz (xs.length - i)++sp,rfl,HF.out,HB.out.trans (kK _ _ _ _ _ (Or.inl (by simp))),kY eE _ _ hg, ?_⟩
     rw[List.length_append,gY,hsp]
     omega
    clear hg hfin
    go_wp2
    go_ret
    obtain⟨m,z,q1,q2,q3,q4,q5⟩:=hfinal _ rfl
    exact⟨m,q1,q2,q3,z,q4,q5⟩
set_option maxHeartbeats 1000000 in
theorem Ov(a:Option Addr)(c:Nat)(fv:Value)(w:World):
  Calls Tryz.prog 124 #[.slice a 0 c,fv] w fun e w'=>e= .returned (.int .i64 (-1))∧w'=w:=by
 go_enter Tryz.func124,Tryz.ntmps124
 go_wp2
 go_loopg [5,8] 0 (fun _ _ s8 wr=>s8= .int .i64 0∧wr=w)
 case atStart=>exact⟨rfl,rfl⟩
 case round=>
  obtain⟨rfl,rfl⟩:=hrel
  go_wp2
  go_ret
  exact⟨rfl,rfl⟩
set_option maxHeartbeats 1000000 in
theorem OA(a:Option Addr)(c:Nat)(fv:Value)(w:World):
  Calls Tryz.prog 107 #[.slice a 0 c,fv] w fun e w'=>e= .returned (.slice a 0 c)∧w'=w:=by
 have e6:∀ args w,(callFunc 124 args).run Tryz.prog w= .ok (.enter 124 args) w:=fun args w=>jV (by kernel_rfl) args w
 have hi:=Ov a c fv w
 go_enter Tryz.func107,Tryz.ntmps107
 go_wp2_with (go_at_fn 124;refine hi.mono ?_;rintro e w' ⟨rfl,rfl⟩)
 go_ret
 exact⟨rfl,rfl⟩
def dV(w:World)(h:Value)(xs:List (ah.V eE))(bs:List Nat):Prop:=(xs=[]∧ig h∧bs=[])∨∃ b,bs=[b]∧OwnAt w h b eE xs
theorem del{D:Kn}{w:World}{h:Value}{xs:List (ah.V eE)}{bs:List Nat}(g:Nat)(lb:Array Value)(p:ah.V eE→Bool)(eg:∀ args w,(callFunc g args).run Tryz.prog w= .ok (.enter g args) w)(hR:dV w h xs bs)(hp:Says D g lb p xs w.heap.size bs w):
  Calls Tryz.prog 107 #[h,.func (.func g) #[] lb] w fun e w'=>∃ a n c,e= .returned (.slice a n c)∧aO D w.heap.size bs w w'∧dV w' (.slice a n c) (xs.filter fun x=> !p x) bs:=by
 rcases hR with ⟨rfl,⟨a,rfl⟩,rfl⟩ | ⟨b,rfl,ho⟩
 ·exact(OA a 0 _ w).mono fun e w' ⟨h1,h2⟩=>⟨_,_,_,h1,by rw[h2];exact aO.refl _ _ _,Or.inl ⟨rfl,⟨a,rfl⟩,rfl⟩⟩
 ·obtain⟨cap,sp,t,rfl,h0,h1,h2,hr,h3⟩:=ownRow (e:=eE) rfl ho
  refine(calls (D:=D) g lb p eg b cap xs sp hr h1 h2 h3 hp).mono ?_
  rintro e w' ⟨m,z,rfl,rfl,hu,hr',hz⟩
  refine⟨_,_,_,rfl,hu,Or.inr ⟨b,rfl,qP (e:=eE) rfl hr' h0 ?_ h2 hz⟩⟩
  exact Nat.le_trans (List.length_filter_le _ _) h1
theorem jE{w w':World}{h:Value}{xs:List (ah.V eE)}{bs:List Nat}(hR:dV w h xs bs)(hb:∀ b∈bs,w'.heap[b]? =w.heap[b]?):dV w' h xs bs:=by
 rcases hR with hR | ⟨b,rfl,ho⟩
 ·exact Or.inl hR
 ·obtain⟨cap,sp,t,rfl,h0,h1,h2,hr,h3⟩:=ownRow (e:=eE) rfl ho
  exact Or.inr ⟨b,rfl,qP (e:=eE) rfl ((hb b (by simp)).trans hr) h0 h1 h2 h3⟩
theorem MI{w:World}{h:Value}{xs:List (ah.V eE)}{bs:List Nat}(hR:dV w h xs bs):
  ∃ a c,h= .slice a xs.length c∧∀ (j:Nat) (x:ah.V eE),xs[j]? =some x→∃ bl t sp,a=some ⟨bl,0,none⟩∧bs=[bl]∧Row w bl eE t xs sp:=by
 rcases hR with ⟨rfl,⟨a,rfl⟩,rfl⟩ | ⟨b,rfl,ho⟩
 ·exact⟨a,0,rfl,fun j x hx=>by simp at hx⟩
 ·obtain⟨cap,sp,t,rfl,h0,h1,h2,hr,h3⟩:=ownRow (e:=eE) rfl ho
  exact⟨_,cap,rfl,fun j x hx=>⟨b,t,sp,rfl,rfl,hr⟩⟩
end eH
end Go.Rv
