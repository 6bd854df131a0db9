/- A function of the library by hand: RvHins:Lease. -/
import Derived.Test.YtjknhphmhfbghaaGreatFM07
import Derived.Deep.AppendSrc
import Derived.Lib.AppendZerosOnto
import Derived.Lib.Overlaps
import Derived.Shelf.Spec.SlicesInsert
import Derived.Deep.RegionLaw
import Derived.KernelRfl
set_option linter.unusedVariables false
set_option linter.unusedSimpArgs false
set_option linter.unusedSectionVars false
namespace Go.Rv
open Go.Proofs Go.RowKit Go.Shelf Go.Lib
attribute [local go_sem] Oper.semAt_some
namespace nK
abbrev eE:List CT:=[.int .i64,.int .i64,.int .i64]
theorem info:(Tryz.prog.info? 47).map (fun i=>(i.zero,i.size,i.bytes))=some (some (.agg #[.int .i64 0,.int .i64 0,.int .i64 0]),3,24):=by kernel_rfl
theorem und:Tryz.prog.underlying 27=some (.slice 47):=Tryz.underlying27
set_option maxHeartbeats 4000000 in
set_option maxRecDepth 100000 in
theorem shift{t t':TypeId}(w:World)(b vb cap i vc:Nat)(xs:List (ah.V eE))(y:ah.V eE)(sp ysp:List Value)(hb:vb≠b)(hr:Row w b eE t xs sp)(hv:Row w vb eE t' [y] ysp)(hi:i<xs.length)(hn:xs.length+1≤cap)(hc:cap≤9223372036854775807)(hsp:sp.length=(cap - xs.length)*3):
  Calls Tryz.prog 121 #[.slice (some ⟨b,0,none⟩) xs.length cap,.int .i64 i,.slice (some ⟨vb,0,none⟩) 1 vc] w fun e w'=>
   e= .returned (.slice (some ⟨b,0,none⟩) (xs.length+1) cap)∧∃ A,w'=w.drew.setRow b A∧A=(ai eE (xs.take i++y::xs.drop i)++sp.drop 3).toArray:=by
 obtain⟨i0,hi0,hz0,hz1,hz2⟩:=info_parts info
 obtain⟨n,hnl⟩:∃ n,n=xs.length:=⟨_,rfl⟩
 obtain⟨A0,hA0⟩:∃ A0,A0=ai eE xs++sp:=⟨_,rfl⟩
 have hal:A0.length=cap*3:=by rw[hA0,List.length_append,dJ,hsp];show xs.length*3+_=_;omega
 obtain⟨A1,hA1⟩:∃ A1:List Value,A1=A0.take ((i+1)*3)++ai eE (xs.drop i)++A0.drop ((i+1)*3+(ai eE (xs.drop i)).length):=⟨_,rfl⟩
 have hdl:(ai eE (xs.drop i)).length=(n - i)*3:=by rw[dJ,List.length_drop,hnl];rfl
 have hal1:A1.length=cap*3:=by rw[hA1];simp only[List.length_append,List.length_take,List.length_drop,hal,hdl];omega
 have hfin:=LV eE xs sp i y (by omega) (by show 3≤_;omega) A1 (by rw[hA1,hA0];rfl)
 have hsr1:∀ sl sc,(Builtin.firstCells 3 (n - i) (.slice (some ⟨b,i*3,none⟩) sl sc)).run Tryz.prog w.drew= .ok (ai eE (xs.drop i)).toArray w.drew:=fun sl sc=>
  nJ w.drew 3 (n - i) b (i*3) sl sc _ hdl fun j v hj=>by
   have:(ai eE xs)[i*3+j]? =some v:=by
    rw[←rO eE xs i (by omega),List.getElem?_drop]at hj
    exact hj
   have h2:=(List.getElem?_eq_some_iff.1 this).1
   simp only[World.cell?, World.drew,show w.heap[b]? =_ from hr]
   simp only[Option.isSome_none,Bool.false_eq_true,if_false,List.getElem?_toArray]
   rw[List.getElem?_append_left h2]
   exact this
 have hmin1:Nat.min (n+1 - i) (n - i)=n - i:=by show min (n+1 - i) (n - i)=n - i;omega
 have hcp1:∀ ty dc sc,(Builtin.copy_ #[27,27] ty #[.slice (some ⟨b,(i+1)*3,none⟩) (n - i) dc,.slice (some ⟨b,i*3,none⟩) (n+1 - i) sc]).run Tryz.prog w.drew= .ok (goInt (Nat.min (n+1 - i) (n - i))) (w.drew.setRow b A1.toArray):=fun ty dc sc=>by
  have h:=nD (P:=Tryz.prog) w.drew 27 27 ty 47 i0 b ((i+1)*3) (n - i) dc (some ⟨b,i*3,none⟩) (n+1 - i) sc _ t (ai eE (xs.drop i)) und hi0 hr (by rw[hmin1,hz1];exact hsr1 _ _) (by rw[List.size_toArray, ←hA0,hal,hdl];omega) (pW eE _)
  rw[h, ←hA0, ←hA1]
 have hr1:(w.drew.setRow b A1.toArray).heap[b]? =some (.cells A1.toArray t (0,0)):=jD w.drew b _ _ t hr
 have hsr2:∀ sc,(Builtin.firstCells 3 1 (.slice (some ⟨vb,0,none⟩) 1 sc)).run Tryz.prog (w.drew.setRow b A1.toArray)= .ok (bD eE y).toArray (w.drew.setRow b A1.toArray):=fun sc=>
  nJ _ 3 1 vb 0 1 sc _ rfl fun j v hj=>by
   have h0:(w.drew.setRow b A1.toArray).heap[vb]? =w.heap[vb]? :=setRow_other w.drew b vb _ hb
   have h2:=(List.getElem?_eq_some_iff.1 hj).1
   simp only[World.cell?, h0,show w.heap[vb]? =_ from hv]
   simp only[Option.isSome_none,Bool.false_eq_true,if_false,List.getElem?_toArray,Nat.zero_add]
   rw[kX,List.getElem?_append_left h2]
   exact hj
 have hmin2:Nat.min 1 (n+1 - i)=1:=by show min 1 (n+1 - i)=1;omega
 have hcp2:∀ ty dc,(Builtin.copy_ #[27,27] ty #[.slice (some ⟨b,i*3,none⟩) (n+1 - i) dc,.slice (some ⟨vb,0,none⟩) 1 vc]).run Tryz.prog (w.drew.setRow b A1.toArray)= .ok (goInt (Nat.min 1 (n+1 - i))) ((w.drew.setRow b A1.toArray).setRow b (ai eE (xs.take i++y::xs.drop i)++sp.drop 3).toArray):=fun ty dc=>by
  have h:=nD (P:=Tryz.prog) (w.drew.setRow b A1.toArray) 27 27 ty 47 i0 b (i*3) (n+1 - i) dc (some ⟨vb,0,none⟩) 1 vc _ t (bD eE y) und hi0 hr1 (by rw[hmin2,hz1];exact hsr2 _) (by rw[List.size_toArray,hal1,iH];show i*3+3≤_;omega) (lN eE _)
  rw[h]
  exact congrArg (fun L:List Value=>(.ok (goInt (Nat.min 1 (n+1 - i))) ((w.drew.setRow b A1.toArray).setRow b L.toArray):Result Value)) hfin
 have hov:∀ lb cb,(callFunc 143 #[.slice (some ⟨vb,0,none⟩) 1 vc,.slice (some ⟨b,(i+1)*3,none⟩) lb cb]).run Tryz.prog w= .ok (.value (.bool false)) w:=fun lb cb=>by
  rw[run_callFunc_extern Tryz.func143 (by kernel_rfl) (by kernel_rfl) (by kernel_rfl) (e:=Extern.SlicesOverlaps.overlaps #[27,27] #[4]) (by kernel_rfl),
   Lib.run_overlaps_apart w 27 4 47 und 3 (fun w=>by simp[sizeOf,typeInfo,hi0,hz1]) ⟨vb,0,none⟩ ⟨b,(i+1)*3,none⟩ 1 vc lb cb hb t' t _ _ (xE hv) (xE hr) (by rw[List.size_toArray, ←hA0,hal];omega) (ou hv _) (ou hv _)]
  rfl
 clear hsr1 hsr2 hA0 hA1 hal hal1 hdl hfin hr hr1 hv
 rw[←hnl]at hi hn hsp ⊢
 clear hnl
 have hw1:IntKind.i64.wrap ((i:Int)+1)=((i+1:Nat):Int):=by rw[IntKind.wrap_i64];omega
 have hw2:IntKind.i64.wrap ((n:Int)+1)=((n+1:Nat):Int):=by rw[IntKind.wrap_i64];omega
 have hz2:¬ ((i:Int)=(n:Int)):=by omega
 have hz3:¬ ((cap:Int)<((n+1:Nat):Int)):=by omega
 have hb2:¬ (cap=i+1):=by omega
 have hb4:¬ (cap=i):=by omega
 have hin:i≤n:=by omega
 have hb1:(0:Int)≤(i:Int)+1:=by omega
 have htn:((i:Int)+1).toNat=i+1:=by omega
 have hb3:(i:Int)≤(n:Int)+1:=by omega
 have mixed:Tryz.prog.follows Departure.mixedOrders=true:=by kernel_rfl
 go_enter Tryz.func121,Tryz.ntmps121
 go_wp2_with (simp only[hov])
 go_region_law_o (refine step_copy_runI rfl _ _ 27 27 rfl _ _ (by simp[Act.eval,Act.put]) (by simp[Act.eval,Act.put]) (hcp1 _ _ _) ?_)
 go_wp2_with (at_builtin;refine wpList_copy_runI _ rfl _ _ 27 27 rfl _ _ rfl rfl (hcp2 _ _) ?_)
 go_ret
 exact⟨rfl,_,setRow_setRow _ _ _ _,rfl⟩
def Out(D:Kn)(T:List Nat)(w w':World)(e:Ending)(L:List (ah.V eE)):Prop:=
 ∃ B cap z t,e= .returned (.slice (some ⟨B,0,none⟩) L.length cap)∧(B∈T∨w.heap.size≤B)∧aO D w.heap.size T w w'∧Row w' B eE t L z∧z.length=(cap - L.length)*3∧0<L.length∧L.length≤cap∧cap≤maxLen
theorem src{t':TypeId}(w:World)(vb vc:Nat)(y:ah.V eE)(ysp:List Value)(hv:Row w vb eE t' [y] ysp):Src Tryz.prog 3 27 (.slice (some ⟨vb,0,none⟩) 1 vc) 1 (bD eE y) w:=
 Src.ofSlice w und ⟨vb,0,none⟩ 1 vc (bD eE y) rfl (fun j u hj=>by
  rw[dU,jK hv,kX,List.getElem?_append_left (by simpa using (List.getElem?_eq_some_iff.1 hj).1),Nat.zero_add]
  exact hj) (lN eE y)
set_option maxHeartbeats 4000000 in
set_option maxRecDepth 100000 in
theorem Bc{D:Kn}{t t':TypeId}(w:World)(b vb cap vc:Nat)(xs:List (ah.V eE))(y:ah.V eE)(sp ysp:List Value)(hr:Row w b eE t xs sp)(hv:Row w vb eE t' [y] ysp)(hn:xs.length+1≤cap)(hc:cap≤9223372036854775807)(hsp:sp.length=(cap - xs.length)*3):
  Calls Tryz.prog 121 #[.slice (some ⟨b,0,none⟩) xs.length cap,.int .i64 xs.length,.slice (some ⟨vb,0,none⟩) 1 vc] w fun e w'=>Out D [b] w w' e (xs++[y]):=by
 obtain⟨i0,hi0,hz0,hz1,hz2⟩:=info_parts info
 have hl:(ai eE xs).length=xs.length*3:=dJ eE xs
 have hrun:∀ ty,(Builtin.append_ #[27,27] ty #[.slice (some ⟨b,0,none⟩) xs.length cap,.slice (some ⟨vb,0,none⟩) 1 vc]).run Tryz.prog w= .ok (.slice (some ⟨b,0,none⟩) (xs.length+1) cap) (w.setRow b (ai eE (xs++[y])++sp.drop 3).toArray):=fun ty=>by
  have hcell:∀ j,j<(bD eE y).length→0+xs.length*i0.size+j<(ai eE xs++sp).length:=fun j hj=>by
   rw[iH]at hj
   have hj:j<3:=hj
   rw[hz1,List.length_append,hl]
   omega
  rw[run_append_room_src w 27 27 ty 47 i0 und hi0 b 0 xs.length cap _ 1 (bD eE y) (by rw[hz1];exact src w vb vc y ysp hv) hn (fun j hj=>by rw[jK hr,List.getElem?_eq_getElem (hcell j hj)];rfl) (fun j hj=>ou hr _),
   Ag Tryz.prog w b _ (bD eE y) _ t hr (by rw[List.size_toArray,iH,List.length_append,hl,hz1,Nat.zero_add];show xs.length*3+3≤_;omega) (lN eE y),Nat.zero_add,hz1]
  exact congrArg (fun L:List Value=>(.ok (.slice (some ⟨b,0,none⟩) (xs.length+1) cap) (w.setRow b L.toArray):Result Value)) (LW eE xs sp y)
 have hfin:∀ w',w'=w.setRow b (ai eE (xs++[y])++sp.drop 3).toArray→Out D [b] w w' (.returned (.slice (some ⟨b,0,none⟩) (xs.length+1) cap)) (xs++[y]):=by
  rintro w' rfl
  have hlen:(xs++[y]).length=xs.length+1:=by simp
  exact⟨b,cap,sp.drop 3,t,by rw[hlen],Or.inl (by simp),kK _ _ _ _ _ (Or.inl (by simp)),kY eE _ _ hr,by rw[List.length_drop,hsp,hlen];omega,by omega,by omega,hc⟩
 clear hr hv hl
 generalize xs.length=n at*
 go_enter Tryz.func121,Tryz.ntmps121
 go_wp2_with (at_builtin;refine Lib.wpList_append_run _ rfl _ _ _ _ rfl _ _ rfl rfl _ _ (hrun _) ?_)
 go_ret
 exact hfin _ rfl
abbrev zz(n:Nat):List Value:=(Builtin.zeroCells (Value.agg #[.int .i64 0,.int .i64 0,.int .i64 0]).cells n).toList
theorem gY(n:Nat):(zz n).length=n*3:=by simp[zz,Builtin.zeroCells,Value.cells]
set_option maxHeartbeats 4000000 in
set_option maxRecDepth 100000 in
theorem rY{D:Kn}{t':TypeId}(w:World)(base:Option Addr)(T:List Nat)(vb cap vc:Nat)(xs:List (ah.V eE))(y:ah.V eE)(ysp:List Value)(hx:xs=[]∨∃ b t sp,base=some ⟨b,0,none⟩∧Row w b eE t xs sp)(hv:Row w vb eE t' [y] ysp)(hn:xs.length≤cap)(hroom:cap<xs.length+1)(hbig:xs.length≤1048576):
  Calls Tryz.prog 121 #[.slice base xs.length cap,.int .i64 xs.length,.slice (some ⟨vb,0,none⟩) 1 vc] w fun e w'=>Out D T w w' e (xs++[y]):=by
 obtain⟨i0,hi0,hz0,hz1,hz2⟩:=info_parts info
 have hl:(ai eE xs).length=xs.length*3:=dJ eE xs
 have hold:(Builtin.firstCells i0.size xs.length (.slice base xs.length cap)).run Tryz.prog w.drew= .ok (ai eE xs).toArray w.drew:=by
  rw[hz1]
  rcases hx with rfl | ⟨b,t,sp,rfl,hr⟩
  ·cases base with
   |none=>exact run_firstCells_none w.drew 3 0 0 cap
   |some a=>exact run_firstCells_some w.drew 3 0 a 0 cap [] rfl (fun j v hj=>by cases hj)
  ·exact run_firstCells_some w.drew 3 xs.length ⟨b,0,none⟩ xs.length cap _ hl fun j v hj=>by
    rw[dU]
    show w.cell? _=_
    rw[jK hr,List.getElem?_append_left (by have:=(List.getElem?_eq_some_iff.1 hj).1;omega),Nat.zero_add]
    exact hj
 have hfin:∀ w' cap',cap'=grownCap w (xs.length+1) cap 47→w'=w.drew.alloc (.cells ((ai eE xs++bD eE y).toArray++Builtin.zeroCells (Value.agg #[.int .i64 0,.int .i64 0,.int .i64 0]).cells (cap' - (xs.length+1))) 47)→Out D T w w' (.returned (.slice (some ⟨w.heap.size,0,none⟩) (xs.length+1) cap')) (xs++[y]):=by
  rintro w' cap' hcap rfl
  have hlen:(xs++[y]).length=xs.length+1:=by simp
  have g1:=grownCap_ge w (xs.length+1) cap 47
  have g2:=grownCap_le_maxLen w (xs.length+1) cap 47 (by unfold maxLen;omega)
  rw[←hcap]at g1 g2
  have hu:aO D w.heap.size T w (w.drew.alloc (.cells ((ai eE xs++bD eE y).toArray++Builtin.zeroCells (Value.agg #[.int .i64 0,.int .i64 0,.int .i64 0]).cells (cap' - (xs.length+1))) 47)):=
   aO.of_below (Below.alloc (Below.drew (Below.refl _ w)) (Nat.le_refl _) _) T
  refine⟨w.heap.size,cap',zz (cap' - (xs.length+1)),47,by rw[hlen],Or.inr (Nat.le_refl _),hu, ?_,by rw[gY,hlen],by omega,by omega,g2⟩
  have h:(ai eE xs++bD eE y).toArray++Builtin.zeroCells (Value.agg #[.int .i64 0,.int .i64 0,.int .i64 0]).cells (cap' - (xs.length+1))=(ai eE (xs++[y])++zz (cap' - (xs.length+1))).toArray:=by rw[jg,kX];simp[zz]
  rw[h]
  exact NY w.drew eE 47 (xs++[y]) (zz (cap' - (xs.length+1)))
 have hrun:∀ ty,(Builtin.append_ #[27,27] ty #[.slice base xs.length cap,.slice (some ⟨vb,0,none⟩) 1 vc]).run Tryz.prog w=_:=fun ty=>
  run_append_grow_src w 27 27 ty 47 i0 _ und hi0 hz0 base xs.length cap _ hold _ 1 (bD eE y) (by rw[hz1];exact src w vb vc y ysp hv) hroom (by omega) (by rw[hz2];exact growslice_fits hroom (by omega))
 have hb0:base=none→xs.length=0:=by
  rintro rfl
  rcases hx with rfl | ⟨b,t,sp,h,hr⟩
  ·rfl
  ·cases h
 have hb1:∀ a,base=some a→∃ b o,a=⟨b,o,none⟩∨xs.length=0:=by
  rintro a rfl
  rcases hx with rfl | ⟨b,t,sp,h,hr⟩
  ·exact⟨0,0,Or.inr rfl⟩
  ·exact⟨b,0,Or.inl (Option.some.inj h)⟩
 clear hx hv hl hold
 generalize ai eE xs=cs at*
 generalize xs.length=n at*
 go_enter Tryz.func121,Tryz.ntmps121
 cases base with
 |none=>
  have h0:=hb0 rfl
  subst h0
  go_wp2_with (at_builtin;refine Lib.wpList_append_run _ rfl _ _ _ _ rfl _ _ rfl rfl _ _ (hrun _) ?_)
  all_goals (go_ret;exact hfin _ _ rfl rfl)
 |some a=>
  obtain⟨ab,ao,asp⟩:=a
  go_wp2_with (at_builtin;refine Lib.wpList_append_run _ rfl _ _ _ _ rfl _ _ rfl rfl _ _ (hrun _) ?_)
  all_goals (go_ret;exact hfin _ _ rfl rfl)
set_option maxHeartbeats 4000000 in
set_option maxRecDepth 100000 in
theorem grow{D:Kn}{t t':TypeId}(w:World)(T:List Nat)(b vb i vc:Nat)(xs:List (ah.V eE))(y:ah.V eE)(sp ysp:List Value)(hr:Row w b eE t xs sp)(hv:Row w vb eE t' [y] ysp)(hi:i<xs.length)(hbig:xs.length≤1048576):
  Calls Tryz.prog 121 #[.slice (some ⟨b,0,none⟩) xs.length xs.length,.int .i64 i,.slice (some ⟨vb,0,none⟩) 1 vc] w fun e w'=>Out D T w w' e (xs.take i++y::xs.drop i):=by
 obtain⟨i0,hi0,hz0,hz1,hz2⟩:=info_parts info
 obtain⟨n,hnl⟩:∃ n,n=xs.length:=⟨_,rfl⟩
 rw[←hnl]at hi hbig ⊢
 have hl:(ai eE xs).length=n*3:=by rw[dJ,hnl];rfl
 have hdl:(ai eE (xs.drop i)).length=(n - i)*3:=by rw[dJ,List.length_drop,hnl];rfl
 have htl:(ai eE (xs.take i)).length=i*3:=by rw[dJ,List.length_take, ←hnl,Nat.min_eq_left (by omega)];rfl
 have hbw:=jW hr
 have hvw:=jW hv
 have hold:(Builtin.firstCells i0.size i (.slice (some ⟨b,0,none⟩) i n)).run Tryz.prog w.drew= .ok (ai eE (xs.take i)).toArray w.drew:=by
  rw[hz1]
  exact run_firstCells_some w.drew 3 i ⟨b,0,none⟩ i n _ htl fun j v hj=>by
   rw[dU]
   show w.cell? _=_
   have h2:=(List.getElem?_eq_some_iff.1 hj).1
   rw[←Au eE xs i (by omega),List.getElem?_take_of_lt (by show j<i*3;omega)]at hj
   rw[jK hr,List.getElem?_append_left (by rw[hl];omega),Nat.zero_add]
   exact hj
 obtain⟨G,hG⟩:∃ G,G=grownCap w (n+1) n 47:=⟨_,rfl⟩
 have g1:=grownCap_ge w (n+1) n 47
 have g2:=grownCap_le_maxLen w (n+1) n 47 (by unfold maxLen;omega)
 rw[←hG]at g1 g2
 obtain⟨ROW,hROW⟩:∃ ROW,ROW=ai eE (xs.take i)++zz (n+1 - i)++zz (G - (n+1)):=⟨_,rfl⟩
 have hRl:ROW.length=G*3:=by rw[hROW];simp only[List.length_append,gY,htl];omega
 have hrz:∀ ty,(Builtin.append_ #[27,3] ty #[.slice (some ⟨b,0,none⟩) i n,.int .i64 ((n:Int)+1 - (i:Int))]).run Tryz.prog w= .ok (.slice (some ⟨w.heap.size,0,none⟩) (n+1) G) (w.drew.alloc (.cells ROW.toArray 47)):=fun ty=>by
  have h:=Lib.run_append_grow_zeros w 27 3 ty 47 i0 _ .i64 .i64 und Tryz.underlying3 hi0 hz0 (some ⟨b,0,none⟩) i n _ hold (n+1 - i) (by omega) (by omega) (by omega) (by omega) (by rw[hz2];omega) (by rw[hz2];exact growslice_fits (by omega) (by omega))
  rw[show i+(n+1 - i)=n+1 by omega]at h
  rw[show(n:Int)+1 - (i:Int)=((n+1 - i:Nat):Int) by omega,h, ←hG,hROW]
  congr 2
  simp[zz]
 obtain⟨W1,hW1⟩:∃ W1,W1=w.drew.alloc (.cells ROW.toArray 47):=⟨_,rfl⟩
 rw[←hW1]at hrz
 have hN:W1.heap[w.heap.size]? =some (.cells ROW.toArray 47 (0,0)):=by rw[hW1];show(w.heap.push _)[w.heap.size]? =_;simp
 have hO:∀ k,k<w.heap.size→W1.heap[k]? =w.heap[k]? :=fun k hk=>by rw[hW1];show(w.heap.push _)[k]? =_;rw[Array.getElem?_push_lt hk,Array.getElem?_eq_getElem hk]
 obtain⟨A1,hA1⟩:∃ A1:List Value,A1=ROW.take (i*3)++bD eE y++ROW.drop (i*3+(bD eE y).length):=⟨_,rfl⟩
 have hyl:(bD eE y).length=3:=iH eE y
 have hR0:ROW.take (i*3)=ai eE (xs.take i):=by rw[hROW,List.append_assoc,List.take_left' htl]
 have hal1:A1.length=G*3:=by rw[hA1];simp only[List.length_append,List.length_take,List.length_drop,hRl,hyl];omega
 have hA2:A1.take ((i+1)*3)=ai eE (xs.take i)++bD eE y:=by
  rw[hA1,hR0,List.take_left']
  simp only[List.length_append,htl,hyl]
  omega
 obtain⟨Z,hZ⟩:∃ Z,Z=A1.drop ((i+1)*3+(ai eE (xs.drop i)).length):=⟨_,rfl⟩
 have hZl:Z.length=(G - (n+1))*3:=by rw[hZ,List.length_drop,hal1,hdl];omega
 have hfinL:A1.take ((i+1)*3)++ai eE (xs.drop i)++A1.drop ((i+1)*3+(ai eE (xs.drop i)).length)=ai eE (xs.take i++y::xs.drop i)++Z:=by
  rw[hA2, ←hZ,jg,show y::xs.drop i=[y]++xs.drop i from rfl,jg,kX]
  simp[List.append_assoc]
 have hmA:Nat.min 1 (n+1 - i)=1:=by show min 1 (n+1 - i)=1;omega
 have hcpA:∀ (W:World),W.heap=W1.heap→∀ ty dc,(Builtin.copy_ #[27,27] ty #[.slice (some ⟨w.heap.size,i*3,none⟩) (n+1 - i) dc,.slice (some ⟨vb,0,none⟩) 1 vc]).run Tryz.prog W= .ok (goInt (Nat.min 1 (n+1 - i))) (W.setRow w.heap.size A1.toArray):=fun W hW ty dc=>by
  have h:=nD (P:=Tryz.prog) W 27 27 ty 47 i0 w.heap.size (i*3) (n+1 - i) dc (some ⟨vb,0,none⟩) 1 vc _ 47 (bD eE y) und hi0 (by rw[hW];exact hN)
   (by
    rw[hmA,hz1]
    exact nJ W 3 1 vb 0 1 vc _ hyl fun j v hj=>by
     simp only[World.cell?, hW,hO vb hvw,show w.heap[vb]? =_ from hv]
     simp only[Option.isSome_none,Bool.false_eq_true,if_false,List.getElem?_toArray,Nat.zero_add]
     rw[kX,List.getElem?_append_left (List.getElem?_eq_some_iff.1 hj).1]
     exact hj) (by rw[List.size_toArray,hRl,hyl];omega) (lN eE y)
  rw[h,hA1]
 have hmB:Nat.min (n - i) (n - i)=n - i:=by show min (n - i) (n - i)=_;omega
 have hcpB:∀ (W:World),W.heap=(W1.setRow w.heap.size A1.toArray).heap→∀ ty dc sc,(Builtin.copy_ #[27,27] ty #[.slice (some ⟨w.heap.size,(i+1)*3,none⟩) (n - i) dc,.slice (some ⟨b,i*3,none⟩) (n - i) sc]).run Tryz.prog W= .ok (goInt (Nat.min (n - i) (n - i))) (W.setRow w.heap.size (ai eE (xs.take i++y::xs.drop i)++Z).toArray):=fun W hW ty dc sc=>by
  have hN1:=jD W1 w.heap.size _ A1.toArray _ hN
  have h:=nD (P:=Tryz.prog) W 27 27 ty 47 i0 w.heap.size ((i+1)*3) (n - i) dc (some ⟨b,i*3,none⟩) (n - i) sc _ 47 (ai eE (xs.drop i)) und hi0 (by rw[hW];exact hN1)
   (by
    rw[hmB,hz1]
    exact nJ W 3 (n - i) b (i*3) (n - i) sc _ hdl fun j v hj=>by
     have:(ai eE xs)[i*3+j]? =some v:=by
      rw[←rO eE xs i (by omega),List.getElem?_drop]at hj
      exact hj
     simp only[World.cell?, hW,setRow_other W1 w.heap.size b _ (by omega),hO b hbw,show w.heap[b]? =_ from hr]
     simp only[Option.isSome_none,Bool.false_eq_true,if_false,List.getElem?_toArray]
     rw[List.getElem?_append_left (List.getElem?_eq_some_iff.1 this).1]
     exact this) (by rw[List.size_toArray,hal1,hdl];omega) (pW eE _)
  rw[h]
  exact congrArg (fun L:List Value=>(.ok (goInt (Nat.min (n - i) (n - i))) (W.setRow w.heap.size L.toArray):Result Value)) hfinL
 have hfin:∀ w',w'.heap=(W1.setRow w.heap.size (ai eE (xs.take i++y::xs.drop i)++Z).toArray).heap→w'.os=w.os→w'.tape=w.tape→w'.output=w.output→w.drawn≤w'.drawn→Out D T w w' (.returned (.slice (some ⟨w.heap.size,0,none⟩) (n+1) G)) (xs.take i++y::xs.drop i):=by
  intro w' h1 h2 h3 h4 h5
  have hlen:(xs.take i++y::xs.drop i).length=n+1:=by simp only[List.length_append,List.length_take,List.length_cons,List.length_drop];omega
  have hs1:W1.heap.size=w.heap.size+1:=by rw[hW1];show(w.heap.push _).size=_;simp
  refine⟨w.heap.size,G,Z,47,by rw[hlen],Or.inr (Nat.le_refl _),⟨h2,h3,h4, ?_, ?_,fun _=>h5⟩, ?_,by rw[hZl,hlen],by omega,by omega,g2⟩
  ·rw[h1,setRow_size,hs1];omega
  ·intro k hk _
   rw[h1,setRow_other W1 _ k _ (by omega),hO k hk]
  ·have:=kY eE (xs.take i++y::xs.drop i) Z hN
   unfold Row at this ⊢
   rw[h1]
   exact this
 have hE0:W1.heap=(w.drew.alloc (.cells ROW.toArray 47)).heap:=by rw[hW1]
 subst hW1
 clear hr hv hl hdl htl hold hROW hRl hN hO hA1 hyl hR0 hal1 hA2 hZ hZl hfinL hnl hE0 hG
 have hz2:¬ ((i:Int)=(n:Int)):=by omega
 have hz3:(n:Int)<(n:Int)+1:=by omega
 have hG63:G≤9223372036854775807:=g2
 have hGi:¬ (G=i):=by omega
 have hGim:¬ (G=i+1):=by omega
 have hci:¬ (n=i):=by omega
 have hw1:IntKind.i64.wrap ((i:Int)+1)=(i:Int)+1:=by rw[IntKind.wrap_i64];omega
 have hw2:IntKind.i64.wrap ((n:Int)+1)=(n:Int)+1:=by rw[IntKind.wrap_i64];omega
 have hw3:IntKind.i64.wrap ((n:Int)+1 - (i:Int))=(n:Int)+1 - (i:Int):=by rw[IntKind.wrap_i64];omega
 have hb1:(0:Int)≤(i:Int)+1:=by omega
 have hin:i≤n:=by omega
 have htn:((i:Int)+1).toNat=i+1:=by omega
 have hb3:(i:Int)≤(n:Int):=by omega
 have hb5:(i:Int)≤(n:Int)+1:=by omega
 have mixed:Tryz.prog.follows Departure.mixedOrders=true:=by kernel_rfl
 have hE1:((w.alloc (.cells ROW.toArray 47)).drew).heap=(w.drew.alloc (.cells ROW.toArray 47)).heap:=rfl
 have hE2:(((w.alloc (.cells ROW.toArray 47)).drew.setRow w.heap.size A1.toArray).drew).heap=((w.drew.alloc (.cells ROW.toArray 47)).setRow w.heap.size A1.toArray).heap:=rfl
 go_enter Tryz.func121,Tryz.ntmps121
 go_wp2_with (first
  | (at_builtin;refine Lib.wpList_append_run _ rfl _ _ _ _ rfl _ _ rfl rfl _ _ (hrz _) ?_)
  | (at_builtin;refine wpList_copy_runI _ rfl _ _ 27 27 rfl _ _ rfl rfl (hcpA _ hE1 _ _) ?_))
 go_region_law_o (refine step_copy_runI rfl _ _ 27 27 rfl (.slice (some ⟨w.heap.size,(i+1)*3,none⟩) (n - i) (G - (i+1))) (.slice (some ⟨b,i*3,none⟩) (n - i) (n - i)) (by simp[Act.eval,Act.put]) (by simp[Act.eval,Act.put]) (hcpB _ hE2 3 (G - (i+1)) (n - i)) ?_)
 go_wp2
 go_ret
 have hh:=congrArg World.heap (setRow_setRow (w.drew.alloc (.cells ROW.toArray 47)) w.heap.size A1.toArray (ai eE (xs.take i++y::xs.drop i)++Z).toArray)
 exact hfin _ (by exact hh) rfl rfl rfl (by simp;omega)
theorem calls{D:Kn}{w:World}{i:Int}{xs:List (ah.V eE)}{y:ah.V eE}{h hv:Value}{T:List Nat}{vb:Nat}(hT:(xs=[]∧ig h∧T=[])∨∃ b,T=[b]∧OwnAt w h b eE xs)(hy:OwnAt w hv vb eE [y])(hne:vb∉T)(hi0:0≤i)(hi1:i≤xs.length)(hbig:xs.length≤1048576):
  Calls Tryz.prog 121 #[h,.int .i64 i,hv] w fun e w'=>Out D T w w' e (xs.take i.toNat++y::xs.drop i.toNat):=by
 obtain⟨vc,ysp,t',rfl,_,_,hvc,hv,_⟩:=ownRow (e:=eE) rfl hy
 obtain⟨k,rfl⟩:=Int.eq_ofNat_of_zero_le hi0
 rw[Int.toNat_natCast]
 rcases hT with ⟨rfl,⟨a,rfl⟩,rfl⟩ | ⟨b,rfl,ho⟩
 ·obtain rfl:k=0:=by simpa using hi1
  exact rY w a [] vb 0 vc [] y ysp (Or.inl rfl) hv (Nat.le_refl _) (by simp) (by simp)
 ·obtain⟨cap,sp,t,rfl,h0,h1,h2,hr,h3⟩:=ownRow (e:=eE) rfl ho
  have h2':cap≤9223372036854775807:=h2
  have h3':sp.length=(cap - xs.length)*3:=h3
  by_cases hk:k=xs.length
  ·subst hk
   rw[List.take_length,List.drop_length]
   by_cases hc:xs.length+1≤cap
   ·exact Bc w b vb cap vc xs y sp ysp hr hv hc h2' h3'
   ·exact rY w (some ⟨b,0,none⟩) [b] vb cap vc xs y ysp (Or.inr ⟨b,t,sp,rfl,hr⟩) hv h1 (by omega) hbig
  ·by_cases hc:xs.length+1≤cap
   ·refine(shift w b vb cap k vc xs y sp ysp (by simpa using hne) hr hv (by omega) hc h2' h3').mono ?_
    rintro e w' ⟨rfl,A,rfl,rfl⟩
    have hlen:(xs.take k++y::xs.drop k).length=xs.length+1:=by simp only[List.length_append,List.length_take,List.length_cons,List.length_drop];omega
    exact⟨b,cap,sp.drop 3,t,by rw[hlen],Or.inl (by simp),(pV _ _ _).trans (kK _ _ _ _ _ (Or.inl (by simp))),kY eE _ _ (w:=w.drew) hr,by rw[List.length_drop,h3',hlen];omega,by omega,by omega,h2⟩
   ·obtain rfl:cap=xs.length:=by omega
    exact grow w [b] b vb k vc xs y sp ysp hr hv (by omega) hbig
end nK
abbrev YE:List bF:=[.c false [.sl nK.eE],.v false [CT.int .i64],.c false [.sl nK.eE]]
abbrev Yz:List (Bool×List CT):=[(false,[.sl nK.eE])]
def Cm:List (Int×Int×Int×Unit)×Int×List (Int×Int×Int×Unit)×Unit→Option (List (Int×Int×Int×Unit)×Unit):=fun x=>
 match x.2.2.1 with
 | [y]=>if 0≤x.2.1∧x.2.1≤x.1.length∧x.1.length≤1048576 then some (x.1.take x.2.1.toNat++y::x.1.drop x.2.1.toNat,())else none
 |_=>none
theorem YH{Dr:Kn}:aF Dr Tryz.prog 121 ⟨YE,Yz,Cm,[]⟩:=by
 refine⟨fun args w=>jV (by kernel_rfl) args w,fun w T J (x:List (ah.V nK.eE)×Int×List (ah.V nK.eE)×Unit) (y:List (ah.V nK.eE)×Unit) vals avals hJ hT htab hargs (hF:Cm x=some y) hp=> ?_⟩
 obtain⟨xs,i,ys,⟨⟩⟩:=x
 obtain⟨v1,t1,b1,b1',rfl,rfl,⟨us1,ho1,hg1⟩,v2,t2,b2,b2',rfl,rfl,⟨us2,hc2,hg2,rfl⟩,v3,t3,b3,b3',rfl,rfl,⟨us3,ho3,hg3⟩,rfl,rfl⟩:=hargs
 have hp':_=avals:=hp
 subst hp'
 have g1:us1=[v1]:=hg1
 have g2:us2=[v2]:=hg2
 have g3:us3=[v3]:=hg3
 subst g1 g2 g3
 obtain⟨u2,t2',q1,q2,q3⟩:=hc2
 obtain⟨rfl,rfl⟩:=List.cons.inj q1
 have q2':v2= .int .i64 i:=q2
 subst q2'
 rcases ys with _ | ⟨y0,_ | ⟨y1,ys⟩⟩
 ·cases hF
 ·have hF':(if 0≤i∧i≤xs.length∧xs.length≤1048576 then some ((xs.take i.toNat++y0::xs.drop i.toNat,()):List (ah.V nK.eE)×Unit)else none)=some y:=hF
  split at hF'
  ·rename_i hcond
   obtain⟨hi0,hi1,hi2⟩:=hcond
   have hy:=Option.some.inj hF'
   subst hy
   obtain⟨h,t,e1,k1⟩:=ho1
   obtain⟨rfl,rfl⟩:=List.cons.inj e1
   obtain⟨h3,t3,e3,k3⟩:=ho3
   obtain⟨rfl,rfl⟩:=List.cons.inj e3
   have K3:∃ vb,b3=[vb]∧OwnAt w v3 vb nK.eE [y0]:=by
    rcases k3 with ⟨h,_⟩ | ⟨vb,bt,rfl,h,_,rfl⟩
    ·cases h
    ·exact⟨vb,rfl,h⟩
   obtain⟨vb,rfl,hvb⟩:=K3
   have K1:(xs=[]∧ig v1∧b1=[])∨∃ b,b1=[b]∧OwnAt w v1 b nK.eE xs:=by
    rcases k1 with ⟨h,h',_,rfl⟩ | ⟨b,bt,rfl,h,_,rfl⟩
    ·exact Or.inl ⟨h,h',rfl⟩
    ·exact Or.inr ⟨b,rfl,h⟩
   have hne:vb∉b1:=by
    intro hm
    have:=List.nodup_append.1 hT
    exact this.2.2 vb hm vb (by simp) rfl
   refine(nK.calls (D:=Dr) K1 hvb hne hi0 hi1 hi2).mono ?_
   rintro e w' ⟨B,cap,z,t,rfl,hB,hu,hr,hz,h0,h1,h2⟩
   have hown:=qP (e:=nK.eE) rfl hr (by omega) h1 h2 hz
   refine⟨⟨hu.os,hu.tape,hu.output,hu.size,fun k hk hn=>hu.block k hk (fun hm=>hn (List.mem_append.2 (Or.inl hm))),hu.drawn⟩,[_],[_],[B],[],rfl,⟨_,[],rfl,Or.inr ⟨B,[],rfl,hown,rfl,rfl⟩⟩,⟨[_],[],_,[],rfl,rfl,rfl,rfl,rfl,rfl⟩,⟨_,_,[],[],rfl,rfl,rfl,⟨_,_,[],[],rfl,rfl,rfl,_,_,[],[],rfl,rfl,rfl,rfl,rfl⟩⟩,by simp, ?_⟩
   intro b hb
   obtain rfl:b=B:=by simpa using hb
   rcases hB with hB |hB
   ·exact Or.inl (List.mem_append.2 (Or.inl hB))
   ·exact Or.inr hB
  ·cases hF'
 ·cases hF
end Go.Rv
