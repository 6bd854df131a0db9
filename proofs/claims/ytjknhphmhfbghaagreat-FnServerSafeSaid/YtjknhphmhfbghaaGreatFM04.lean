/- A function of the library by hand: RvHsort. -/
import Derived.Test.YtjknhphmhfbghaaGreatFM03
import Derived.Shelf.SlSortCmp.NoneTotal
set_option linter.unusedVariables false
set_option linter.unusedSimpArgs false
set_option linter.unusedSectionVars false
namespace Go.Rv
open Go.Proofs Go.RowKit Go.Shelf Go.Sort
theorem Vt(a b:aP):oO a b<0↔(a.2.1*b.2.2.1<b.2.1*a.2.2.1∨(a.2.1*b.2.2.1=b.2.1*a.2.2.1∧a.1<b.1)):=by
 unfold oO sg
 generalize a.2.1*b.2.2.1=p
 generalize b.2.1*a.2.2.1=q
 grind
theorem TD{a1 a2 b1 b2 c1 c2:Int}(ha:0<a2)(hb:0<b2)(hc:0<c2)(h1:a1*b2≤b1*a2)(h2:b1*c2≤c1*b2):a1*c2≤c1*a2∧((a1*b2<b1*a2∨b1*c2<c1*b2)→a1*c2<c1*a2):=by
 have p1:a1*b2*c2≤b1*a2*c2:=Int.mul_le_mul_of_nonneg_right h1 (by omega)
 have p2:b1*c2*a2≤c1*b2*a2:=Int.mul_le_mul_of_nonneg_right h2 (by omega)
 have e1:a1*b2*c2=a1*c2*b2:=by grind
 have e2:b1*a2*c2=b1*c2*a2:=by grind
 have e3:c1*b2*a2=c1*a2*b2:=by grind
 refine⟨Int.le_of_mul_le_mul_right (by omega:a1*c2*b2≤c1*a2*b2) hb,fun h=>Int.lt_of_mul_lt_mul_right (?_:a1*c2*b2<c1*a2*b2) (by omega)⟩
 rcases h with h |h
 ·have:a1*b2*c2<b1*a2*c2:=Int.mul_lt_mul_of_pos_right h hc
  omega
 ·have:b1*c2*a2<c1*b2*a2:=Int.mul_lt_mul_of_pos_right h ha
  omega
def iQ(a b:aP):Bool:=decide (oO a b<0)
theorem xX(a b:aP):iQ a b=true↔(a.2.1*b.2.2.1<b.2.1*a.2.2.1∨(a.2.1*b.2.2.1=b.2.1*a.2.2.1∧a.1<b.1)):=by
 unfold iQ;rw[decide_eq_true_iff];exact Vt a b
theorem Aq(a b:aP):iQ a b=false↔(b.2.1*a.2.2.1<a.2.1*b.2.2.1∨(a.2.1*b.2.2.1=b.2.1*a.2.2.1∧b.1≤a.1)):=by
 rw[←Bool.not_eq_true,xX]
 generalize a.2.1*b.2.2.1=p
 generalize b.2.1*a.2.2.1=q
 omega
theorem acs{a b c:aP}(ha:kM a)(hb:kM b)(hc:kM c)(h1:iQ a b=true)(h2:iQ b c=true):iQ a c=true:=by
 rw[xX]at*
 obtain⟨_,_,a3,_⟩:=ha
 obtain⟨_,_,b3,_⟩:=hb
 obtain⟨_,_,c3,_⟩:=hc
 have:=TD (a1:=a.2.1) (b1:=b.2.1) (c1:=c.2.1) (by omega:0<a.2.2.1) (by omega:0<b.2.2.1) (by omega:0<c.2.2.1) (by omega) (by omega)
 omega
theorem Ug{a b c:aP}(ha:kM a)(hb:kM b)(hc:kM c)(h1:iQ a b=false)(h2:iQ b c=false):iQ a c=false:=by
 rw[Aq]at*
 obtain⟨_,_,a3,_⟩:=ha
 obtain⟨_,_,b3,_⟩:=hb
 obtain⟨_,_,c3,_⟩:=hc
 have:=TD (a1:=c.2.1) (b1:=b.2.1) (c1:=a.2.1) (by omega:0<c.2.2.1) (by omega:0<b.2.2.1) (by omega:0<a.2.2.1) (by omega) (by omega)
 omega
def iK(xs:List aP):Prop:=(∀ a∈xs,kM a)∧xs.Pairwise (fun a b=>a.1≠b.1)∧xs.length≤1048576
def dh(xs:List aP):List aP:=xs.mergeSort fun a b=> !iQ b a
open Classical in
noncomputable def uQ:List aP×Unit→Option (List aP×Unit):=fun x=>if iK x.1 then some (dh x.1,())else none
theorem VT(xs:List aP)(h:iK xs):uQ (xs,())=some (dh xs,()):=if_pos h
theorem WN{xs:List aP}(h:xs.Pairwise (fun a b=>a.1≠b.1)){a b:aP}(ha:a∈xs)(hb:b∈xs)(he:a.1=b.1):a=b:=by
 induction xs with
 |nil=>cases ha
 |cons x r ih=>
  rw[List.pairwise_cons]at h
  rcases List.mem_cons.1 ha with rfl |ha'<;>rcases List.mem_cons.1 hb with rfl |hb'
  ·rfl
  ·exact absurd he (h.1 b hb')
  ·exact absurd he.symm (h.1 a ha')
  ·exact ih h.2 ha' hb'
theorem abO{W W':World}(h:aO Kn.grow W.heap.size [] W W'):∃ q os',W'=grow (W.drewN q) os':=by
 refine⟨W'.drawn - W.drawn,W'.heap.extract W.heap.size W'.heap.size, ?_⟩
 obtain⟨heap,tape,drawn,os,output⟩:=W
 obtain⟨heap',tape',drawn',os',output'⟩:=W'
 obtain⟨h1,h2,h3,h4,h5,h6⟩:=h
 simp only at h1 h2 h3 h4 h5 h6
 have h6:=h6 trivial
 subst h1 h2 h3
 simp only[grow,World.drewN,World.mk.injEq,true_and,and_true]
 refine⟨?_,by omega⟩
 apply Array.ext_getElem?
 intro k
 rw[Array.getElem?_append]
 by_cases hk:k<heap.size
 ·rw[if_pos hk];exact h5 k hk (by simp)
 ·rw[if_neg hk,Array.getElem?_extract]
  by_cases hk':k<heap'.size
  ·rw[if_pos (by omega)];congr 1;omega
  ·rw[if_neg (by omega)];exact Array.getElem?_eq_none (by omega)
theorem abL(a b:aP)(ha:kM a)(hb:kM b)(W:World):
  Calls Tryz.prog 156 #[.agg (dW a).toArray,.agg (dW b).toArray] W fun e w'=>e= .returned (.int .i64 (oO a b))∧∃ q os',w'=grow (W.drewN q) os':=by
 have h:=(ZC (Dr:=Kn.grow)).2 W [] (fun _=>False) (a.1,a.2.1,a.2.2.1,b.1,b.2.1,b.2.2.1,()) (oO a b,()) [.agg (dW a).toArray,.agg (dW b).toArray] [.agg (dW a).toArray,.agg (dW b).toArray]
  (fun _ h=>h.elim) List.nodup_nil trivial
  ⟨_,_,[],[],rfl,rfl,⟨dW a,⟨_,_,rfl,rfl,_,_,rfl,rfl,_,_,rfl,rfl,rfl⟩,rfl,rfl⟩,_,_,[],[],rfl,rfl,⟨dW b,⟨_,_,rfl,rfl,_,_,rfl,rfl,_,_,rfl,rfl,rfl⟩,rfl,rfl⟩,rfl,rfl⟩
  (aek a b ha hb) rfl
 refine h.mono ?_
 rintro e w' ⟨hu,us,vs,bs,bs',rfl,hown,hgr,_⟩
 refine⟨?_,abO hu⟩
 obtain⟨u,t,rfl,hu',ht,_⟩:=hown
 obtain⟨p,q,v,rest,hpq,hl,rfl,hg,rfl,rfl⟩:=hgr
 subst ht
 simp only[aZ]at hu'
 subst hu'
 cases hg
 simp only[List.append_nil,List.cons.injEq,and_true]at hpq
 subst hpq
 rfl
def abu:Go.Shelf.Ren:=⟨fun |6=>170 |15=>181 |14=>180 |28=>193 |29=>194 |20=>185 |21=>186 |22=>187 |23=>188 |24=>189 |25=>190 |26=>191 |27=>192 |46=>196 |47=>197 |48=>198 |49=>199 |50=>200 |57=>201 |n=>n,fun |22=>137 |24=>166 |25=>190 |3=>3 |39=>119 |0=>0 |53=>224 |55=>91 |4=>4 |46=>218 |45=>217 |50=>108 |5=>5 |9=>9 |66=>226 |70=>230 |76=>232 |77=>233 |n=>n,fun |n=>n⟩
theorem Vg:Go.Proofs.SlLaysF0.n6 Tryz.prog abu where
 mixed:=by kernel_rfl
 f6:=⟨ "slices.SortFunc[[]loop.example/g00095/impl.Item,loop.example/g00095/impl.Item]",by decide,Tryz.func170.trans (congrArg some (by kernel_rfl))⟩
 f14:=⟨ "slices.pdqsortCmpFunc[loop.example/g00095/impl.Item]",by decide,Tryz.func180.trans (congrArg some (by kernel_rfl))⟩
 f15:=Tryz.func181.trans (congrArg some (by kernel_rfl))
 f20:=⟨ "slices.insertionSortCmpFunc[loop.example/g00095/impl.Item]",by decide,Tryz.func185.trans (congrArg some (by kernel_rfl))⟩
 f21:=⟨ "slices.heapSortCmpFunc[loop.example/g00095/impl.Item]",by decide,Tryz.func186.trans (congrArg some (by kernel_rfl))⟩
 f22:=⟨ "slices.breakPatternsCmpFunc[loop.example/g00095/impl.Item]",by decide,Tryz.func187.trans (congrArg some (by kernel_rfl))⟩
 f23:=⟨ "slices.choosePivotCmpFunc[loop.example/g00095/impl.Item]",by decide,Tryz.func188.trans (congrArg some (by kernel_rfl))⟩
 f24:=⟨ "slices.reverseRangeCmpFunc[loop.example/g00095/impl.Item]",by decide,Tryz.func189.trans (congrArg some (by kernel_rfl))⟩
 f25:=⟨ "slices.partialInsertionSortCmpFunc[loop.example/g00095/impl.Item]",by decide,Tryz.func190.trans (congrArg some (by kernel_rfl))⟩
 f26:=⟨ "slices.partitionEqualCmpFunc[loop.example/g00095/impl.Item]",by decide,Tryz.func191.trans (congrArg some (by kernel_rfl))⟩
 f27:=⟨ "slices.partitionCmpFunc[loop.example/g00095/impl.Item]",by decide,Tryz.func192.trans (congrArg some (by kernel_rfl))⟩
 f28:=Tryz.func193.trans (congrArg some (by kernel_rfl))
 f29:=Tryz.func194.trans (congrArg some (by kernel_rfl))
 f46:=⟨ "slices.siftDownCmpFunc[loop.example/g00095/impl.Item]",by decide,Tryz.func196.trans (congrArg some (by kernel_rfl))⟩
 f47:=Tryz.func197.trans (congrArg some (by kernel_rfl))
 f48:=Tryz.func198.trans (congrArg some (by kernel_rfl))
 f49:=⟨ "slices.medianAdjacentCmpFunc[loop.example/g00095/impl.Item]",by decide,Tryz.func199.trans (congrArg some (by kernel_rfl))⟩
 f50:=⟨ "slices.medianCmpFunc[loop.example/g00095/impl.Item]",by decide,Tryz.func200.trans (congrArg some (by kernel_rfl))⟩
 f57:=⟨ "slices.order2CmpFunc[loop.example/g00095/impl.Item]",by decide,Tryz.func201.trans (congrArg some (by kernel_rfl))⟩
 t0:=Tryz.underlying0
 a0:=Tryz.isAgg0
 z0:=Tryz.sizeOf0
 v0:=Tryz.zeroValue0
 t3:=Tryz.underlying3
 a3:=Tryz.isAgg3
 z3:=Tryz.sizeOf3
 v3:=Tryz.zeroValue3
 t4:=Tryz.underlying4
 a4:=Tryz.isAgg4
 z4:=Tryz.sizeOf4
 v4:=Tryz.zeroValue4
 t5:=Tryz.underlying5
 a5:=Tryz.isAgg5
 z5:=Tryz.sizeOf5
 v5:=Tryz.zeroValue5
 t9:=Tryz.underlying9
 a9:=Tryz.isAgg9
 z9:=Tryz.sizeOf9
 v9:=Tryz.zeroValue9
 t22:=Tryz.underlying137
 a22:=Tryz.isAgg137
 z22:=Tryz.sizeOf137
 v22:=Tryz.zeroValue137
 t25:=Tryz.underlying190
 a25:=Tryz.isAgg190
 z25:=Tryz.sizeOf190
 v25:=Tryz.zeroValue190
 t39:=Tryz.underlying119
 a39:=Tryz.isAgg119
 z39:=Tryz.sizeOf119
 v39:=Tryz.zeroValue119
 t45:=Tryz.underlying217
 a45:=Tryz.isAgg217
 z45:=Tryz.sizeOf217
 v45:=Tryz.zeroValue217
 t46:=Tryz.underlying218
 a46:=Tryz.isAgg218
 z46:=Tryz.sizeOf218
 v46:=Tryz.zeroValue218
 t50:=Tryz.underlying108
 a50:=Tryz.isAgg108
 z50:=Tryz.sizeOf108
 v50:=Tryz.zeroValue108
 t53:=Tryz.underlying224
 a53:=Tryz.isAgg224
 z53:=Tryz.sizeOf224
 v53:=Tryz.zeroValue224
 t55:=Tryz.underlying91
 a55:=Tryz.isAgg91
 z55:=Tryz.sizeOf91
 v55:=Tryz.zeroValue91
 t66:=Tryz.underlying226
 a66:=Tryz.isAgg226
 z66:=Tryz.sizeOf226
 v66:=Tryz.zeroValue226
 t70:=Tryz.underlying230
 a70:=Tryz.isAgg230
 z70:=Tryz.sizeOf230
 v70:=Tryz.zeroValue230
 t76:=Tryz.underlying232
 a76:=Tryz.isAgg232
 z76:=Tryz.sizeOf232
 v76:=Tryz.zeroValue232
 t77:=Tryz.underlying233
 a77:=Tryz.isAgg233
 z77:=Tryz.sizeOf233
 v77:=Tryz.zeroValue233
section
variable (zs:List aP)
abbrev lH:={ x:aP // x∈zs }
abbrev OX(x:lH zs):List Value:=dW x.1
abbrev tX(x y:lH zs):Int:=oO x.1 y.1
end
theorem FN(zs:List aP)(x y:lH zs):ltOf (tX zs) x y=iQ x.1 y.1:=rfl
theorem aft(zs:List aP)(h:iK zs):SWO (ltOf (tX zs)) where
 irrefl x:=by rw[FN,Aq];exact Or.inr ⟨rfl,Int.le_refl _⟩
 trans x y z h1 h2:=by rw[FN]at *; exact acs (h.1 _ x.2) (h.1 _ y.2) (h.1 _ z.2) h1 h2
 ntrans x y z h1 h2:=by rw[FN]at *; exact Ug (h.1 _ x.2) (h.1 _ y.2) (h.1 _ z.2) h1 h2
theorem afs(zs:List aP)(h:iK zs)(x y:lH zs)(h1:ltOf (tX zs) x y=false)(h2:ltOf (tX zs) y x=false):x=y:=by
 rw[FN,Aq]at h1 h2
 exact Subtype.ext (WN h.2.1 x.2 y.2 (by omega))
theorem EJ:∀ (xs:List aP) (j:Nat) (x:aP) (i:Nat),xs[j]? =some x→i<3→(xs.flatMap dW)[j*3+i]? =(dW x)[i]?
 | [],j,x,i,h,_=>by simp at h
 |y::r,0,x,i,h,hi=>by
  simp only[List.getElem?_cons_zero,Option.some.injEq]at h
  subst h
  rw[List.flatMap_cons,List.getElem?_append,Nat.zero_mul,Nat.zero_add,if_pos (by simpa [dW]using hi)]
 |y::r,j+1,x,i,h,hi=>by
  rw[List.getElem?_cons_succ]at h
  rw[List.flatMap_cons,List.getElem?_append,if_neg (by simp only[dW,List.length_cons,List.length_nil];omega), ←EJ r j x i h hi]
  congr 1
  simp only[dW,List.length_cons,List.length_nil];omega
set_option maxHeartbeats 1000000 in
theorem aaN(zs:List aP)(h:iK zs)(h0:zs≠[])(g cap:Nat)(cur:Array Value)(w:World)(hg:w.heap[g]? =some (.cells cur 166 (0,0)))(hcs:cur.size=cap*3)(hcap:zs.length≤cap)
  (hcur:cur.toList.take (zs.length*3)=zs.flatMap dW):
  Calls Tryz.prog 170 #[.slice (some ⟨g,0,none⟩) zs.length cap,.func (.func 156) #[] #[]] w fun e w'=>
   e= .returned (.tuple #[])∧w'.os=w.os∧w'.tape=w.tape∧w'.output=w.output∧w.heap.size≤w'.heap.size∧(∀ k,k<w.heap.size→k≠g→w'.heap[k]? =w.heap[k]?)∧
   ∃ cur',w'.heap[g]? =some (.cells cur' 166 (0,0))∧cur'.size=cap*3∧cur'.toList.take (zs.length*3)=(dh zs).flatMap dW:=by
 haveI:Inhabited (lH zs):=⟨⟨zs.head h0,List.head_mem h0⟩⟩
 have hds:(zs.attach.toArray:Array (lH zs)).size=zs.length:=by simp
 have hblk:g<w.heap.size:=(Array.getElem?_eq_some_iff.1 hg).1
 have hH:HoldsK (OX zs) 3 w g 0 (zs.attach.toArray:Array (lH zs)):=by
  intro j hj
  have hj:j<zs.length*3:=by simpa using hj
  refine⟨?_,by simp[World.frozen?, hg]⟩
  rw[get_flatK _ _ _ _ (by simpa using hj)]
  have hq:j / 3<zs.length:=by omega
  have hx:zs[j / 3]? =some zs[j / 3]:=List.getElem?_eq_getElem hq
  have e1:(zs.attach.toArray:Array (lH zs))[j / 3]! =⟨zs[j / 3],List.getElem_mem hq⟩:=by
   rw[getElem!_pos _ _ (by simpa using hq)]
   simp
  rw[e1]
  have e2:=EJ zs (j / 3) _ (j % 3) hx (by omega)
  rw[←hcur,show j / 3*3+j % 3=j by omega,List.getElem?_take,if_pos hj]at e2
  have e3:w.cell? ⟨g,0+j,none⟩=cur[j]? :=by simp[World.cell?, hg]
  rw[e3, ←Array.getElem?_toList,e2]
  show(dW _)[j % 3]? =some ((dW _)[j % 3]!)
  rw[List.getElem?_eq_getElem (by simp only[dW,List.length_cons,List.length_nil];omega),List.getElem!_eq_getElem?_getD,List.getElem?_eq_getElem (by simp only[dW,List.length_cons,List.length_nil];omega)]
  rfl
 have hcon:=AnyQ.slices_SortFunc_total Vg 3 Tryz.isAgg166 Tryz.sizeOf166 (OX zs) (fun _=>rfl) (fun x v hv=>VJ x.1 v hv) (tX zs) (aft zs h) 156 #[] g 0 cap (zs.attach.toArray:Array (lH zs)) w
  (enters_of Tryz.func156 (by kernel_rfl) rfl) (fun m os dk _ x y=>abL x.1 y.1 (h.1 _ x.2) (h.1 _ y.2) _) hH hblk (by rw[hds];have:=h.2.2;omega) (afs zs h)
 rw[hds]at hcon
 change Calls Tryz.prog 170 _ _ _ at hcon
 refine hcon.mono ?_
 rintro e w' ⟨rfl,n,os,rfl⟩
 have hsI:(((zs.attach.toArray:Array (lH zs)).toList.mergeSort fun x y=> !(ltOf (tX zs)) y x)).map (·.1)=dh zs:=by
  refine(List.map_mergeSort (r:=fun x y=> !(ltOf (tX zs)) y x) (s:=fun a b=> !iQ b a) (f:=fun x:lH zs=>x.1) (fun a _ b _=>rfl)).trans ?_
  show((zs.attach).map Subtype.val).mergeSort _=_
  rw[List.attach_map_subtype_val]
  rfl
 generalize (((zs.attach.toArray:Array (lH zs)).toList.mergeSort fun x y=> !(ltOf (tX zs)) y x))=dk at hsI
 have hdl:dk.length=zs.length:=by rw[←List.length_map (f:=(·.1)),hsI,dh,List.length_mergeSort]
 refine⟨rfl,rfl,rfl,rfl, ?_, ?_, ?_⟩
 ·rw[sortWorldK,size_grow,size_putRowK];exact Nat.le_add_right _ _
 ·intro k hk hne
  simp only[sortWorldK,grow,putRowK,putRow,mapBlock]
  rw[Array.getElem?_append_left (by simpa using hk),Array.getElem?_modify,if_neg (fun e=>hne e.symm)]
  rfl
 ·refine⟨putCells id 0 (flatK (OX zs) 3 dk.toArray) cur, ?_,by simp[putCells,hcs], ?_⟩
  ·simp only[sortWorldK,grow,putRowK,putRow,mapBlock]
   rw[Array.getElem?_append_left (by simpa using hblk),Array.getElem?_modify,if_pos rfl]
   show Option.map _ w.heap[g]? =_
   rw[hg]
   rfl
  ·rw[←hsI]
   apply List.ext_getElem?
   intro j
   rw[List.getElem?_take]
   by_cases hj:j<zs.length*3
   ·rw[if_pos hj,Array.getElem?_toList]
    simp only[putCells,Array.getElem?_mapIdx]
    have hjc:j<cur.size:=by omega
    rw[Array.getElem?_eq_getElem hjc,Option.map_some,if_pos ⟨Nat.zero_le _,by simpa [hdl]using hj⟩,Nat.sub_zero,get_flatK _ _ _ _ (by simpa [hdl]using hj)]
    have hq:j / 3<dk.length:=by omega
    have e2:=EJ (dk.map (·.1)) (j / 3) (dk[j / 3]).1 (j % 3) (by simp[hq]) (by omega)
    rw[show j / 3*3+j % 3=j by omega]at e2
    rw[e2,getElem!_pos dk.toArray (j / 3) (by simpa using hq)]
    show some ((dW _)[j % 3]!)=_
    rw[List.getElem!_eq_getElem?_getD,List.getElem?_eq_getElem (by simp only[dW,List.length_cons,List.length_nil];omega),List.getElem?_eq_getElem (by simp only[dW,List.length_cons,List.length_nil];omega)]
    simp
   ·rw[if_neg hj,List.getElem?_eq_none]
    have:=adm (dk.map (·.1))
    simp only[List.length_map,hdl]at this
    omega
structure PZ (zs ys:List aP) (w:World) (v:Value) (w':World):Prop where
 os:w'.os=w.os
 tape:w'.tape=w.tape
 output:w'.output=w.output
 size:w.heap.size≤w'.heap.size
 block:∀ k,k<w.heap.size→w'.heap[k]? =w.heap[k]?
 row:(ys=[]∧v= .slice none 0 0)∨(ys≠[]∧∃ g cap cur,v= .slice (some ⟨g,0,none⟩) ys.length cap∧w.heap.size≤g∧w'.heap[g]? =some (.cells cur 166 (0,0))∧ys.length≤cap∧cap≤9223372036854775807∧cur.size=cap*3∧cur.toList.take (ys.length*3)=ys.flatMap dW)
set_option maxHeartbeats 1000000 in
theorem aah(zs:List aP)(h:iK zs)(sv:Value)(Bs:Nat)(w:World)(hBs:Bs<w.heap.size)(hc:w.cell? ⟨Bs,0,none⟩=some sv)(hI:sQ w.heap.size w sv zs):
  Calls Tryz.prog 154 #[.func (.func 171) #[] #[.pointer (some ⟨Bs,0,none⟩)],.func (.func 156) #[] #[]] w fun e w'=>∃ v,e= .returned v∧PZ zs (dh zs) w v w':=by
 have hcol:Calls Tryz.prog 169 #[.func (.func 171) #[] #[.pointer (some ⟨Bs,0,none⟩)]] w fun e w'=>∃ v,e= .returned v∧PZ zs zs w v w':=by
  have hap:=callsIn_wide.1 (appendSeq_in Bs sv zs h.2.2 w hBs hc hI)
  clear hI hc
  go_enter Tryz.func169,Tryz.ntmps169
  go_wp2_with (go_at_call 179;refine hap.mono ?_;rintro e w' ⟨v,rfl,hown,hnil,hB⟩)
  go_ret
  refine⟨v,rfl,hB.os,hB.tape,hB.output,hB.size,hB.block, ?_⟩
  rcases hown.2 with ⟨rfl,h0⟩ | ⟨g,cap,cur,rfl,h1,h2,h3,h4,h5,h6⟩
  ·exact Or.inl ⟨hnil.1 rfl,rfl⟩
  ·exact Or.inr ⟨fun e=>by have:=hnil.2 e;simp at this,g,cap,cur,rfl,h1,h2,h3,h4,h5,h6⟩
 clear hI hc
 go_enter Tryz.func154,Tryz.ntmps154
 by_cases h0:zs=[]
 ·go_wp2_with (first | (go_at_call 169;refine hcol.mono ?_;rintro e w' ⟨v,rfl,hr⟩;obtain rfl:v= .slice none 0 0:=(by rcases hr.row with hr |hr;exact hr.2;exact absurd h0 hr.1)) | (go_at_call 170;refine(show Calls Tryz.prog 170 _ _ _ from AnyF.slices_SortFunc_none { Vg with } none 0 _ _).mono ?_;rintro e w'' ⟨rfl,rfl⟩))
  go_ret
  exact⟨_,rfl,hr.os,hr.tape,hr.output,hr.size,hr.block,Or.inl ⟨by rw[h0];simp[dh],rfl⟩⟩
 ·go_wp2_with (first | (go_at_call 169;refine hcol.mono ?_;rintro e w' ⟨v,rfl,hr⟩;obtain⟨g,cap,cur,rfl,r1,r2,r3,r4,r5,r6⟩:=(by rcases hr.row with hr |hr;exact absurd hr.1 h0;exact hr.2:∃ g cap cur,v= .slice (some ⟨g,0,none⟩) zs.length cap∧w.heap.size≤g∧w'.heap[g]? =some (.cells cur 166 (0,0))∧zs.length≤cap∧cap≤9223372036854775807∧cur.size=cap*3∧cur.toList.take (zs.length*3)=zs.flatMap dW)) | (go_at_call 170;refine(aaN zs h h0 g cap cur w' r2 r5 r3 r6).mono ?_;rintro e w'' ⟨rfl,s1,s2,s3,s4,s5,cur',s6,s7,s8⟩))
  go_ret
  have hl:(dh zs).length=zs.length:=List.length_mergeSort _
  refine⟨_,rfl,s1.trans hr.os,s2.trans hr.tape,s3.trans hr.output,Nat.le_trans hr.size s4,fun k hk=>(s5 k (Nat.lt_of_lt_of_le hk hr.size) (by omega)).trans (hr.block k hk),Or.inr ⟨fun e=>h0 (List.eq_nil_of_length_eq_zero (by rw[←hl,e];rfl)),g,cap,cur',by rw[hl];rfl,r1,s6,by omega,r4,s7,by rw[hl];exact s8⟩⟩
theorem abp(a:Option Addr)(len cap:Nat)(w:World):
  Calls Tryz.prog 155 #[.slice a len cap] w fun e w'=>e= .returned (.func (.func 171) #[] #[.pointer (some ⟨w.heap.size,0,none⟩)])∧w'=w.alloc (.cells #[.slice a len cap] 137):=by
 go_enter Tryz.func155,Tryz.ntmps155
 go_wp2
 go_ret
 exact⟨rfl,rfl⟩
abbrev Ri:List bF:=[.v false [CT.sl [CT.int .i64,CT.int .i64,CT.int .i64]]]
abbrev QG:List (Bool×List CT):=[(false,[CT.sl [CT.int .i64,CT.int .i64,CT.int .i64]])]
theorem ack{I:Nat→Prop}{w:World}(hI:∀ b,I b→b<w.heap.size){zs:List aP}{u:Value}(h:aZ I w (.sl [CT.int .i64,CT.int .i64,CT.int .i64]) zs u):sQ w.heap.size w u zs:=by
 simp only[aZ]at h
 obtain⟨a,cap,rfl,_,h⟩:=h
 refine⟨a,cap,rfl, ?_⟩
 rcases h with h | ⟨ad,rfl,hb,h⟩
 ·exact Or.inl (List.eq_nil_of_length_eq_zero h)
 ·cases zs with
  |nil=>exact Or.inl rfl
  |cons x0 r=>
   have hsp:ad.spot=none:=by
    have:=h 0 x0 rfl
    simp only[bH]at this
    obtain⟨⟨u,hu,_⟩,_⟩:=this
    rw[show ad.add (0*[CT.int IntKind.i64,CT.int IntKind.i64,CT.int IntKind.i64].length)=ad by simp[Addr.add]]at hu
    unfold World.cell? at hu
    cases hs:ad.spot with
    |none=>rfl
    |some s=>rw[hs]at hu;split at hu <;>simp at hu
   obtain⟨b,off,sp⟩:=ad
   simp only at hsp
   subst hsp
   refine Or.inr ⟨b,off,rfl,hI _ hb,fun j x hx=> ?_⟩
   have:=h j x hx
   simp only[bH,dU,aZ,List.length_cons,List.length_nil]at this
   obtain⟨⟨u0,h0,rfl⟩,⟨u1,h1,rfl⟩,⟨u2,h2,rfl⟩,_⟩:=this
   exact⟨h0,h1,h2⟩
set_option maxHeartbeats 1000000 in
theorem abt(zs:List aP)(h:iK zs)(sv:Value)(w:World)(hI:sQ w.heap.size w sv zs):
  Calls Tryz.prog 135 #[sv] w fun e w'=>∃ v,e= .returned v∧PZ zs (dh zs) w v w':=by
 have hB:Go.RowKit.Below w.heap.size w (w.alloc (.cells #[sv] 137)):=(Go.RowKit.Below.refl _ w).alloc (Nat.le_refl _) _
 have hs:=aah zs h sv w.heap.size (w.alloc (.cells #[sv] 137)) (by simp) (Boxed.new w 137 sv).cell (by obtain⟨a,cap,h1,h2⟩:=hI.below hB;refine⟨a,cap,h1, ?_⟩;rcases h2 with h2 | ⟨b,off,k1,k2,k3⟩;exact Or.inl h2;exact Or.inr ⟨b,off,k1,by simp;omega,k3⟩)
 obtain⟨a,cap,rfl,_⟩:=hI
 have hv:=abp a zs.length cap w
 go_enter Tryz.func135,Tryz.ntmps135
 go_wp2_with (first | (go_at_call 155;refine hv.mono ?_;rintro e w' ⟨rfl,rfl⟩) | (go_at_call 154;refine hs.mono ?_;rintro e w' ⟨v,rfl,hr⟩))
 go_ret
 refine⟨v,rfl,hr.os.trans hB.os,hr.tape.trans hB.tape,hr.output.trans hB.output,Nat.le_trans hB.size hr.size,fun k hk=>(hr.block k (by simp;omega)).trans (hB.block k hk), ?_⟩
 rcases hr.row with hr | ⟨h0,g,cap,cur,r1,r2,r3⟩
 ·exact Or.inl hr
 ·exact Or.inr ⟨h0,g,cap,cur,r1,by simp at r2;omega,r3⟩
theorem RN:aF KN Tryz.prog 135 ⟨Ri,QG,uQ,[]⟩:=by
 refine⟨fun args w=>jV (by kernel_rfl) args w,fun w T J x y vals avals hJ hT htab harg hF hpk=> ?_⟩
 obtain⟨zs,_⟩:=x
 by_cases hgood:iK zs
 ·have hF:uQ (zs,())=some y:=hF
  rw[VT zs hgood]at hF
  have:=Option.some.inj hF
  subst this
  obtain⟨v,t,b1,b2,rfl,rfl,⟨us,hc,hg,rfl⟩,rfl,rfl⟩:=harg
  obtain⟨u,t,rfl,hc,rfl⟩:=hc
  cases hg
  have hpk:[v]=avals:=hpk
  subst hpk
  have hc:aZ (fun b=>b<w.heap.size∧¬b∈([]++[]:List Nat)) w (.sl [CT.int .i64,CT.int .i64,CT.int .i64]) zs v:=hc
  refine(abt zs hgood v w (ack (fun b hb=>hb.1) hc)).mono ?_
  rintro e w' ⟨h,rfl,hr⟩
  refine⟨⟨hr.os,hr.tape,hr.output,hr.size,fun k hk _=>hr.block k hk,fun f=>f.elim⟩, ?_⟩
  rcases hr.row with ⟨h0,rfl⟩ | ⟨h0,g,cap,cur,rfl,r2,r3,r4,r5,r6,r7⟩
  ·refine⟨[.slice none 0 0],[.slice none 0 0],[],[],rfl, ?_,⟨[.slice none 0 0],[],_,[],rfl,rfl,rfl,rfl,rfl,rfl⟩,⟨_,_,[],[],rfl,rfl,rfl,rfl,rfl⟩,List.nodup_nil,by simp⟩
   exact⟨_,[],rfl,Or.inl ⟨h0,⟨none,rfl⟩,rfl,rfl⟩⟩
  ·refine⟨[.slice (some ⟨g,0,none⟩) (dh zs).length cap],[.slice (some ⟨g,0,none⟩) (dh zs).length cap],[g],[],rfl, ?_,⟨[_],[],_,[],rfl,rfl,rfl,rfl,rfl,rfl⟩,⟨_,_,[],[],rfl,rfl,rfl,rfl,rfl⟩,by simp,by simpa using r2⟩
   refine⟨_,[],rfl,Or.inr ⟨g,[],rfl,⟨?_,cap,cur,_,rfl,r4,r5,r3,r6, ?_⟩,rfl,rfl⟩⟩
   ·rintro⟨a,ha⟩
    simp only[Value.slice.injEq]at ha
    exact h0 (List.eq_nil_of_length_eq_zero ha.2.1)
   ·intro i x hx
    have hi:i<(dh zs).length:=(List.getElem?_eq_some_iff.1 hx).1
    have cl:∀ j,j<3→w'.cell? ⟨g,i*3+j,none⟩=(dW x)[j]? :=by
     intro j hj
     have e2:=EJ (dh zs) i x j hx hj
     rw[←r7,List.getElem?_take,if_pos (by omega)]at e2
     have e3:w'.cell? ⟨g,i*3+j,none⟩=cur[i*3+j]? :=by simp[World.cell?, r3]
     rw[e3, ←Array.getElem?_toList,e2]
    simp only[bH,dU,aZ,List.length_cons,List.length_nil]
    exact⟨⟨_,cl 0 (by omega),rfl⟩,⟨_,cl 1 (by omega),rfl⟩,⟨_,cl 2 (by omega),rfl⟩,trivial⟩
 ·have hF:uQ (zs,())=some y:=hF
  have:uQ (zs,())=none:=if_neg hgood
  rw[this]at hF
  cases hF
#print axioms RN
end Go.Rv
