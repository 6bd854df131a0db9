/- A function of the library by hand: RvHdel:Group. -/
import Derived.Test.YtjknhphmhfbghaaGreatFM09
import Derived.Deep.AppendSrc
import Derived.Lib.AppendZerosOnto
import Derived.Lib.Overlaps
import Derived.Shelf.Spec.SlicesInsert
import Derived.Deep.RegionLaw
import Derived.KernelRfl
set_option linter.unusedVariables false
set_option linter.unusedSimpArgs false
set_option linter.unusedSectionVars false
namespace Go.Rv
open Go.Proofs Go.RowKit Go.Shelf Go.Lib
attribute [local go_sem] Oper.semAt_some
namespace rU
abbrev eE:List CT:=[.int .i64,.int .i64,.int .i64,.int .i64]
theorem info:(Tryz.prog.info? 101).map (fun i=>(i.zero,i.size,i.bytes))=some (some (.agg #[.int .i64 0,.int .i64 0,.int .i64 0,.int .i64 0]),4,32):=by kernel_rfl
theorem und:Tryz.prog.underlying 23=some (.slice 101):=Tryz.underlying23
abbrev zz(n:Nat):List Value:=(Builtin.zeroCells (Value.agg #[.int .i64 0,.int .i64 0,.int .i64 0,.int .i64 0]).cells n).toList
theorem gY(n:Nat):(zz n).length=n*4:=by simp[zz,Builtin.zeroCells,Value.cells]
theorem vH(n:Nat):∀ v∈zz n,v.oneCell'=true:=by
 intro v hv
 simp only[zz,Builtin.zeroCells,Array.toList_map,List.mem_map]at hv
 obtain⟨i,_,rfl⟩:=hv
 have h:∀ j,j<4→((Value.agg #[.int .i64 0,.int .i64 0,.int .i64 0,.int .i64 0]).cells[j]!).oneCell'=true:=by
  intro j hj
  rcases j with _ |_ |_ |_ |j <;>first |rfl |omega
 exact h _ (Nat.mod_lt _ (by decide))
set_option maxHeartbeats 4000000 in
set_option maxRecDepth 100000 in
theorem calls{D:Kn}{w:World}{h:Value}{b:Nat}(i:Nat)(xs:List (ah.V eE))(ho:OwnAt w h b eE xs)(hi:i<xs.length):
  Calls Tryz.prog 112 #[h,.int .i64 i,.int .i64 ((i:Int)+1)] w fun e w'=>
   ∃ v,e= .returned v∧aO D w.heap.size [b] w w'∧OwnAt w' v b eE (xs.take i++xs.drop (i+1)):=by
 obtain⟨i0,hi0,hz0,hz1,hz2⟩:=info_parts info
 obtain⟨cap,sp,t,rfl,h0,h1,h2,hr,h3⟩:=ownRow (e:=eE) rfl ho
 obtain⟨n,hnl⟩:∃ n,n=xs.length:=⟨_,rfl⟩
 rw[←hnl]at hi h1 h3 ⊢
 have h3':sp.length=(cap - n)*4:=h3
 have hl:(ai eE xs).length=n*4:=by rw[dJ,hnl];rfl
 obtain⟨A0,hA0⟩:∃ A0,A0=ai eE xs++sp:=⟨_,rfl⟩
 have hal:A0.length=cap*4:=by rw[hA0,List.length_append,hl,h3'];omega
 have hdl:(ai eE (xs.drop (i+1))).length=(n - (i+1))*4:=by rw[dJ,List.length_drop,hnl];rfl
 obtain⟨A1,hA1⟩:∃ A1:List Value,A1=A0.take (i*4)++ai eE (xs.drop (i+1))++A0.drop (i*4+(ai eE (xs.drop (i+1))).length):=⟨_,rfl⟩
 have hal1:A1.length=cap*4:=by rw[hA1];simp only[List.length_append,List.length_take,List.length_drop,hal,hdl];omega
 have hfinL:=TT eE xs sp (zz 1) i (i+1) (by omega) (by omega) (by rw[gY];show 1*4=(i+1 - i)*4;omega) A1 (by rw[hA1,hA0];rfl)
 obtain⟨A,hA,hsrc⟩:∃ A:Addr,(if cap=i+1 then some (⟨b,0,none⟩:Addr)else some ⟨b,(i+1)*4,none⟩)=some A∧Hid (∀ t u,(ai eE (xs.drop (i+1)))[t]? =some u→w.drew.cell? (A.add t)=some u):=by
  by_cases hc:cap=i+1
  ·refine⟨⟨b,0,none⟩,by simp[hc],fun t u hu=> ?_⟩
   have h0:(ai eE (xs.drop (i+1))).length=0:=by rw[hdl];omega
   rw[List.length_eq_zero_iff.1 h0]at hu
   cases hu
  ·refine⟨⟨b,(i+1)*4,none⟩,by simp[hc],fun t u hu=> ?_⟩
   have:(ai eE xs)[(i+1)*4+t]? =some u:=by
    rw[←rO eE xs (i+1) (by omega),List.getElem?_drop]at hu
    exact hu
   rw[dU]
   show w.cell? _=_
   rw[jK hr,List.getElem?_append_left (List.getElem?_eq_some_iff.1 this).1]
   exact this
 have s1:Hid ((ai eE (xs.drop (i+1))).length=(n - (i+1))*4):=hdl
 have s2:Hid (∀ u∈ai eE (xs.drop (i+1)),u.oneCell'=true):=pW eE _
 have s3:Hid (∀ t,t<(ai eE (xs.drop (i+1))).length→(w.drew.cell? ⟨b,0+i*4+t,none⟩).isSome=true∧w.drew.frozen? ⟨b,0+i*4+t,none⟩=false):=by
  intro t ht
  rw[hdl]at ht
  refine⟨?_,ou (w:=w.drew) hr _⟩
  show(w.cell? _).isSome=true
  rw[jK hr, ←hA0,List.getElem?_eq_getElem (by rw[hal];omega)]
  rfl
 obtain⟨W1,hW1⟩:∃ W1,W1=w.drew.setRow b A1.toArray:=⟨_,rfl⟩
 have hW:Hid (w.drew.setCells b (0+i*4) (ai eE (xs.drop (i+1)))=W1):=by
  have:=Ag Tryz.prog w.drew b (i*4) (ai eE (xs.drop (i+1))) _ t hr (by rw[List.size_toArray, ←hA0,hal,hdl];omega) (pW eE _)
  rw[hW1,Nat.zero_add]
  refine this.trans ?_
  show w.drew.setRow b (List.take (i*4) (ai eE xs++sp)++_++List.drop _ (ai eE xs++sp)).toArray=_
  rw[←hA0, ←hA1]
 have hg1:W1.heap[b]? =some (.cells A1.toArray t (0,0)):=by rw[hW1];exact jD w.drew b _ _ t hr
 have hil:i+(n - (i+1))=n - 1:=by omega
 have hcl:∀ ty c,(Builtin.clear_ #[23] ty #[.slice (some ⟨b,(i+(n - (i+1)))*4,none⟩) (n - (i+(n - (i+1)))) c]).run Tryz.prog W1= .ok (.tuple #[]) (W1.setRow b (ai eE (xs.take i++xs.drop (i+1))++(zz 1++sp)).toArray):=fun ty c=>by
  have e1:n - (i+(n - (i+1)))=1:=by omega
  have h:=DZ (P:=Tryz.prog) W1 23 ty 101 _ i0 b ((i+(n - (i+1)))*4) (n - (i+(n - (i+1)))) c _ t (zz 1) und hi0 hz0 (by omega) (by rw[e1]) hg1 (by rw[List.size_toArray,hal1,gY];omega) (vH 1)
  rw[h]
  rw[←hnl]at hfinL
  exact congrArg (fun L:List Value=>(.ok (.tuple #[]) (W1.setRow b L.toArray):Result Value)) hfinL
 have hfin:∀ w',w'=W1.setRow b (ai eE (xs.take i++xs.drop (i+1))++(zz 1++sp)).toArray→∃ v,(Ending.returned (.slice (some ⟨b,0,none⟩) (i+(n - (i+1))) cap))= .returned v∧aO D w.heap.size [b] w w'∧OwnAt w' v b eE (xs.take i++xs.drop (i+1)):=by
  rintro w' rfl
  have hlen:(xs.take i++xs.drop (i+1)).length=i+(n - (i+1)):=by simp only[List.length_append,List.length_take,List.length_drop];omega
  refine⟨_,rfl, ?_, ?_⟩
  ·rw[hW1]
   exact(pV _ _ _).trans ((kK _ _ _ _ _ (Or.inl (by simp))).trans (kK _ _ _ _ _ (Or.inl (by simp))))
  ·rw[←hlen]
   exact qP (e:=eE) rfl (kY eE _ _ hg1) h0 (by omega) h2 (by rw[List.length_append,gY,h3',hlen];show _=(cap - (i+(n - (i+1))))*4;omega)
 have hic:i≤cap:=by omega
 have hjc:i+1≤cap:=by omega
 have hm:cap≤9223372036854775807:=h2
 have hne:¬ ((i:Int)=(i:Int)+1):=by omega
 have hin:i+1≤n:=by omega
 have hb1:(0:Int)≤(i:Int)+1:=by omega
 have htn:((i:Int)+1).toNat=i+1:=by omega
 have hb2:(i:Int)+1≤(n:Int):=by omega
 have hb3:(i:Int)+1≤(cap:Int):=by omega
 have hb4:(i:Int)≤(i:Int)+1:=by omega
 have mixed:Tryz.prog.follows Departure.mixedOrders=true:=by kernel_rfl
 clear hr hl hA0 hal hdl hA1 hal1 hfinL hg1 hnl hW1 h3 h3' ho hil
 go_enter Tryz.func112,Tryz.ntmps112
 go_wp2_with fail
 go_region_law_o (refine step_append_room rfl (.tmp 22) (.tmp 25) 23 rfl 101 i0 4 und hi0 hz1 b 0 i cap (by simp[Act.eval,Act.put]) A (n - (i+1)) (cap - (i+1)) (ai eE (xs.drop (i+1))) (by simp[Act.eval,Act.put]) s1.out hsrc.out s2.out (by omega) s3.out ?_;rw[hW.out])
 go_wp2
 go_ret
 exact hfin _ rfl
end rU
abbrev YG:List bF:=[.c false [.sl rU.eE],.v false [CT.int .i64],.v false [CT.int .i64]]
abbrev YB:List (Bool×List CT):=[(false,[.sl rU.eE])]
def zu:List (Int×Int×Int×Int×Unit)×Int×Int×Unit→Option (List (Int×Int×Int×Int×Unit)×Unit):=fun x=>
 if 0≤x.2.1∧x.2.1<x.1.length∧x.2.2.1=x.2.1+1 then some (x.1.take x.2.1.toNat++x.1.drop (x.2.1.toNat+1),())else none
theorem YJ{Dr:Kn}:aF Dr Tryz.prog 112 ⟨YG,YB,zu,[]⟩:=by
 refine⟨fun args w=>jV (by kernel_rfl) args w,fun w T J (x:List (ah.V rU.eE)×Int×Int×Unit) (y:List (ah.V rU.eE)×Unit) vals avals hJ hT htab hargs (hF:zu x=some y) hp=> ?_⟩
 obtain⟨xs,i,j,⟨⟩⟩:=x
 obtain⟨v1,t1,b1,b1',rfl,rfl,⟨us1,ho1,hg1⟩,v2,t2,b2,b2',rfl,rfl,⟨us2,hc2,hg2,rfl⟩,v3,t3,b3,b3',rfl,rfl,⟨us3,hc3,hg3,rfl⟩,rfl,rfl⟩:=hargs
 have hp':_=avals:=hp
 subst hp'
 have g1:us1=[v1]:=hg1
 have g2:us2=[v2]:=hg2
 have g3:us3=[v3]:=hg3
 subst g1 g2 g3
 obtain⟨u2,t2',q1,q2,q3⟩:=hc2
 obtain⟨rfl,rfl⟩:=List.cons.inj q1
 have q2':v2= .int .i64 i:=q2
 subst q2'
 obtain⟨u3,t3',r1,r2,r3⟩:=hc3
 obtain⟨rfl,rfl⟩:=List.cons.inj r1
 have r2':v3= .int .i64 j:=r2
 subst r2'
 have hF':(if 0≤i∧i<xs.length∧j=i+1 then some ((xs.take i.toNat++xs.drop (i.toNat+1),()):List (ah.V rU.eE)×Unit)else none)=some y:=hF
 split at hF'
 ·rename_i hcond
  obtain⟨hi0,hi1,rfl⟩:=hcond
  have hy:=Option.some.inj hF'
  subst hy
  obtain⟨k,rfl⟩:=Int.eq_ofNat_of_zero_le hi0
  obtain⟨h,t,e1,k1⟩:=ho1
  obtain⟨rfl,rfl⟩:=List.cons.inj e1
  have K1:∃ b,b1=[b]∧OwnAt w v1 b rU.eE xs:=by
   rcases k1 with ⟨h,h',_,rfl⟩ | ⟨b,bt,rfl,h,_,rfl⟩
   ·have:xs=[]:=h
    subst this
    have hi1':(k:Int)<0:=hi1
    omega
   ·exact⟨b,rfl,h⟩
  obtain⟨b,rfl,ho⟩:=K1
  refine(rU.calls (D:=Dr) k xs ho (by omega)).mono ?_
  rintro e w' ⟨v,rfl,hu,hown⟩
  exact⟨⟨hu.os,hu.tape,hu.output,hu.size,fun k hk hn=>hu.block k hk (fun hm=>hn (List.mem_append.2 (Or.inl hm))),hu.drawn⟩,[v],[v],[b],[],rfl,⟨_,[],rfl,Or.inr ⟨b,[],rfl,hown,rfl,rfl⟩⟩,⟨[_],[],_,[],rfl,rfl,rfl,rfl,rfl,rfl⟩,⟨_,_,[],[],rfl,rfl,rfl,⟨_,_,[],[],rfl,rfl,rfl,_,_,[],[],rfl,rfl,rfl,rfl,rfl⟩⟩,by simp,fun b' hb=>Or.inl (by simpa using hb)⟩
 ·cases hF'
end Go.Rv
