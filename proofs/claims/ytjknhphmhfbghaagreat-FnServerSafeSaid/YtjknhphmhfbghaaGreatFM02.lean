/- A function of the library by hand: RvHvals. -/
import Derived.Test.YtjknhphmhfbghaaGreatFM01
import Derived.RangeFuncNested
import Derived.RangeFuncBound
import Derived.RangeFuncCalls
import Derived.RangeFuncLeaves
import Derived.RangeFuncBox
import Derived.Shelf.Abstract
import Derived.Shelf.RegionOpen
import Derived.WalkKit
import Derived.OwnWalkIn
import Derived.TacticsInMore
import Derived.LoopNIn
import Derived.LoopIn
import Derived.Maps.AppendAt
import Derived.KernelRfl
set_option linter.unusedVariables false
set_option linter.unusedSimpArgs false
set_option linter.unusedSectionVars false
namespace Go.Rv
open Go.Proofs Go.RowKit Go.Shelf
attribute [local go_sem] Oper.semAt_some
abbrev aP:=Int×Int×Int×Unit
def dW(x:aP):List Value:=[.int .i64 x.1,.int .i64 x.2.1,.int .i64 x.2.2.1]
set_option maxRecDepth 100000 in
set_option maxHeartbeats 2000000 in
theorem values1_in(l Bs n₀ b off cap:Nat)(zs:List aP)(hreach:zs.length*24≤140737488351232)(hb:b<n₀)(J Jx:List aP→World→Prop)(W:World)(hn₀:n₀≤W.heap.size)(hJ:AbidesFrom W.heap.size J)
  (hY:∀ pre x W,J pre W→pre.length<zs.length→YieldAt Fence.wide 7 Tryz.prog l #[.agg #[.int .i64 x.1,.int .i64 x.2.1,.int .i64 x.2.2.1]] W fun e W'=>
   (e= .returned (.bool true)∧J (pre++[x]) W'∧Go.RowKit.Below n₀ W W')∨(e= .returned (.bool false)∧Jx (pre++[x]) W'))
  (hBs:W.cell? ⟨Bs,0,none⟩=some (.slice (some ⟨b,off,none⟩) zs.length cap))
  (hc:∀ (j:Nat) (x:aP),zs[j]? =some x→W.cell? ⟨b,off+j*3,none⟩=some (.int .i64 x.1)∧W.cell? ⟨b,off+j*3+1,none⟩=some (.int .i64 x.2.1)∧W.cell? ⟨b,off+j*3+2,none⟩=some (.int .i64 x.2.2.1)) (h0:J [] W):
  CallsIn Fence.wide 8 Tryz.prog 171 #[.func (.yield l) #[] #[],.pointer (some ⟨Bs,0,none⟩)] W fun e W'=>(∃ v,e= .returned v)∧
   ((∃ ys,ys=zs∧J ys W')∨(∃ pre,pre <+: zs∧Jx pre W')):=by
 refine callsIn_of_wp Tryz.func171 rfl trivial ?_ rfl
 simp only[Tryz.ntmps171,List.size_toArray,List.length_cons,List.length_nil,Nat.reduceAdd,Nat.reduceSub,Array.replicate_succ,Array.replicate_zero,List.push_toArray,List.append_toArray,List.nil_append,List.cons_append]
 gi_wp2
 gi_loopw [7] (fun i wr=>∃ k:Nat,k≤zs.length∧i= .int .i64 k∧J (zs.take k) wr∧Go.RowKit.Below n₀ W wr)
  (fun i _=>zs.length - (intOf i).toNat)
 case atStart=>exact⟨0,Nat.zero_le _,rfl,h0,Go.RowKit.Below.refl _ _⟩
 case round=>
  obtain⟨k,hk,rfl,hJs,hnx⟩:=hrel
  by_cases hlt:k<zs.length
  ·obtain⟨x,hx⟩:∃ x,zs[k]? =some x:=⟨zs[k],List.getElem?_eq_getElem hlt⟩
   obtain⟨c0,c1,c2⟩:=hc k x hx
   have d0:=(hnx.cell (p:=⟨b,off+k*3,none⟩) hb).trans c0
   have d1:=(hnx.cell (p:=⟨b,off+k*3+1,none⟩) hb).trans c1
   have d2:=(hnx.cell (p:=⟨b,off+k*3+2,none⟩) hb).trans c2
   clear c0 c1 c2
   have hal:Go.RowKit.Below n₀ wr (wr.alloc (.cells #[.int .i64 x.1,.int .i64 x.2.1,.int .i64 x.2.2.1] 166)):=(Go.RowKit.Below.refl n₀ wr).alloc (Nat.le_trans hn₀ hnx.size) _
   obtain⟨fn,tmps,assign,body,hy,hR⟩:=hY (zs.take k) x (wr.alloc (.cells #[.int .i64 x.1,.int .i64 x.2.1,.int .i64 x.2.2.1] 166)) (hJ _ _ _ none hJs (World.grownBy_alloc _ _ _) (fun r e=>by cases e)) (by simp;omega)
   have htk:zs.take (k+1)=zs.take k++[x]:=by rw[List.take_add_one,hx];rfl
   gi_wp2
   refine hR.mono ?_
   rintro e W3 (⟨rfl,hJ3,hk3⟩ | ⟨rfl,hJx3⟩)
   ·gi_wp2
    go_roundw
    case rel=>exact⟨k+1,by omega,by simp,by rw[htk];exact hJ3,(hnx.trans hal).trans hk3⟩
    case measure=>simp[intOf];omega
   ·gi_wp2
    refine bodyPost_ret (results_none rfl _ _ _) rfl ?_
    exact⟨⟨_,rfl⟩,.inr ⟨_,List.take_prefix (k+1) zs,by rw[htk];exact hJx3⟩⟩
  ·obtain rfl:k=zs.length:=by omega
   gi_wp2
   go_end0
   exact⟨⟨_,rfl⟩,.inl ⟨_,rfl,by simpa using hJs⟩⟩
set_option maxHeartbeats 1000000 in
set_option maxRecDepth 100000 in
theorem abB(l Bs cap:Nat)(a:Option Addr)(J:List aP→World→Prop)(W:World)(hBs:W.cell? ⟨Bs,0,none⟩=some (.slice a 0 cap))(h0:J [] W):
  CallsIn Fence.wide 8 Tryz.prog 171 #[.func (.yield l) #[] #[],.pointer (some ⟨Bs,0,none⟩)] W fun e W'=>(∃ v,e= .returned v)∧J [] W':=by
 refine callsIn_of_wp Tryz.func171 rfl trivial ?_ rfl
 simp only[Tryz.ntmps171,List.size_toArray,List.length_cons,List.length_nil,Nat.reduceAdd,Nat.reduceSub,Array.replicate_succ,Array.replicate_zero,List.push_toArray,List.append_toArray,List.nil_append,List.cons_append]
 gi_wp2
 gi_loopw [7] (fun i wr=>i= .int .i64 0∧J [] wr) (fun _ _=>0)
 case atStart=>exact⟨rfl,h0⟩
 case round=>
  obtain⟨rfl,hJs⟩:=hrel
  gi_wp2
  go_end0
  exact⟨⟨_,rfl⟩,hJs⟩
def sQ(n₀:Nat)(W:World)(sv:Value)(zs:List aP):Prop:=
 ∃ a cap,sv= .slice a zs.length cap∧(zs=[]∨∃ b off,a=some ⟨b,off,none⟩∧b<n₀∧
  ∀ (j:Nat) (x:aP),zs[j]? =some x→W.cell? ⟨b,off+j*3,none⟩=some (.int .i64 x.1)∧W.cell? ⟨b,off+j*3+1,none⟩=some (.int .i64 x.2.1)∧W.cell? ⟨b,off+j*3+2,none⟩=some (.int .i64 x.2.2.1))
theorem sQ.below{n₀:Nat}{W W':World}{sv:Value}{zs:List aP}(h:sQ n₀ W sv zs)(hb:Go.RowKit.Below n₀ W W'):sQ n₀ W' sv zs:=by
 obtain⟨a,cap,h1,h2⟩:=h
 refine⟨a,cap,h1, ?_⟩
 rcases h2 with h2 | ⟨b,off,h3,h4,h5⟩
 ·exact Or.inl h2
 ·exact Or.inr ⟨b,off,h3,h4,fun j x hx=>⟨(hb.cell (p:=⟨b,off+j*3,none⟩) h4).trans (h5 j x hx).1,(hb.cell (p:=⟨b,off+j*3+1,none⟩) h4).trans (h5 j x hx).2.1,(hb.cell (p:=⟨b,off+j*3+2,none⟩) h4).trans (h5 j x hx).2.2⟩⟩
theorem values_stops(Bs n₀:Nat)(sv:Value)(zs:List aP)(hreach:zs.length*24≤140737488351232)(w:World)(hBs:Bs<w.heap.size)(hn₀:n₀≤w.heap.size)
  (hc:w.cell? ⟨Bs,0,none⟩=some sv) (hI:sQ n₀ w sv zs):
  SeqStopsK Fence.wide 8 Tryz.prog 171 #[.pointer (some ⟨Bs,0,none⟩)] (fun x:aP=> #[.agg #[.int .i64 x.1,.int .i64 x.2.1,.int .i64 x.2.2.1]]) (Go.RowKit.Below n₀) (fun ys=>ys=zs) (fun pre=>pre <+: zs) zs.length w:=fun l J Jx W hW hJ _ hY h0=>by
 have hc':=(hW.cell (p:=⟨Bs,0,none⟩) hBs).trans hc
 obtain⟨a,cap,rfl,h2⟩:=hI.below (hW.mono hn₀)
 rcases h2 with rfl | ⟨b,off,rfl,h4,h5⟩
 ·exact(abB l Bs cap a J W hc' h0).mono fun e W' ⟨he,hj⟩=>⟨he,.inl ⟨_,rfl,hj⟩⟩
 ·exact values1_in l Bs n₀ b off cap zs hreach h4 J Jx W (Nat.le_trans hn₀ hW.size) hJ hY hc' h5 h0
end Go.Rv
