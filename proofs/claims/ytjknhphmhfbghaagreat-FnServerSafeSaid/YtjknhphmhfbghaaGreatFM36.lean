/- Plain facts: srv8, srv9. -/
import Derived.Test.YtjknhphmhfbghaaGreatFM35
set_option linter.unusedVariables false
set_option linter.unusedSimpArgs false
set_option linter.unusedSectionVars false
namespace Go.Rv
theorem adD(l:List (Int×Unit))(u:Int)(hl:l.length≤1048576):Lh (l,u,())=some (bb (∃ x∈l,x.1=u),()):=by
 have h:=scan l.length (fun i=>(l.getD i (0,())).1≠u) (fun k i=>oq.G0 (300+l.length) (oq.A0 l u) (oq.A1 l u) k l u (i:Int)) (some (false,())) (some (true,())) (fun k i hi _=>by
   have hw:af ((i:Int)+1)=((i+1:Nat):Int):=aI _ (by omega)
   simp only[oq.G0,oq.R0,bZ,hw]
   rw[decide_eq_true (by omega),cond_true,if_pos (by omega)]
   refine⟨fun hp=> ?_,fun hp=> ?_⟩
   ·rw[show((l.getD i (0,())).1==u)=false by simpa using hp,cond_false]
   ·rw[show((l.getD i (0,())).1==u)=true by simpa using hp,cond_true];rfl) (fun _ k=>by
   simp only[oq.G0,oq.R0]
   rw[decide_eq_false (by omega),cond_false];rfl) (300+l.length) 0 (by omega) (by omega) (by intro j hj;omega)
 have e:(∀ j,j<l.length→(l.getD j (0,())).1≠u)↔¬ ∃ x∈l,x.1=u:=by
  constructor
  ·rintro h ⟨x,hx,hu⟩
   obtain⟨i,hi,rfl⟩:=List.getElem_of_mem hx
   exact h i hi (by simpa [List.getD_eq_getElem?_getD,hi]using hu)
  ·intro h j hj hu
   exact h ⟨l[j],List.getElem_mem hj,by simpa [List.getD_eq_getElem?_getD,hj]using hu⟩
 show oq.FF _ l u=_
 simp only[oq.FF,oq.T]
 by_cases hx:∃ x∈l,x.1=u
 ·rw[dD hx];exact h.2 (fun hh=>e.1 hh hx)
 ·rw[eU hx];exact h.1 (e.2 hx)
theorem take_snoc{α:Type}(l:List α)(i:Nat)(hi:i<l.length):l.take (i+1)=l.take i++[l[i]]:=by rw[List.take_add_one,List.getElem?_eq_getElem hi];rfl
theorem aeK{m:List I4}{n:List I3}(h:m.map k4=n.map k3)(i:Nat)(hm:i<m.length)(hn:i<n.length):m[i].1=n[i].1:=by
 have e:=congrArg (fun z:List Int=>z[i]?) h
 simpa [hm,hn,k4,k3]using e
theorem LD(s0 s1 s2 s3:Int)(l m:List I4)(n:List I3)(gl:List (Int×Unit))(hl:l.length≤1000)(hm:m.length≤60)(hid:m.map k4=n.map k3)(hg:gl.length≤1000):
  zH (s0,s1,s2,s3,l,m,n,gl,())=some (s0,s1,s2,s3,l,m.filter (fun x=> !bb (∃ y∈gl,y.1=x.1)),n.filter (fun x=> !bb (∃ y∈gl,y.1=x.1)),()):=by
 have hs:m.length=n.length:=by simpa using congrArg List.length hid
 show pz.FF _ s0 s1 s2 s3 l m n gl=_
 simp only[pz.FF,pz.T,copyS s0 s1 s2 s3 l m n (by omega) (by omega) (by omega),Option.bind_some]
 have key:=run 0 n.length (fun k i=>pz.G0 (300+l.length+m.length+n.length+gl.length) (pz.A0 s0 s1 s2 s3 l m n gl) k gl (i:Nat) s0 s1 s2 s3 l m n 0 0 0 0 s0 s1 s2 s3 l ((m.take i).filter (fun x=> !bb (∃ y∈gl,y.1=x.1))) ((n.take i).filter (fun x=> !bb (∃ y∈gl,y.1=x.1)))) (some (s0,s1,s2,s3,l,m.filter (fun x=> !bb (∃ y∈gl,y.1=x.1)),n.filter (fun x=> !bb (∃ y∈gl,y.1=x.1)),())) (fun k i _ hi=> ?_) (fun k=> ?_) (300+l.length+m.length+n.length+gl.length) (by omega) (by omega)
 ·simpa using key
 ·have him:i<m.length:=by omega
  have hw:af ((i:Int)+1)=((i+1:Nat):Int):=aI _ (by omega)
  have g1:rd (0,0,0,()) n (i:Int)=n[i]:=by rw[bZ,List.getD_eq_getElem?_getD,List.getElem?_eq_getElem hi];rfl
  have g2:rd (0,0,0,0,()) m (i:Int)=m[i]:=by rw[bZ,List.getD_eq_getElem?_getD,List.getElem?_eq_getElem him];rfl
  have b1:=List.length_filter_le (fun x:I3=> !bb (∃ y∈gl,y.1=x.1)) (n.take i)
  have b2:=List.length_filter_le (fun x:I4=> !bb (∃ y∈gl,y.1=x.1)) (m.take i)
  rw[List.length_take]at b1 b2
  have c1:(0:Int)≤(i:Int)∧(i:Int)<(n.length:Int):=by omega
  have c2:(0:Int)≤(i:Int)∧(i:Int)<(m.length:Int):=by omega
  have hii:=aeK hid i him hi
  rw[pz.G0,pz.R0]
  simp only[g1,g2,if_pos c1,if_pos c2,decide_eq_true c1.2,cond_true,adD gl _ (show gl.length≤1048576 by omega),Option.bind_some,hw,List.length_cons,List.length_nil,Nat.zero_add]
  rw[take_snoc m i him,take_snoc n i hi,List.filter_append,List.filter_append]
  by_cases hx:∃ y∈gl,y.1=n[i].1
  ·have hx':∃ y∈gl,y.1=m[i].1:=by rw[hii];exact hx
   rw[dD hx]
   simp only[Bool.not_true,cond_false,List.filter_cons,List.filter_nil,dD hx,dD hx',Bool.false_eq_true,if_false,List.append_nil]
  ·have hx':¬ ∃ y∈gl,y.1=m[i].1:=by rw[hii];exact hx
   rw[eU hx]
   simp only[Bool.not_false,cond_true,List.filter_cons,List.filter_nil,eU hx,eU hx',if_true]
   have r0:∀ z:Nat,z≤60→z+1≤maxRow:=fun z hz=>by unfold maxRow;omega
   rw[if_pos (r0 _ (Nat.le_trans (List.length_filter_le _ _) (by rw[List.length_take];omega))),if_pos (r0 _ (Nat.le_trans (List.length_filter_le _ _) (by rw[List.length_take];omega)))]
 ·simp only[pz.G0,pz.R0]
  rw[decide_eq_false (by omega),cond_false,List.take_of_length_le (Nat.le_refl _),List.take_of_length_le (by omega)]
  rfl
theorem UL(p:cZ→Bool)(k:Int):∀ (l:List I3) (b:Bool),iF k3 l→(∀ x∈l,x.1=k→l.foldl (fun b l=>if l.1=k then p l else b) b=p x)∧((∀ x∈l,x.1≠k)→l.foldl (fun b l=>if l.1=k then p l else b) b=b)
 | [],b,_=>⟨fun x hx=>(by cases hx),fun _=>rfl⟩
 |y::r,b,h=>by
  obtain⟨h1,h2⟩:=List.pairwise_cons.1 h
  have ih:=fun b=>UL p k r b h2
  simp only[List.foldl_cons]
  refine⟨fun x hx hk=> ?_,fun hn=> ?_⟩
  ·rcases List.mem_cons.1 hx with rfl |hx
   ·rw[if_pos hk]
    refine(ih _).2 fun z hz=> ?_
    have:x.1<z.1:=h1 z hz
    omega
   ·have:y.1<x.1:=h1 x hx
    rw[if_neg (by omega)]
    exact(ih _).1 x hx hk
  ·rw[if_neg (hn y (by simp))]
   exact(ih _).2 fun z hz=>hn z (List.mem_cons_of_mem _ hz)
theorem UN{s0 s1 s2 s3:Int}{l m:List I4}{n:List I3}(h:fU s0 s1 s2 s3 l m n)(p:cZ→Bool)(Q:Int→Prop)(hQ:∀ x∈n,p x=true↔Q x.1):
  n.filter (fun x=> !p x)=n.filter (fun x=> !bb (Q x.1))∧m.filter (fun x=> !qj p n x.1)=m.filter (fun x=> !bb (Q x.1)):=by
 have e1:∀ x∈n,p x=bb (Q x.1):=fun x hx=>by
  by_cases hh:Q x.1
  ·rw[dD hh,(hQ x hx).2 hh]
  ·rw[eU hh]
   have:=mt (hQ x hx).1 hh
   simpa using this
 refine⟨List.filter_congr fun x hx=>by rw[e1 x hx],List.filter_congr fun y hy=> ?_⟩
 have:k4 y∈n.map k3:=by rw[←h.ids];exact List.mem_map_of_mem hy
 obtain⟨x,hx,hxy⟩:=List.mem_map.1 this
 have hxy':x.1=y.1:=hxy
 have e2:qj p n y.1=p x:=(UL p y.1 n false h.yU).1 x hx hxy'
 rw[e2,e1 x hx,hxy']
theorem TR{s0 s1 s2 s3 s2':Int}{l m:List I4}{n:List I3}(h:fU s0 s1 s2 s3 l m n)(Q:Int→Prop)(hb:0≤s1∧s1≤s2'∧s2'≤999000)(hn:∀ x∈n,¬ Q x.1→s2'<x.2.2.1∧x.2.2.1≤s2'+s0):
  fU s0 s1 s2' s3 l (m.filter (fun x=> !bb (Q x.1))) (n.filter (fun x=> !bb (Q x.1))):=by
 refine⟨h.len,hb,⟨h.farm.cap,h.farm.ll,Nat.le_trans (List.length_filter_le _ _) h.farm.lm,h.farm.rl,List.Pairwise.sublist List.filter_sublist h.farm.rm,h.farm.gl,fun x hx=>h.farm.gm x (List.mem_filter.1 hx).1⟩, ?_,fun x hx=> ?_⟩
 ·have e1:(m.filter (fun x=> !bb (Q x.1))).map k4=(m.map k4).filter (fun u=> !bb (Q u)):=by rw[List.filter_map];rfl
  have e2:(n.filter (fun x=> !bb (Q x.1))).map k3=(n.map k3).filter (fun u=> !bb (Q u)):=by rw[List.filter_map];rfl
  rw[e1,e2,h.ids]
 ·obtain⟨h1,h2⟩:=List.mem_filter.1 hx
  have h3:¬ Q x.1:=fun hh=>by rw[dD hh]at h2;cases h2
  exact⟨(h.rn x h1).1,hn x h1 h3⟩
theorem adH{l:List I3}(h:iF k3 l){x z:I3}(hx:x∈l)(hz:z∈l)(e:x.1=z.1):x=z:=by
 obtain⟨i,hi,rfl⟩:=List.getElem_of_mem hx
 obtain⟨j,hj,rfl⟩:=List.getElem_of_mem hz
 rcases Nat.lt_trichotomy i j with h1 |h1 |h1
 ·have:l[i].1<l[j].1:=List.pairwise_iff_getElem.1 h i j hi hj h1
  omega
 ·subst h1;rfl
 ·have:l[j].1<l[i].1:=List.pairwise_iff_getElem.1 h j i hj hi h1
  omega
theorem fU.kL{s0 s1 s2 s3:Int}{l m:List I4}{n:List I3}(h:fU s0 s1 s2 s3 l m n):kL m n:=by
 refine⟨by have:=h.same;have:=h.farm.lm;omega,fun x hx=> ?_,fun x hx=> ?_⟩
 ·have:=(h.rn x hx).1.1
  unfold iG at this
  exact⟨by omega,by omega⟩
 ·have:=(h.farm.gm x hx).1
  unfold iG at this
  exact⟨by omega,by omega⟩
theorem acS(R:Type)(k0:Nat)(hx:Int→Int→Int→Int→List I4→List I4→List I3→Int→Int→Int→Int→Int→Int→Int→List (Int×Unit)→Option R)(s0 s1 s2 s3:Int)(l m:List I4)(n:List I3)(t1 t2 t3 t4 t5 t6 t7:Int)(hs:af (s2+1)=s2+1)(hn:n.length≤60)(k:Nat)(hk:n.length<k):
  gV.G0 k0 hx k 0 s0 s1 s2 s3 l m n t1 t2 t3 t4 t5 t6 t7 []=hx s0 s1 s2 s3 l m n t1 t2 t3 t4 t5 t6 t7 ((n.filter (fun x=>decide (x.2.2.1≤s2+1))).map fun x=>(x.1,())):=by
 have key:=run 0 n.length (fun k i=>gV.G0 k0 hx k (i:Nat) s0 s1 s2 s3 l m n t1 t2 t3 t4 t5 t6 t7 (((n.take i).filter (fun x=>decide (x.2.2.1≤s2+1))).map fun x=>(x.1,()))) (hx s0 s1 s2 s3 l m n t1 t2 t3 t4 t5 t6 t7 ((n.filter (fun x=>decide (x.2.2.1≤s2+1))).map fun x=>(x.1,()))) (fun k i _ hi=> ?_) (fun k=> ?_) k (by omega) (by omega)
 ·simpa using key
 ·have hw:af ((i:Int)+1)=((i+1:Nat):Int):=aI _ (by omega)
  have g1:rd (0,0,0,()) n (i:Int)=n[i]:=by rw[bZ,List.getD_eq_getElem?_getD,List.getElem?_eq_getElem hi];rfl
  have c1:(0:Int)≤(i:Int)∧(i:Int)<(n.length:Int):=by omega
  have r0:∀ z:Nat,z≤60→z+1≤maxRow:=fun z hz=>by unfold maxRow;omega
  rw[gV.G0,gV.R0]
  simp only[g1,if_pos c1,decide_eq_true c1.2,cond_true,hw,hs,List.length_cons,List.length_nil,Nat.zero_add]
  rw[take_snoc n i hi,List.filter_append,List.map_append]
  by_cases hx:n[i].2.2.1≤s2+1
  ·simp only[decide_eq_true hx,cond_true,List.filter_cons,List.filter_nil,if_true,List.map_cons,List.map_nil]
   rw[if_pos (r0 _ (by rw[List.length_map];exact Nat.le_trans (List.length_filter_le _ _) (by rw[List.length_take];omega)))]
  ·simp only[decide_eq_false hx,cond_false,List.filter_cons,List.filter_nil,Bool.false_eq_true,if_false,List.map_nil,List.append_nil]
 ·simp only[gV.G0,gV.R0]
  rw[decide_eq_false (by omega),cond_false,List.take_of_length_le (Nat.le_refl _)]
theorem ac0(R:Type)(k0:Nat)(hx:Int→Int→Int→Int→List I4→List I4→List I3→Int→Int→Int→Int→Int→Int→Int→List (Int×Unit)→Option R)(s0 s1 s2 s3:Int)(l m:List I4)(n:List I3)(t1 t2 t3 t4 t5 t6 t7:Int)(hn:n.length≤60)(k:Nat)(hk:n.length<k):
  gV.G1 k0 hx k 0 s0 s1 s2 s3 l m n t1 t2 t3 t4 t5 t6 t7 []=hx s0 s1 s2 s3 l m n t1 t2 t3 t4 t5 t6 t7 (n.map fun x=>(x.1,())):=by
 have key:=run 0 n.length (fun k i=>gV.G1 k0 hx k (i:Nat) s0 s1 s2 s3 l m n t1 t2 t3 t4 t5 t6 t7 ((n.take i).map fun x=>(x.1,()))) (hx s0 s1 s2 s3 l m n t1 t2 t3 t4 t5 t6 t7 (n.map fun x=>(x.1,()))) (fun k i _ hi=> ?_) (fun k=> ?_) k (by omega) (by omega)
 ·simpa using key
 ·have hw:af ((i:Int)+1)=((i+1:Nat):Int):=aI _ (by omega)
  have g1:rd (0,0,0,()) n (i:Int)=n[i]:=by rw[bZ,List.getD_eq_getElem?_getD,List.getElem?_eq_getElem hi];rfl
  have c1:(0:Int)≤(i:Int)∧(i:Int)<(n.length:Int):=by omega
  have r0:∀ z:Nat,z≤60→z+1≤maxRow:=fun z hz=>by unfold maxRow;omega
  rw[gV.G1,gV.R1]
  simp only[g1,if_pos c1,decide_eq_true c1.2,cond_true,hw,List.length_cons,List.length_nil,Nat.zero_add]
  rw[take_snoc n i hi,List.map_append,if_pos (r0 _ (by rw[List.length_map,List.length_take];omega))]
  rfl
 ·simp only[gV.G1,gV.R1]
  rw[decide_eq_false (by omega),cond_false,List.take_of_length_le (Nat.le_refl _)]
theorem aeQ(s0 s1 s2 s3:Int)(l m:List I4)(n:List I3)(k id g a b:Int):wO (s0,s1,s2,s3,l,m,n,k,id,g,a,b,())=nX s0 s1 s2 s3 l m n k id g a b:=rfl
theorem OE{s0 s1 s2 s3:Int}{l m:List I4}{n:List I3}(h:fU s0 s1 s2 s3 l m n)(k id g a b:Int)(hop:oU k id g a b=true):
  Gz (Fq s0 s1 s2 s3 l n k id g a b) s0 s1 s2 s3 l m n k id g a b (wO (s0,s1,s2,s3,l,m,n,k,id,g,a,b,())) (kE (s0,s1,s2,s3,l,m,n,k,id,g,a,b,())):=by
 have hf:=h.farm
 have hl:=hf.ll
 have hm:=hf.lm
 have hsame:=h.same
 have q1:=h.len
 have q2:=h.born
 have sS:kE (s0,s1,s2,s3,l,m,n,k,id,g,a,b,())=gV.FF (300+l.length+m.length+n.length) s0 s1 s2 s3 l m n k id g a b:=rfl
 rw[sS,aeQ]
 simp only[gV.FF,gV.T,xw s0 s1 s2 s3 l m n (by omega) (by omega) (by omega),dD (qZ.2 h),Ol,hop,Option.bind_some,Bool.not_true,cond_false]
 by_cases k1:k=1
 ·subst k1
  have hop':(bW id&&((g==0)||bW g)&&fQ a&&iY b)=true:=hop
  obtain⟨am,un,code,s1',s2',s3',l',m',n',e1,e2,e3,e4,ex⟩:=afG h id g a b hop'
  have hd:nX s0 s1 s2 s3 l m n 1 id g a b=qy (s0,s1,s2,s3,l,m,n,1,id,g,a,b,()):=if_pos rfl
  rw[hd]
  refine⟨am,un,code,s1',s2',s3',l',m',n',e1,e2,fun hc=>⟨(e3 hc).1, ?_⟩,fun hc=> ?_,fun _=>ex,fun h=>by omega,fun h=>by omega,fun h=>by omega,fun h=>absurd rfl h⟩
  ·rw[(e3 hc).2];rfl
  ·obtain⟨r1,r2,r3,r4,r5,r6,r7,r8,r9⟩:=e4 hc
   refine⟨r1,r2,r3,r4,r5,r6,r7,r8, ?_⟩
   rw[r9];rfl
 by_cases k2:k=2
 ·subst k2
  obtain⟨p,hc,hM⟩:=Ah s3 l m id (by omega) hf.rm
  obtain⟨e0,e1⟩:=Lm s3 l m id (by omega) hf.rm p hc
  have hd:nX s0 s1 s2 s3 l m n 2 id g a b=(oZ (s3,l,m,id,())).bind fun y=>if y.2.1=true then(if kL m n then some (0,0,0,lF s0 s1 s2 s3 l m n (fun l=>l.1==id))else none)else some (0,0,4,s0,s1,s2,s3,l,m,n,()):=by
   unfold nX
   rw[if_neg (by decide),if_pos rfl]
  rw[hd,hM,Option.bind_some]
  by_cases hi:bU k4 m id
  ·have hQ:∀ x∈n,(fun l:cZ=>l.1==id) x=true↔∃ y∈[((id,()):Int×Unit)],y.1=x.1:=fun x _=>by
    simp only[List.mem_cons,List.not_mem_nil,or_false,exists_eq_left,beq_iff_eq]
    exact eq_comm
   obtain⟨d1,d2⟩:=UN h (fun l=>l.1==id) (fun u=>∃ y∈[((id,()):Int×Unit)],y.1=u) hQ
   refine⟨0,0,0,s1,s2,s3,l,_,_, ?_,by omega,fun _=>⟨TR h (fun u=>∃ y∈[((id,()):Int×Unit)],y.1=u) h.born (fun x hx _=>(h.rn x hx).2), ?_⟩,fun h=>absurd rfl h,fun h=>by omega,fun _ _=>⟨rfl,rfl,rfl,d1.symm⟩,fun h=>by omega,fun h=>by omega,fun _ h=>absurd rfl h⟩
   ·rw[if_pos (dD hi),if_pos h.kL,lF,d1,d2]
   ·have hw:=LD s0 s1 s2 s3 l m n [(id,())] (by omega) hm h.ids (by simp)
    simp only[show((2:Int)==1)=false from rfl,show((2:Int)==2)=true from rfl,cond_false,cond_true,e0 hi,Option.bind_some,hw]
    rw[decide_eq_false (by omega),cond_false]
  ·refine⟨0,0,4,s1,s2,s3,l,m,n, ?_,by omega,fun h=>by omega,fun _=>⟨rfl,rfl,rfl,rfl,rfl,rfl,rfl,rfl, ?_⟩,fun h=>by omega,fun _ h=>by omega,fun h=>by omega,fun h=>by omega,fun _ h=>absurd rfl h⟩
   ·rw[if_neg (by rw[eU hi];exact Bool.false_ne_true)]
   ·simp only[show((2:Int)==1)=false from rfl,show((2:Int)==2)=true from rfl,cond_false,cond_true,e1 hi,Option.bind_some,EO]
    rw[decide_eq_true (by omega),cond_true]
 by_cases k4':k=4
 ·subst k4'
  by_cases h9:s2=999000
  ·subst h9
   refine⟨0,0,9,s1,999000,s3,l,m,n, ?_,by omega,fun h=>by omega,fun _=>⟨rfl,rfl,rfl,rfl,rfl,rfl,rfl,rfl,rfl⟩,fun h=>by omega,fun h=>by omega,fun _ h=>by omega,fun h=>by omega,fun _ _ h=>absurd rfl h⟩
   unfold nX
   rw[if_neg (by decide),if_neg (by decide),if_pos rfl,if_pos rfl]
  ·have hw1:af (s2+1)=s2+1:=aI _ (by omega)
   have hQ:∀ x∈n,(fun l:cZ=>decide (l.2.2.1≤s2+1)) x=true↔∃ y∈(n.filter (fun x=>decide (x.2.2.1≤s2+1))).map (fun x=>((x.1,()):Int×Unit)),y.1=x.1:=fun x hx=>by
    constructor
    ·intro hp
     exact⟨(x.1,()),List.mem_map.2 ⟨x,List.mem_filter.2 ⟨hx,hp⟩,rfl⟩,rfl⟩
    ·rintro⟨y,hy,hyx⟩
     obtain⟨z,hz,rfl⟩:=List.mem_map.1 hy
     obtain⟨hz1,hz2⟩:=List.mem_filter.1 hz
     have:=adH h.yU hz1 hx hyx
     subst this
     exact hz2
   obtain⟨d1,d2⟩:=UN h (fun l=>decide (l.2.2.1≤s2+1)) (fun u=>∃ y∈(n.filter (fun x=>decide (x.2.2.1≤s2+1))).map (fun x=>((x.1,()):Int×Unit)),y.1=u) hQ
   refine⟨0,0,0,s1,s2+1,s3,l,_,_, ?_,by omega,fun _=>⟨TR h (fun u=>∃ y∈(n.filter (fun x=>decide (x.2.2.1≤s2+1))).map (fun x=>((x.1,()):Int×Unit)),y.1=u) ⟨by omega,by omega,by omega⟩ (fun x hx hq=> ?_), ?_⟩,fun h=>absurd rfl h,fun h=>by omega,fun h=>by omega,fun _ _=>⟨rfl,rfl,rfl,d1.symm⟩,fun h=>by omega,fun _ _ h=>absurd rfl h⟩
   ·unfold nX
    rw[if_neg (by decide),if_neg (by decide),if_pos rfl,if_neg h9,if_pos ⟨h.kL,by omega,by omega⟩,lF,d1,d2]
   ·have h1:=mt (hQ x hx).1 hq
    have h2:¬ x.2.2.1≤s2+1:=by simpa using h1
    have h3:=(h.rn x hx).2
    omega
   ·have hw:=LD s0 s1 s2 s3 l m n ((n.filter (fun x=>decide (x.2.2.1≤s2+1))).map fun x=>(x.1,())) (by omega) hm h.ids (by rw[List.length_map];exact Nat.le_trans (List.length_filter_le _ _) (by omega))
    simp only[show((4:Int)==1)=false from rfl,show((4:Int)==2)=false from rfl,show((4:Int)==4)=true from rfl,cond_false,cond_true,beq_false_of_ne h9]
    rw[acS _ _ _ s0 s1 s2 s3 l m n _ _ _ _ _ _ _ hw1 (by omega) _ (by omega)]
    simp only[gV.A0,hw,Option.bind_some,hw1]
 by_cases k5:k=5
 ·subst k5
  have hw:=LD s0 s1 s2 s3 l m n (n.map fun x=>(x.1,())) (by omega) hm h.ids (by rw[List.length_map];omega)
  have en:n.filter (fun x=> !bb (∃ y∈n.map (fun x=>((x.1,()):Int×Unit)),y.1=x.1))=[]:=List.filter_eq_nil_iff.2 fun x hx=>by
   rw[dD ⟨(x.1,()),List.mem_map.2 ⟨x,hx,rfl⟩,rfl⟩]
   decide
  have em:m.filter (fun x=> !bb (∃ y∈n.map (fun x=>((x.1,()):Int×Unit)),y.1=x.1))=[]:=List.filter_eq_nil_iff.2 fun x hx=>by
   have:k4 x∈n.map k3:=by rw[←h.ids];exact List.mem_map_of_mem hx
   obtain⟨z,hz,hzx⟩:=List.mem_map.1 this
   rw[dD ⟨(z.1,()),List.mem_map.2 ⟨z,hz,rfl⟩,hzx⟩]
   decide
  rw[en,em]at hw
  refine⟨0,0,0,s2,s2,s3,l,[],[], ?_,by omega,fun _=>⟨⟨h.len,⟨by omega,by omega,by omega⟩,⟨hf.cap,hl,by simp,hf.rl,List.Pairwise.nil,hf.gl,fun x hx=>by cases hx⟩,rfl,fun x hx=>by cases hx⟩, ?_⟩,fun h=>absurd rfl h,fun h=>by omega,fun h=>by omega,fun h=>by omega,fun _=>⟨rfl,rfl,rfl,rfl,rfl,rfl⟩,fun _ _ _ h=>absurd rfl h⟩
  ·unfold nX
   rw[if_neg (by decide),if_neg (by decide),if_neg (by decide),if_pos rfl]
  ·simp only[show((5:Int)==1)=false from rfl,show((5:Int)==2)=false from rfl,show((5:Int)==4)=false from rfl,show((5:Int)==5)=true from rfl,cond_false,cond_true]
   rw[ac0 _ _ _ s0 s1 s2 s3 l m n _ _ _ _ _ _ _ (by omega) _ (by omega)]
   simp only[gV.A1,hw,Option.bind_some]
 -- the edits
 have hd:nX s0 s1 s2 s3 l m n k id g a b=(nC (k,id,g,a,b,())).bind fun e=>(ng (s3,l,m,e)).bind fun y=>some (0,0,y.1,s0,s1,s2,y.2.1,y.2.2.1,y.2.2.2.1,n,()):=by
  unfold nX
  rw[if_neg k1,if_neg k2,if_neg k4',if_neg k5]
 rw[hd,beq_false_of_ne k1,beq_false_of_ne k2,beq_false_of_ne k4',beq_false_of_ne k5]
 simp only[cond_false]
 have fin:∀ k',nC (k,id,g,a,b,())=some (k',id,g,a,b,())→pI (k,id,g,a,b,())=some (k',id,g,a,b,())→wo s3 l m k' id g a b→Gz (Fq s0 s1 s2 s3 l n k id g a b) s0 s1 s2 s3 l m n k id g a b ((nC (k,id,g,a,b,())).bind fun e=>(ng (s3,l,m,e)).bind fun y=>some (0,0,y.1,s0,s1,s2,y.2.1,y.2.2.1,y.2.2.2.1,n,()))
   ((pI (k,id,g,a,b,())).bind fun y10=>(kF (s3,l,m,y10.1,y10.2.1,y10.2.2.1,y10.2.2.2.1,y10.2.2.2.2.1,())).bind fun y11=>cond (y11.2.2.2.2.1 != 0) ((mg (y11.2.2.2.2.1,())).bind fun y12=>some (y12.1,y12.2.1,y12.2.2.1,y12.2.2.2.1,y12.2.2.2.2.1,y12.2.2.2.2.2.1,y12.2.2.2.2.2.2.1,y12.2.2.2.2.2.2.2.1,y12.2.2.2.2.2.2.2.2.1,y12.2.2.2.2.2.2.2.2.2.1,())) ((oh (s0,s1,s2,s3,l,m,n,())).bind fun y13=>some (y13.1,y13.2.1,y13.2.2.1,y11.1,y11.2.1,y11.2.2.1,y13.2.2.2.2.2.2.1,0,0,0,()))):=by
  rintro k' i1 i2 ⟨code,c',l',e1,e2,e3,e4⟩
  refine⟨0,0,code,s1,s2,c',l',m,n, ?_,e2,fun hc=> ?_,fun hc=> ?_,fun h=>absurd h k1,fun h=>absurd h k2,fun h=>absurd h k4',fun h=>absurd h k5,fun _ _ _ _ _=>⟨rfl,rfl,rfl⟩⟩
  ·rw[i1,Option.bind_some,e1,Option.bind_some]
  ·obtain⟨r1,r2⟩:=e3 hc
   refine⟨⟨h.len,h.born,r1,h.ids,h.rn⟩, ?_⟩
   simp only[i2,Option.bind_some,r2,copyS s0 s1 s2 s3 l m n (by omega) (by omega) (by omega)]
   rfl
  ·obtain⟨r1,r2,r3⟩:=e4 hc
   refine⟨rfl,rfl,rfl,rfl,r1,r2,rfl,rfl, ?_⟩
   simp only[i2,Option.bind_some,r3,EO,bne_iff_ne.2 hc,cond_true]
 by_cases k3':k=3
 ·subst k3'
  exact fin 8 (X7 id g a b) (XV id g a b) (afg hf id g a b hop)
 by_cases k6:k=6
 ·subst k6
  exact fin 6 (X6 id g a b) (XU id g a b) (afi hf id g a b hop)
 by_cases k7:k=7
 ·subst k7
  exact fin 7 (X5 id g a b) (XT id g a b) (afh hf id g a b hop)
 ·unfold oU at hop
  rw[if_neg k1,if_neg k2,if_neg k3',if_neg k4',if_neg k5,if_neg k6,if_neg k7]at hop
  cases hop
end Go.Rv
