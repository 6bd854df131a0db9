/- A function of the library by hand: RvHrow. -/
import Derived.Test.YtjknhphmhfbghaaGreatFM04
import Derived.Deep.WholeRow
import Derived.Deep.AppendSrc
import Derived.Lib.AppendZerosOnto
import Derived.Lib.Overlaps
import Derived.Shelf.Spec.SlicesInsert
import Derived.Deep.RegionLaw
import Derived.KernelRfl
set_option linter.unusedVariables false
set_option linter.unusedSimpArgs false
set_option linter.unusedSectionVars false
namespace Go.Rv
open Go.Proofs Go.RowKit Go.Shelf Go.Lib
def ints:List CT→Bool
 | []=>true
 | .int _::r=>ints r
 |_=>false
def bD:(e:List CT)→ah.V e→List Value
 | [],_=>[]
 | .int k::r,x=> .int k x.1::bD r x.2
 | .bool::r,x=> .bool x.1::bD r x.2
 | .str::r,x=> .string x.1::bD r x.2
 | .sl _::r,x=> .slice none 0 0::bD r x.2
 | .sh _::r,x=> .slice none 0 0::bD r x.2
theorem iH:∀ (e:List CT) (x:ah.V e),(bD e x).length=e.length
 | [],_=>rfl
 |c::r,x=>by cases c <;>simp[bD,iH r x.2]
theorem lN:∀ (e:List CT) (x:ah.V e),∀ v∈bD e x,v.oneCell'=true
 | [],_,v,h=>by simp[bD]at h
 |c::r,x,v,h=>by
  cases c <;>simp only[bD,List.mem_cons]at h <;>(rcases h with rfl |h;rfl;exact lN r x.2 v h)
def ai(e:List CT)(xs:List (ah.V e)):List Value:=xs.flatMap (bD e)
theorem dJ(e:List CT)(xs:List (ah.V e)):(ai e xs).length=xs.length*e.length:=by
 unfold ai
 induction xs with
 |nil=>simp
 |cons x r ih=>simp only[List.flatMap_cons,List.length_append,ih,iH,List.length_cons,Nat.add_mul,Nat.one_mul];omega
theorem jg(e:List CT)(xs ys:List (ah.V e)):ai e (xs++ys)=ai e xs++ai e ys:=by simp[ai]
theorem pW(e:List CT)(xs:List (ah.V e)):∀ v∈ai e xs,v.oneCell'=true:=by
 intro v h
 obtain⟨x,_,hx⟩:=List.mem_flatMap.1 h
 exact lN e x v hx
theorem Au(e:List CT)(xs:List (ah.V e))(i:Nat)(hi:i≤xs.length):(ai e xs).take (i*e.length)=ai e (xs.take i):=by
 have h:=jg e (xs.take i) (xs.drop i)
 rw[List.take_append_drop]at h
 have hl:(ai e (xs.take i)).length=i*e.length:=by rw[dJ,List.length_take,Nat.min_eq_left hi]
 rw[h,List.take_append_of_le_length (by omega),List.take_of_length_le (by omega)]
theorem rO(e:List CT)(xs:List (ah.V e))(i:Nat)(hi:i≤xs.length):(ai e xs).drop (i*e.length)=ai e (xs.drop i):=by
 have h:=jg e (xs.take i) (xs.drop i)
 rw[List.take_append_drop]at h
 have hl:(ai e (xs.take i)).length=i*e.length:=by rw[dJ,List.length_take,Nat.min_eq_left hi]
 rw[h,List.drop_append_of_le_length (by omega),List.drop_of_length_le (by omega),List.nil_append]
theorem NZ(w:World)(I:Nat→Prop):∀ (e:List CT) (x:ah.V e) (a:Addr),ints e=true→(bH I w e x a↔∀ j v,(bD e x)[j]? =some v→w.cell? (a.add j)=some v)
 | [],x,a,_=>by simp[bH,bD]
 |c::r,x,a,h=>by
  cases c with
  |int k=>
   have ih:=NZ w I r x.2 (a.add 1) (by simpa [ints]using h)
   have hadd:∀ j,(a.add 1).add j=a.add (j+1):=fun j=>by
    obtain⟨b,o,s⟩:=a
    unfold Addr.add
    (repeat' split) <;>simp_all <;>omega
   have h0:a.add 0=a:=by
    obtain⟨b,o,s⟩:=a
    unfold Addr.add
    (repeat' split) <;>simp_all
   simp only[bH,ih,bD]
   constructor
   ·rintro⟨⟨u,hu,hr⟩,h2⟩ j v hj
    cases j with
    |zero=>
     simp only[List.getElem?_cons_zero,Option.some.injEq]at hj
     rw[h0,hu, ←hj]
     exact congrArg some hr
    |succ j=>rw[←hadd];exact h2 j v (by simpa using hj)
   ·intro h1
    exact⟨⟨_,by have:=h1 0 _ rfl;rwa [h0]at this,rfl⟩,fun j v hj=>by rw[hadd];exact h1 (j+1) v (by simpa using hj)⟩
  |bool=>simp[ints]at h
  |str=>simp[ints]at h
  |sl e=>simp[ints]at h
  |sh e=>simp[ints]at h
theorem AQ(e:List CT):∀ (xs:List (ah.V e)) (i:Nat) (x:ah.V e),xs[i]? =some x→∀ j v,(bD e x)[j]? =some v→(ai e xs)[i*e.length+j]? =some v
 |y::r,0,x,h,j,v,hj=>by
  simp only[List.getElem?_cons_zero,Option.some.injEq]at h
  subst h
  have:=(List.getElem?_eq_some_iff.1 hj).1
  simp only[ai,List.flatMap_cons,Nat.zero_mul,Nat.zero_add]
  rw[List.getElem?_append_left this]
  exact hj
 |y::r,i+1,x,h,j,v,hj=>by
  have ih:=AQ e r i x (by simpa using h) j v hj
  simp only[ai,List.flatMap_cons]at ih ⊢
  rw[List.getElem?_append_right (by rw[iH,Nat.add_mul,Nat.one_mul];omega),iH]
  rw[show(i+1)*e.length+j - e.length=i*e.length+j by rw[Nat.add_mul,Nat.one_mul];omega]
  exact ih
def Row(w:World)(b:Nat)(e:List CT)(t:TypeId)(xs:List (ah.V e))(sp:List Value):Prop:=w.heap[b]? =some (.cells (ai e xs++sp).toArray t (0,0))
theorem ownRow{w:World}{h:Value}{b:Nat}{e:List CT}{xs:List (ah.V e)}(he:ints e=true)(H:OwnAt w h b e xs):
  ∃ cap sp t,h= .slice (some ⟨b,0,none⟩) xs.length cap∧0<cap∧xs.length≤cap∧cap≤maxLen∧Row w b e t xs sp∧sp.length=(cap - xs.length)*e.length:=by
 obtain⟨h0,cap,us,t,rfl,h1,h2,h3,h4,h5⟩:=H
 have hl:xs.length*e.length≤us.size:=by rw[h4];exact Nat.mul_le_mul_right _ h1
 have key:us.toList.take (xs.length*e.length)=ai e xs:=by
  by_cases hz:e.length=0
  ·have e0:e=[]:=List.length_eq_zero_iff.1 hz
   subst e0
   have:(ai [] xs).length=0:=by rw[dJ];simp
   rw[List.length_eq_zero_iff.1 this];simp
  ·refine List.ext_getElem? fun j=> ?_
   by_cases hj:j<xs.length*e.length
   ·have hq:j / e.length<xs.length:=Nat.div_lt_of_lt_mul (by rw[Nat.mul_comm];exact hj)
    have hm:j % e.length<e.length:=Nat.mod_lt _ (by omega)
    have hje:j / e.length*e.length+j % e.length=j:=Nat.div_add_mod' j e.length
    have hx:xs[j / e.length]? =some xs[j / e.length]:=List.getElem?_eq_getElem hq
    have hv:(bD e xs[j / e.length])[j % e.length]? =some ((bD e xs[j / e.length])[j % e.length]'(by rw[iH];exact hm)):=List.getElem?_eq_getElem (by rw[iH];exact hm)
    have c1:=AQ e xs _ _ hx _ _ hv
    have c2:=(NZ w _ e _ _ he).1 (h5 _ _ hx) _ _ hv
    rw[dU,hje]at c2
    rw[hje]at c1
    rw[c1,List.getElem?_take_of_lt hj]
    simp only[World.cell?, h3]at c2
    simpa using c2
   ·rw[List.getElem?_eq_none (by rw[List.length_take];omega),List.getElem?_eq_none (by rw[dJ];omega)]
 refine⟨cap,us.toList.drop (xs.length*e.length),t,rfl, ?_,h1,h2, ?_, ?_⟩
 ·refine Nat.pos_of_ne_zero fun hc=>h0 ⟨some ⟨b,0,none⟩, ?_⟩
  subst hc
  rw[Nat.le_zero.1 h1]
 ·unfold Row
  rw[h3, ←key,List.take_append_drop]
 ·rw[List.length_drop,Array.length_toList,h4,Nat.sub_mul]
theorem qP{w:World}{b cap:Nat}{e:List CT}{t:TypeId}{xs:List (ah.V e)}{sp:List Value}(he:ints e=true)(H:Row w b e t xs sp)(h0:0<cap)(h1:xs.length≤cap)(h2:cap≤maxLen)(h3:sp.length=(cap - xs.length)*e.length):
  OwnAt w (.slice (some ⟨b,0,none⟩) xs.length cap) b e xs:=by
 refine⟨?_,cap,_,t,rfl,h1,h2,H, ?_, ?_⟩
 ·rintro⟨a,ha⟩
  simp only[Value.slice.injEq]at ha
  omega
 ·simp only[List.size_toArray,List.length_append,dJ,h3, ←Nat.add_mul]
  congr 1
  omega
 ·intro i x hx
  refine(NZ w _ e x _ he).2 fun j v hj=> ?_
  rw[dU]
  have c:=AQ e xs i x hx j v hj
  simp only[World.cell?, show w.heap[b]? =_ from H]
  simp only[Option.isSome_none,Bool.false_eq_true,if_false,List.getElem?_toArray]
  rw[List.getElem?_append_left (List.getElem?_eq_some_iff.1 c).1]
  exact c
theorem nD{P:Program}(w:World)(dT sT ty el:TypeId)(i:TypeInfo)(b o dLen dCap:Nat)(a:Option Addr)(sLen sCap:Nat)(cur:Array Value)(t:TypeId)(cs:List Value)
  (hu:P.underlying dT=some (.slice el)) (hi:P.info? el=some i) (hg:w.heap[b]? =some (.cells cur t (0,0)))
  (hsrc:(Builtin.firstCells i.size (Nat.min sLen dLen) (.slice a sLen sCap)).run P w= .ok cs.toArray w) (hfit:o+cs.length≤cur.size) (h1:∀ v∈cs,v.oneCell'=true):
  (Builtin.copy_ #[dT,sT] ty #[.slice (some ⟨b,o,none⟩) dLen dCap,.slice a sLen sCap]).run P w=
   .ok (goInt (Nat.min sLen dLen)) (w.setRow b (cur.toList.take o++cs++cur.toList.drop (o+cs.length)).toArray):=by
 have hst:=run_storeCells_at P b o t cs 0 cur w hg (by simpa using hfit) h1
 simp only[Nat.add_zero]at hst
 simp[Builtin.copy_,run_underlying hu,Builtin.lenOf,sizeOf,typeInfo,hi,hsrc,hst]
theorem nJ{P:Program}(w:World)(size n b o sLen sCap:Nat)(cs:List Value)(hl:cs.length=n*size)(hc:∀ j v,cs[j]? =some v→w.cell? ⟨b,o+j,none⟩=some v):
  (Builtin.firstCells size n (.slice (some ⟨b,o,none⟩) sLen sCap)).run P w= .ok cs.toArray w:=by
 have:=run_loadCells_list (P:=P) w ⟨b,o,none⟩ cs fun j v hj=>by rw[dU];exact hc j v hj
 rw[hl]at this
 simpa [Builtin.firstCells]using this
theorem DZ{P:Program}(w:World)(t ty el:TypeId)(z:Value)(i:TypeInfo)(b o n c:Nat)(cur:Array Value)(te:TypeId)(zs:List Value)(hu:P.underlying t=some (.slice el))(hi:P.info? el=some i)(hz:i.zero=some z)(hn:0<n)(hzs:(Builtin.zeroCells z.cells n).toList=zs)
  (hg:w.heap[b]? =some (.cells cur te (0,0))) (hfit:o+zs.length≤cur.size) (h1:∀ v∈zs,v.oneCell'=true):
  (Builtin.clear_ #[t] ty #[.slice (some ⟨b,o,none⟩) n c]).run P w= .ok (.tuple #[]) (w.setRow b (cur.toList.take o++zs++cur.toList.drop (o+zs.length)).toArray):=by
 have hst:=run_storeCells_at P b o te zs 0 cur w hg (by simpa using hfit) h1
 simp only[Nat.add_zero]at hst
 obtain⟨m,rfl⟩:∃ m,n=m+1:=⟨n - 1,by omega⟩
 simp[Builtin.clear_,run_underlying hu,zeroValue,typeInfo,hi,hz,hzs,hst]
theorem jD(w:World)(b:Nat)(cur us:Array Value)(t:TypeId)(h:w.heap[b]? =some (.cells cur t (0,0))):(w.setRow b us).heap[b]? =some (.cells us t (0,0)):=setRow_heap w b cur us t _ h
theorem kK{D:Kn}(B:Nat)(T:List Nat)(w:World)(b:Nat)(us:Array Value)(hb:b∈T∨B≤b):aO D B T w (w.setRow b us):=
 ⟨rfl,rfl,rfl,by rw[setRow_size];exact Nat.le_refl _,fun k hk hn=>setRow_other w b k us (by rintro rfl;rcases hb with h |h;exact hn h;omega),fun _=>Nat.le_refl _⟩
theorem pV{D:Kn}(B:Nat)(T:List Nat)(w:World):aO D B T w w.drew:=aO.of_below (Below.drew (Below.refl B w)) T
theorem xC{D:Kn}(T:List Nat)(w:World)(o:Obj):aO D w.heap.size T w (w.alloc o):=aO.of_below (Below.alloc (Below.refl _ w) (Nat.le_refl _) o) T
end Go.Rv
namespace Go.Rv
open Go.Proofs Go.RowKit Go.Shelf Go.Lib
theorem Ag(P:Program)(w:World)(b o:Nat)(vs:List Value)(cur:Array Value)(t:TypeId)(hg:w.heap[b]? =some (.cells cur t (0,0)))(hfit:o+vs.length≤cur.size)(h1:∀ v∈vs,v.oneCell'=true):
  w.setCells b o vs=w.setRow b (cur.toList.take o++vs++cur.toList.drop (o+vs.length)).toArray:=by
 have h2:=run_storeCells_at P b o t vs 0 cur w hg (by simpa using hfit) h1
 have h3:=run_storeCells_cells (P:=P) b o vs 0 w (fun j hj=>by simp[World.cell?, hg,show o+j<cur.size by omega]) (fun j hj=>by simp[World.frozen?, hg]) h1
 rw[h2]at h3
 simpa using h3.symm
theorem cut{α:Type}(A B C:List α)(i j:Nat)(hi:i=A.length)(hj:j=A.length+B.length):(A++B++C).take i=A∧(A++B++C).drop j=C:=by
 subst hi hj
 constructor
 ·rw[List.append_assoc,List.take_left']
  rfl
 ·rw[←List.length_append,List.drop_left']
  rfl
theorem Bj(e:List CT)(x:ah.V e):ai e [x]=bD e x:=by simp[ai]
theorem TS(e:List CT)(ys:List (ah.V e))(sp:List Value)(i:Nat)(x:ah.V e)(hi:i<ys.length):
  (ai e ys++sp).take (i*e.length)++bD e x++(ai e ys++sp).drop (i*e.length+(bD e x).length)=ai e (ys.set i x)++sp:=by
 have hs:ys=ys.take i++[ys[i]]++ys.drop (i+1):=by simp
 have h:ai e ys++sp=ai e (ys.take i)++bD e ys[i]++(ai e (ys.drop (i+1))++sp):=by
  conv=>lhs;rw[hs,jg,jg,Bj]
  simp[List.append_assoc]
 obtain⟨h1,h2⟩:=cut (ai e (ys.take i)) (bD e ys[i]) (ai e (ys.drop (i+1))++sp) (i*e.length) (i*e.length+(bD e x).length) (by rw[dJ,List.length_take];congr 1;omega) (by rw[dJ,List.length_take,iH,iH];congr 2;omega)
 rw[h,h1,h2,List.set_eq_take_append_cons_drop,if_pos hi,jg,show x::ys.drop (i+1)=[x]++ys.drop (i+1)from rfl,jg,Bj]
 simp[List.append_assoc]
theorem LV(e:List CT)(xs:List (ah.V e))(sp:List Value)(i:Nat)(x:ah.V e)(hi:i≤xs.length)(hsp:e.length≤sp.length)(L1:List Value)
  (h1:L1=(ai e xs++sp).take ((i+1)*e.length)++ai e (xs.drop i)++(ai e xs++sp).drop ((i+1)*e.length+(ai e (xs.drop i)).length)):
  L1.take (i*e.length)++bD e x++L1.drop (i*e.length+(bD e x).length)=ai e (xs.take i++x::xs.drop i)++sp.drop e.length:=by
 have e1:(i+1)*e.length=i*e.length+e.length:=by rw[Nat.add_mul,Nat.one_mul]
 have h2:ai e xs++sp=ai e (xs.take i)++(ai e (xs.drop i)++sp):=by rw[←List.append_assoc, ←jg,List.take_append_drop]
 have l1:(ai e (xs.take i)).length=i*e.length:=by rw[dJ,List.length_take];congr 1;omega
 have l2:(ai e (xs.drop i)).length=(xs.length - i)*e.length:=by rw[dJ,List.length_drop]
 have h3:(ai e xs++sp).take ((i+1)*e.length)=ai e (xs.take i)++(ai e (xs.drop i)++sp).take e.length:=by
  rw[h2,List.take_append,l1,e1,List.take_of_length_le (by omega)]
  congr 2
  omega
 have h4:(ai e xs++sp).drop ((i+1)*e.length+(ai e (xs.drop i)).length)=sp.drop e.length:=by
  rw[h2,List.drop_append,l1,l2,e1,List.drop_of_length_le (by omega),List.nil_append,List.drop_append,l2,List.drop_of_length_le (by omega),List.nil_append]
  congr 1
  omega
 have l3:((ai e (xs.drop i)++sp).take e.length).length=e.length:=by rw[List.length_take,List.length_append];omega
 rw[h3,h4]at h1
 rw[List.append_assoc]at h1
 obtain⟨k1,k2⟩:=cut (ai e (xs.take i)) ((ai e (xs.drop i)++sp).take e.length) (ai e (xs.drop i)++sp.drop e.length) (i*e.length) (i*e.length+(bD e x).length) l1.symm (by rw[l1,l3,iH])
 rw[h1,k1,k2,jg,show x::xs.drop i=[x]++xs.drop i from rfl,jg,Bj]
 simp[List.append_assoc]
theorem TT(e:List CT)(xs:List (ah.V e))(sp Z:List Value)(i j:Nat)(hij:i≤j)(hj:j≤xs.length)(hZ:Z.length=(j - i)*e.length)(L1:List Value)
  (h1:L1=(ai e xs++sp).take (i*e.length)++ai e (xs.drop j)++(ai e xs++sp).drop (i*e.length+(ai e (xs.drop j)).length)):
  L1.take ((i+(xs.length - j))*e.length)++Z++L1.drop ((i+(xs.length - j))*e.length+Z.length)=ai e (xs.take i++xs.drop j)++(Z++sp):=by
 have l1:(ai e (xs.take i)).length=i*e.length:=by rw[dJ,List.length_take];congr 1;omega
 have l2:(ai e (xs.drop j)).length=(xs.length - j)*e.length:=by rw[dJ,List.length_drop]
 have h2:ai e xs++sp=ai e (xs.take i)++(ai e (xs.drop i)++sp):=by rw[←List.append_assoc, ←jg,List.take_append_drop]
 have h3:(ai e xs++sp).take (i*e.length)=ai e (xs.take i):=by rw[h2,List.take_left' l1]
 rw[h3]at h1
 have l0:(ai e xs).length=xs.length*e.length:=dJ e xs
 have e1:(i+(xs.length - j))*e.length=i*e.length+(xs.length - j)*e.length:=Nat.add_mul _ _ _
 have e2:xs.length*e.length=i*e.length+(xs.length - j)*e.length+(j - i)*e.length:=by rw[←Nat.add_mul, ←Nat.add_mul];congr 1;omega
 rw[List.drop_append_of_le_length (by rw[l0,l2];omega)]at h1
 obtain⟨k1,k2⟩:=cut (ai e (xs.take i)++ai e (xs.drop j)) ((ai e xs).drop (i*e.length+(ai e (xs.drop j)).length)) sp ((i+(xs.length - j))*e.length) ((i+(xs.length - j))*e.length+Z.length) (by rw[List.length_append,l1,l2,e1]) (by rw[List.length_append,List.length_drop,l0,l1,l2,e1,hZ];omega)
 have h4:L1=ai e (xs.take i)++ai e (xs.drop j)++(ai e xs).drop (i*e.length+(ai e (xs.drop j)).length)++sp:=by rw[h1];simp[List.append_assoc]
 rw[h4,k1,k2,jg]
 simp[List.append_assoc]
theorem kX(e:List CT)(x:ah.V e):ai e [x]=bD e x:=Bj e x
theorem xE{w:World}{b:Nat}{e:List CT}{t:TypeId}{xs:List (ah.V e)}{sp:List Value}(h:Row w b e t xs sp):w.shape? b=some (t,(ai e xs++sp).toArray.size):=by
 unfold World.shape?
 rw[show w.heap[b]? =_ from h]
theorem ou{w:World}{b:Nat}{e:List CT}{t:TypeId}{xs:List (ah.V e)}{sp:List Value}(h:Row w b e t xs sp)(o:Nat):w.frozen? ⟨b,o,none⟩=false:=by
 unfold World.frozen?
 rw[show w.heap[b]? =_ from h]
 simp
theorem LW(e:List CT)(xs:List (ah.V e))(sp:List Value)(y:ah.V e):
  (ai e xs++sp).take (xs.length*e.length)++bD e y++(ai e xs++sp).drop (xs.length*e.length+(bD e y).length)=ai e (xs++[y])++sp.drop e.length:=by
 have l0:=dJ e xs
 rw[List.take_left' l0,List.drop_append,List.drop_of_length_le (by omega),List.nil_append,jg,Bj,iH,l0,Nat.add_sub_cancel_left]
theorem jK{w:World}{b:Nat}{e:List CT}{t:TypeId}{xs:List (ah.V e)}{sp:List Value}(h:Row w b e t xs sp)(o:Nat):w.cell? ⟨b,o,none⟩=(ai e xs++sp)[o]? :=by
 unfold World.cell?
 rw[show w.heap[b]? =_ from h]
 simp
theorem jW{w:World}{b:Nat}{e:List CT}{t:TypeId}{xs:List (ah.V e)}{sp:List Value}(h:Row w b e t xs sp):b<w.heap.size:=(Array.getElem?_eq_some_iff.1 h).1
theorem NY(w:World)(e:List CT)(t:TypeId)(xs:List (ah.V e))(sp:List Value):Row (w.alloc (.cells (ai e xs++sp).toArray t)) w.heap.size e t xs sp:=by
 show((w.heap.push _)[w.heap.size]?)=_
 simp
theorem kY{w:World}{b:Nat}{t:TypeId}{cur:Array Value}(e:List CT)(xs:List (ah.V e))(sp:List Value)(h:w.heap[b]? =some (.cells cur t (0,0))):Row (w.setRow b (ai e xs++sp).toArray) b e t xs sp:=jD w b cur _ t h
theorem aO.mono'{D:Kn}{B B':Nat}{T:List Nat}{a b:World}(h:aO D B T a b)(hB:B'≤B):aO D B' T a b:=⟨h.os,h.tape,h.output,h.size,fun k hk hn=>h.block k (by omega) hn,h.drawn⟩
theorem aO.wide{D:Kn}{B:Nat}{T T':List Nat}{a b:World}(h:aO D B T a b)(hT:∀ x∈T,x∈T'):aO D B T' a b:=⟨h.os,h.tape,h.output,h.size,fun k hk hn=>h.block k hk (fun hm=>hn (hT k hm)),h.drawn⟩
theorem aO.fresh{D:Kn}{B:Nat}{T:List Nat}{a b:World}(h:aO D B T a b):aO D B (T.filter (· <B)) a b:=⟨h.os,h.tape,h.output,h.size,fun k hk hn=>h.block k hk (fun hm=>hn (List.mem_filter.2 ⟨hm,by simpa using hk⟩)),h.drawn⟩
theorem ny(P:Program)(w:World)(cs:List Value)(T:TypeId)(j:Nat)(z:Int)(hj:j<cs.length):(store ⟨w.heap.size,j,none⟩ (.int .i64 z)).run P (w.alloc (.cells cs.toArray T))= .ok () (w.alloc (.cells (cs.set j (.int .i64 z)).toArray T)):=by
 have hg:(w.alloc (.cells cs.toArray T)).heap[w.heap.size]? =some (.cells cs.toArray T (0,0)):=by
  show(w.heap.push _)[w.heap.size]? =_
  simp
 have hc:(w.alloc (.cells cs.toArray T)).cell? ⟨w.heap.size,j,none⟩=some cs[j]:=by
  unfold World.cell?
  rw[hg]
  simp[hj]
 have hf:(w.alloc (.cells cs.toArray T)).frozen? ⟨w.heap.size,j,none⟩=false:=by
  unfold World.frozen?
  rw[hg]
  simp
 rw[run_store P _ _ _ _ rfl,hc]
 simp only[hf,Bool.false_eq_true,if_false]
 rw[setCell_eq_setRow _ _ _ _ _ _ _ hg,World.setRow_alloc_new]
 simp
theorem KX(P:Program)(W:World)(b:Nat)(cs:List Value)(T:TypeId)(o:Nat)(z:Int)(hg:W.heap[b]? =some (.cells cs.toArray T (0,0)))(ho:o<cs.length):(store ⟨b,o,none⟩ (.int .i64 z)).run P W= .ok () (W.setRow b (cs.set o (.int .i64 z)).toArray):=by
 have hc:W.cell? ⟨b,o,none⟩=some cs[o]:=by
  unfold World.cell?
  rw[hg]
  simp[ho]
 have hf:W.frozen? ⟨b,o,none⟩=false:=by
  unfold World.frozen?
  rw[hg]
  simp
 rw[run_store P _ _ _ _ rfl,hc]
 simp only[hf,Bool.false_eq_true,if_false]
 rw[setCell_eq_setRow _ _ _ _ _ _ _ hg]
 simp
theorem zZ(P:Program)(W:World)(b:Nat)(c0 cs:List Value)(T:TypeId)(o:Nat)(z:Int)(hg:W.heap[b]? =some (.cells c0.toArray T (0,0)))(ho:o<cs.length):(store ⟨b,o,none⟩ (.int .i64 z)).run P (W.setRow b cs.toArray)= .ok () (W.setRow b (cs.set o (.int .i64 z)).toArray):=by
 rw[KX P _ b cs T o z (jD W b _ _ T hg) ho,setRow_setRow]
def E8:List Value→Nat→List Value→List Value
 |L,_,[]=>L
 |L,o,v::r=>E8 (L.set o v) (o+1) r
theorem Nj:∀ (vs L:List Value) (o:Nat),o+vs.length≤L.length→E8 L o vs=L.take o++vs++L.drop (o+vs.length)
 | [],L,o,_=>by simp[E8]
 |v::r,L,o,h=>by
  simp only[List.length_cons]at h
  rw[E8,Nj r (L.set o v) (o+1) (by rw[List.length_set];omega)]
  have e1:(L.set o v).take (o+1)=L.take o++[v]:=by
   rw[List.take_add_one,List.getElem?_set,if_pos rfl,if_pos (by omega),List.take_set,List.set_eq_of_length_le (by rw[List.length_take];omega)]
   rfl
  rw[e1,List.drop_set,if_pos (by omega),List.length_cons,show o+1+r.length=o+(r.length+1) by omega]
  simp
theorem cell_of{W:World}{b:Nat}{cs:List Value}{T:TypeId}{o:Nat}{v:Value}(hg:W.heap[b]? =some (.cells cs.toArray T (0,0)))(hv:cs[o]? =some v):W.cell? ⟨b,o,none⟩=some v:=by
 unfold World.cell?
 rw[hg]
 simpa using hv
end Go.Rv
