/- Plain facts: len64, div64. -/
import Derived.Test.YtjknhphmhfbghaaGreatFM21
set_option linter.unusedVariables false
set_option linter.unusedSimpArgs false
set_option linter.unusedSectionVars false
namespace Go.Rv
def len8:List UInt8:=[0,1,2,2,3,3,3,3,4,4,4,4,4,4,4,4,5,5,5,5,5,5,5,5,5,5,5,5,5,5,5,5,6,6,6,6,6,6,6,6,6,6,6,6,6,6,6,6,6,6,6,6,6,6,6,6,6,6,6,6,6,6,6,6,7,7,7,7,7,7,7,7,7,7,7,7,7,7,7,7,7,7,7,7,7,7,7,7,7,7,7,7,7,7,7,7,7,7,7,7,7,7,7,7,7,7,7,7,7,7,7,7,7,7,7,7,7,7,7,7,7,7,7,7,7,7,7,7,8,8,8,8,8,8,8,8,8,8,8,8,8,8,8,8,8,8,8,8,8,8,8,8,8,8,8,8,8,8,8,8,8,8,8,8,8,8,8,8,8,8,8,8,8,8,8,8,8,8,8,8,8,8,8,8,8,8,8,8,8,8,8,8,8,8,8,8,8,8,8,8,8,8,8,8,8,8,8,8,8,8,8,8,8,8,8,8,8,8,8,8,8,8,8,8,8,8,8,8,8,8,8,8,8,8,8,8,8,8,8,8,8,8,8,8,8,8,8,8,8,8,8,8,8,8,8,8]
noncomputable def X4(S:ByteArray)(x:Int):Option (Int×Unit):=cond (decide (x≥4294967296)) (cond (decide ((Int.fdiv x (2 ^ 32))≥65536)) (cond (decide ((Int.fdiv (Int.fdiv x (2 ^ 32)) (2 ^ 16))≥256)) (if 0≤(IntKind.u8.wrap ((Int.fdiv (Int.fdiv (Int.fdiv x (2 ^ 32)) (2 ^ 16)) (2 ^ 8))))∧(IntKind.u8.wrap ((Int.fdiv (Int.fdiv (Int.fdiv x (2 ^ 32)) (2 ^ 16)) (2 ^ 8))))<(S.size:Int)then some ((af ((af ((af (32+16))+8))+(af ((bt S (IntKind.u8.wrap ((Int.fdiv (Int.fdiv (Int.fdiv x (2 ^ 32)) (2 ^ 16)) (2 ^ 8))))))))),())else none) (if 0≤(IntKind.u8.wrap ((Int.fdiv (Int.fdiv x (2 ^ 32)) (2 ^ 16))))∧(IntKind.u8.wrap ((Int.fdiv (Int.fdiv x (2 ^ 32)) (2 ^ 16))))<(S.size:Int)then some ((af ((af (32+16))+(af ((bt S (IntKind.u8.wrap ((Int.fdiv (Int.fdiv x (2 ^ 32)) (2 ^ 16))))))))),())else none)) (cond (decide ((Int.fdiv x (2 ^ 32))≥256)) (if 0≤(IntKind.u8.wrap ((Int.fdiv (Int.fdiv x (2 ^ 32)) (2 ^ 8))))∧(IntKind.u8.wrap ((Int.fdiv (Int.fdiv x (2 ^ 32)) (2 ^ 8))))<(S.size:Int)then some ((af ((af (32+8))+(af ((bt S (IntKind.u8.wrap ((Int.fdiv (Int.fdiv x (2 ^ 32)) (2 ^ 8))))))))),())else none) (if 0≤(IntKind.u8.wrap ((Int.fdiv x (2 ^ 32))))∧(IntKind.u8.wrap ((Int.fdiv x (2 ^ 32))))<(S.size:Int)then some ((af (32+(af ((bt S (IntKind.u8.wrap ((Int.fdiv x (2 ^ 32))))))))),())else none))) (cond (decide (x≥65536)) (cond (decide ((Int.fdiv x (2 ^ 16))≥256)) (if 0≤(IntKind.u8.wrap ((Int.fdiv (Int.fdiv x (2 ^ 16)) (2 ^ 8))))∧(IntKind.u8.wrap ((Int.fdiv (Int.fdiv x (2 ^ 16)) (2 ^ 8))))<(S.size:Int)then some ((af ((af ((af (0+16))+8))+(af ((bt S (IntKind.u8.wrap ((Int.fdiv (Int.fdiv x (2 ^ 16)) (2 ^ 8))))))))),())else none) (if 0≤(IntKind.u8.wrap ((Int.fdiv x (2 ^ 16))))∧(IntKind.u8.wrap ((Int.fdiv x (2 ^ 16))))<(S.size:Int)then some ((af ((af (0+16))+(af ((bt S (IntKind.u8.wrap ((Int.fdiv x (2 ^ 16))))))))),())else none)) (cond (decide (x≥256)) (if 0≤(IntKind.u8.wrap ((Int.fdiv x (2 ^ 8))))∧(IntKind.u8.wrap ((Int.fdiv x (2 ^ 8))))<(S.size:Int)then some ((af ((af (0+8))+(af ((bt S (IntKind.u8.wrap ((Int.fdiv x (2 ^ 8))))))))),())else none) (if 0≤(IntKind.u8.wrap (x))∧(IntKind.u8.wrap (x))<(S.size:Int)then some ((af (0+(af ((bt S (IntKind.u8.wrap (x))))))),())else none)))
theorem aem(x:Int):Df (x,())=X4 (qO len8) x:=rfl
def t8(i:Nat):Nat:=((qO len8).get! i).toNat
theorem aeZ:∀ i:Fin 256,decide (i.1<2 ^ t8 i.1∧(0<i.1→0<t8 i.1∧2 ^ (t8 i.1 - 1)≤i.1)∧t8 i.1≤8)=true:=by decide+kernel
theorem ad8(x k:Nat):Int.fdiv (x:Int) (2 ^ k)=((x / 2 ^ k:Nat):Int):=Fh x k
theorem u8_in(n:Nat)(h:n<256):IntKind.u8.wrap (n:Int)=n:=by simp[IntKind.wrap,IntKind.bits,IntKind.signed];omega
theorem aeE(x k:Nat)(hx:0<x)(hj:x / 2 ^ k<256)(hk:k≤56)(hj0:2 ^ k≤x):
  ∃ L:Nat,k+t8 (x / 2 ^ k)=L∧1≤L∧L≤64∧2 ^ (L - 1)≤x∧x<2 ^ L:=by
 have h:=aeZ ⟨x / 2 ^ k,hj⟩
 rw[decide_eq_true_iff]at h
 obtain⟨h1,h2,h3⟩:=h
 have hp:0<2 ^ k:=Nat.two_pow_pos k
 have hq:0<x / 2 ^ k:=Nat.div_pos hj0 hp
 obtain⟨h4,h5⟩:=h2 hq
 simp only at h1 h3 h4 h5
 refine⟨_,rfl,by omega,by omega, ?_, ?_⟩
 ·rw[show k+t8 (x / 2 ^ k) - 1=k+(t8 (x / 2 ^ k) - 1) by omega,Nat.pow_add]
  exact Nat.le_trans (Nat.mul_le_mul_left _ h5) (Nat.mul_div_le x (2 ^ k))
 ·rw[Nat.pow_add]
  have:=Nat.lt_mul_div_succ x hp
  exact Nat.lt_of_lt_of_le this (Nat.mul_le_mul_left _ h1)
theorem ae1:(qO len8).size=256:=by decide+kernel
theorem afk(n:Nat):bt (qO len8) (n:Int)=(t8 n:Int):=by
 unfold bt t8
 rw[Int.toNat_natCast]
theorem ac7(x:Nat)(hx:0<x)(hx2:x<18446744073709551616):∃ L:Nat,Df ((x:Int),())=some ((L:Int),())∧1≤L∧L≤64∧2 ^ (L - 1)≤x∧x<2 ^ L:=by
 have fin:∀ (k:Nat),k≤56→x / 2 ^ k<256→2 ^ k≤x→∀ (j c:Int),j=((x / 2 ^ k:Nat):Int)→c=(k:Int)→
   ∃ L:Nat,(if 0≤IntKind.u8.wrap j∧IntKind.u8.wrap j<((qO len8).size:Int)then some (af (c+af (bt (qO len8) (IntKind.u8.wrap j))),())else none)=some ((L:Int),())∧1≤L∧L≤64∧2 ^ (L - 1)≤x∧x<2 ^ L:=by
  intro k hk h1 h2 j c hj hc
  obtain⟨L,e,l1,l2,l3,l4⟩:=aeE x k hx h1 hk h2
  subst hj hc
  refine⟨L, ?_,l1,l2,l3,l4⟩
  rw[u8_in _ h1,if_pos ⟨Int.natCast_nonneg _,by rw[ae1];omega⟩]
  have hb:bt (qO len8) ((x / 2 ^ k:Nat):Int)=(t8 (x / 2 ^ k):Int):=afk _
  have hw:af (t8 (x / 2 ^ k):Int)=(t8 (x / 2 ^ k):Int):=aI _ (by omega)
  rw[hb,hw,aI _ (by omega),show((k:Int)+(t8 (x / 2 ^ k):Int))=(L:Int) by omega]
 rw[aem]
 unfold X4
 simp only[ad8]
 generalize hS:qO len8=S at fin ⊢
 have w1:af (32+16)=48:=aI _ (by omega)
 have w2:af (48+8)=56:=aI _ (by omega)
 have w3:af (32+8)=40:=aI _ (by omega)
 have w4:af (0+16)=16:=aI _ (by omega)
 have w5:af (16+8)=24:=aI _ (by omega)
 have w6:af (0+8)=8:=aI _ (by omega)
 simp only[w1,w2,w3,w4,w5,w6]
 by_cases c1:(x:Int)≥4294967296
 ·rw[decide_eq_true c1,cond_true]
  by_cases c2:((x / 2 ^ 32:Nat):Int)≥65536
  ·rw[decide_eq_true c2,cond_true]
   by_cases c3:((x / 2 ^ 32 / 2 ^ 16:Nat):Int)≥256
   ·rw[decide_eq_true c3,cond_true]
    exact fin 56 (by omega) (by omega) (by omega) _ _ (by omega) rfl
   ·rw[decide_eq_false c3,cond_false]
    exact fin 48 (by omega) (by omega) (by omega) _ _ (by omega) rfl
  ·rw[decide_eq_false c2,cond_false]
   by_cases c3:((x / 2 ^ 32:Nat):Int)≥256
   ·rw[decide_eq_true c3,cond_true]
    exact fin 40 (by omega) (by omega) (by omega) _ _ (by omega) rfl
   ·rw[decide_eq_false c3,cond_false]
    exact fin 32 (by omega) (by omega) (by omega) _ _ (by omega) rfl
 ·rw[decide_eq_false c1,cond_false]
  by_cases c2:(x:Int)≥65536
  ·rw[decide_eq_true c2,cond_true]
   by_cases c3:((x / 2 ^ 16:Nat):Int)≥256
   ·rw[decide_eq_true c3,cond_true]
    exact fin 24 (by omega) (by omega) (by omega) _ _ (by omega) rfl
   ·rw[decide_eq_false c3,cond_false]
    exact fin 16 (by omega) (by omega) (by omega) _ _ (by omega) rfl
  ·rw[decide_eq_false c2,cond_false]
   by_cases c3:(x:Int)≥256
   ·rw[decide_eq_true c3,cond_true]
    exact fin 8 (by omega) (by omega) (by omega) _ _ (by omega) rfl
   ·rw[decide_eq_false c3,cond_false]
    exact fin 0 (by omega) (by omega) (by omega) _ _ (by simp) rfl
theorem XH{α:Type}(Y y1 y0 u un:Nat)(hY:Y=y1*4294967296+y0)(h1:2147483648≤y1)(h1':y1<4294967296)(h0:y0<4294967296)(hun:un<4294967296)(hu:u<Y)(g:Nat→Nat→Nat→α)(e:Nat→α)
  (hs:∀ k q r,r<4294967296→q≤4294967297→(q=0→¬ (q≥4294967296∨q*y0>4294967296*r+un))→g (k+1) q r=if q≥4294967296∨q*y0>4294967296*r+un then(if r+y1≥4294967296 then e (q - 1)else g k (q - 1) (r+y1))else e q):
  ∀ k q r,4294967296≤r+k*2147483648→r<4294967296→q≤4294967297→q*y1+r=u→(u*4294967296+un) / Y≤q→g k q r=e ((u*4294967296+un) / Y):=by
 have hY0:0<Y:=by omega
 obtain⟨Q,hQe⟩:∃ Q,(u*4294967296+un) / Y=Q:=⟨_,rfl⟩
 have hlt:∀ q,Q<q↔u*4294967296+un<q*Y:=fun q=>by rw[←hQe,Nat.div_lt_iff_lt_mul hY0]
 have hle:∀ q,q≤Q↔q*Y≤u*4294967296+un:=fun q=>by rw[←hQe,Nat.le_div_iff_mul_le hY0]
 have hQlt:Q<4294967296:=by
  rw[hlt]
  have:(u+1)*4294967296≤Y*4294967296:=Nat.mul_le_mul_right _ hu
  rw[Nat.mul_comm 4294967296];omega
 rw[hQe]
 have hmul:∀ q r,q*y1+r=u→q*Y+4294967296*r+un=u*4294967296+un+q*y0:=by
  intro q r h
  rw[hY, ←h];grind
 intro k
 induction k with
 |zero=>intro q r h hr;omega
 |succ k ih=>
  intro q r hk hr hq hu' hQ
  have hm:=hmul q r hu'
  have gt:(q≥4294967296∨q*y0>4294967296*r+un)→Q<q:=by
   rintro(h |h)
   ·omega
   ·rw[hlt];omega
  rw[hs k q r hr hq (fun h0 hc=>by have:=gt hc;omega)]
  by_cases hc:q≥4294967296∨q*y0>4294967296*r+un
  ·rw[if_pos hc]
   have hlt:=gt hc
   have hu2:(q - 1)*y1+(r+y1)=u:=by
    obtain⟨q,rfl⟩:∃ p,q=p+1:=⟨q - 1,by omega⟩
    rw[←hu',Nat.add_sub_cancel,Nat.add_mul];omega
   by_cases hb:r+y1≥4294967296
   ·rw[if_pos hb]
    congr 1
    refine Nat.le_antisymm ?_ (by omega)
    rw[hle]
    have hm2:=hmul (q - 1) (r+y1) hu2
    have:(q - 1)*y0≤4294967296*4294967296:=Nat.mul_le_mul (by omega) (by omega)
    have:4294967296*4294967296≤4294967296*(r+y1):=Nat.mul_le_mul_left _ hb
    omega
   ·rw[if_neg hb]
    exact ih (q - 1) (r+y1) (by omega) (by omega) (by omega) hu2 (by omega)
  ·rw[if_neg hc]
   congr 1
   refine Nat.le_antisymm ?_ hQ
   rw[hle]
   omega
theorem Xm(a b s:Nat)(hb:b<2 ^ s)(ha:a*2 ^ s<18446744073709551616)(hb':b<18446744073709551616)(hs:a*2 ^ s+b<18446744073709551616):((BitVec.ofInt 64 ((a*2 ^ s:Nat):Int)) ||| (BitVec.ofInt 64 (b:Int))).toNat=a*2 ^ s+b:=by
 rw[BitVec.ofInt_natCast,BitVec.ofInt_natCast,BitVec.toNat_or,BitVec.toNat_ofNat,BitVec.toNat_ofNat,Nat.mod_eq_of_lt ha,Nat.mod_eq_of_lt hb',Nat.mul_comm a,Nat.two_pow_add_eq_or_of_lt hb]
theorem E5(a b:Nat)(h:b≤a)(ha:a - b<18446744073709551616):IntKind.u64.wrap ((a:Int) - (b:Int))=((a - b:Nat):Int):=by
 rw[show((a:Int) - (b:Int))=((a - b:Nat):Int) by omega,dO,Nat.mod_eq_of_lt ha]
theorem OC(a b:Nat):Int.tdiv (a:Int) (b:Int)=((a / b:Nat):Int):=by
 rw[Int.tdiv_eq_ediv_of_nonneg (by omega),Int.natCast_ediv]
theorem XB(a b:Nat):Int.tmod (a:Int) (b:Int)=((a % b:Nat):Int):=by
 rw[Int.tmod_eq_emod_of_nonneg (by omega),Int.natCast_emod]
theorem adq(Y y1 y0 u un un0 s:Nat)(hY:Y=y1*4294967296+y0)(h1:2147483648≤y1)(h1':y1<4294967296)(h0:y0<4294967296)(hun:un<4294967296)(hu:u<Y)(k0:Nat)
  (hx:Int→Int→Int→Int→Int→Int→Int→Int→Option (Int×Int×Unit)) (k q r:Nat) (hk:4294967296≤r+k*2147483648) (hr:r<4294967296) (hq:q≤4294967297) (e:q*y1+r=u) (hQ:(u*4294967296+un) / Y≤q):
  l9.G0 k0 hx k Y s y1 y0 u un un0 q r=hx Y s y1 y0 u un un0 (((u*4294967296+un) / Y:Nat):Int):=by
 refine XH Y y1 y0 u un hY h1 h1' h0 hun hu (fun k q r=>l9.G0 k0 hx k Y s y1 y0 u un un0 q r) (fun q=>hx Y s y1 y0 u un un0 (q:Int)) (fun k q r hr hq hq0=> ?_) k q r hk hr hq e hQ
 simp only[l9.G0,l9.R0]
 have er:IntKind.u64.wrap ((r:Int)+(y1:Int))=((r+y1:Nat):Int):=by rw[←Int.natCast_add,dO,Nat.mod_eq_of_lt (by omega)]
 have e2:IntKind.u64.wrap (IntKind.u64.wrap (4294967296*(r:Int))+(un:Int))=((4294967296*r+un:Nat):Int):=by
  rw[show(4294967296*(r:Int))=((4294967296*r:Nat):Int) by omega,dO, ←Int.natCast_add,dO];omega
 rw[er,e2]
 by_cases hc:q≥4294967296∨q*y0>4294967296*r+un
 ·have hq1:IntKind.u64.wrap ((q:Int) - 1)=((q - 1:Nat):Int):=by
   have:q≠0:=fun h=>hq0 h hc
   exact E5 q 1 (by omega) (by omega)
  rw[if_pos hc,hq1]
  by_cases hg:(q:Int)≥4294967296
  ·rw[decide_eq_true hg,cond_true]
   by_cases hb:r+y1≥4294967296
   ·rw[if_pos hb,decide_eq_true (by omega),cond_true]
   ·rw[if_neg hb,decide_eq_false (by omega),cond_false]
  ·have h3:q*y0≤4294967295*4294967295:=Nat.mul_le_mul (by omega) (by omega)
   rw[decide_eq_false hg,cond_false, ←Int.natCast_mul,dO,Nat.mod_eq_of_lt (by omega),decide_eq_true (by omega),cond_true]
   by_cases hb:r+y1≥4294967296
   ·rw[if_pos hb,decide_eq_true (by omega),cond_true]
   ·rw[if_neg hb,decide_eq_false (by omega),cond_false]
 ·have h3:q*y0≤4294967295*4294967295:=Nat.mul_le_mul (by omega) (by omega)
  rw[if_neg hc,decide_eq_false (by omega),cond_false, ←Int.natCast_mul,dO,Nat.mod_eq_of_lt (by omega),decide_eq_false (by omega),cond_false]
theorem adp(Y y1 y0 u un s q1:Nat)(hY:Y=y1*4294967296+y0)(h1:2147483648≤y1)(h1':y1<4294967296)(h0:y0<4294967296)(hun:un<4294967296)(hu:u<Y)(k0:Nat)
  (hx:Int→Int→Int→Int→Int→Int→Option (Int×Int×Unit)) (k q r:Nat) (hk:4294967296≤r+k*2147483648) (hr:r<4294967296) (hq:q≤4294967297) (e:q*y1+r=u) (hQ:(u*4294967296+un) / Y≤q):
  l9.G1 k0 hx k Y s y1 y0 un q1 r u q=hx Y s un q1 u (((u*4294967296+un) / Y:Nat):Int):=by
 refine XH Y y1 y0 u un hY h1 h1' h0 hun hu (fun k q r=>l9.G1 k0 hx k Y s y1 y0 un q1 r u q) (fun q=>hx Y s un q1 u (q:Int)) (fun k q r hr hq hq0=> ?_) k q r hk hr hq e hQ
 simp only[l9.G1,l9.R1]
 have er:IntKind.u64.wrap ((r:Int)+(y1:Int))=((r+y1:Nat):Int):=by rw[←Int.natCast_add,dO,Nat.mod_eq_of_lt (by omega)]
 have e2:IntKind.u64.wrap (IntKind.u64.wrap (4294967296*(r:Int))+(un:Int))=((4294967296*r+un:Nat):Int):=by
  rw[show(4294967296*(r:Int))=((4294967296*r:Nat):Int) by omega,dO, ←Int.natCast_add,dO];omega
 rw[er,e2]
 by_cases hc:q≥4294967296∨q*y0>4294967296*r+un
 ·have hq1:IntKind.u64.wrap ((q:Int) - 1)=((q - 1:Nat):Int):=by
   have:q≠0:=fun h=>hq0 h hc
   exact E5 q 1 (by omega) (by omega)
  rw[if_pos hc,hq1]
  by_cases hg:(q:Int)≥4294967296
  ·rw[decide_eq_true hg,cond_true]
   by_cases hb:r+y1≥4294967296
   ·rw[if_pos hb,decide_eq_true (by omega),cond_true]
   ·rw[if_neg hb,decide_eq_false (by omega),cond_false]
  ·have h3:q*y0≤4294967295*4294967295:=Nat.mul_le_mul (by omega) (by omega)
   rw[decide_eq_false hg,cond_false, ←Int.natCast_mul,dO,Nat.mod_eq_of_lt (by omega),decide_eq_true (by omega),cond_true]
   by_cases hb:r+y1≥4294967296
   ·rw[if_pos hb,decide_eq_true (by omega),cond_true]
   ·rw[if_neg hb,decide_eq_false (by omega),cond_false]
 ·have h3:q*y0≤4294967295*4294967295:=Nat.mul_le_mul (by omega) (by omega)
  rw[if_neg hc,decide_eq_false (by omega),cond_false, ←Int.natCast_mul,dO,Nat.mod_eq_of_lt (by omega),decide_eq_false (by omega),cond_false]
theorem guess(Y y1 y0 u un:Nat)(hY:Y=y1*4294967296+y0)(h1:2147483648≤y1)(h0:y0<4294967296)(hun:un<4294967296)(hu:u<Y):
  u / y1≤4294967297∧(u*4294967296+un) / Y≤u / y1∧u / y1*y1+u % y1=u:=by
 have hp:0<y1:=by omega
 refine⟨?_, ?_,by rw[Nat.mul_comm];exact Nat.div_add_mod u y1⟩
 ·have:u / y1<4294967298:=by
   rw[Nat.div_lt_iff_lt_mul hp,Nat.mul_comm];omega
  omega
 ·rw[Nat.le_div_iff_mul_le hp]
  have hm:=Nat.div_mul_le_self (u*4294967296+un) Y
  generalize (u*4294967296+un) / Y=Q at hm ⊢
  rw[hY,Nat.mul_add, ←Nat.mul_assoc]at hm
  generalize Q*y1=p at hm ⊢
  generalize Q*y0=p' at hm
  omega
theorem aeo(hi lo y:Nat)(hh:hi<y)(hl:lo<18446744073709551616)(hy:y<18446744073709551616):
  Dh (hi,lo,y,())=some ((((hi*18446744073709551616+lo) / y:Nat):Int),(((hi*18446744073709551616+lo) % y:Nat):Int),()):=by
 simp only[Dh,l9.FF,l9.T]
 rw[show((y:Int)==0)=false by simp;omega,cond_false,decide_eq_false (by omega),cond_false]
 by_cases hz:hi=0
 ·subst hz
  rw[show(((0:Nat):Int)==0)=true by decide,cond_true,if_neg (by omega),if_neg (by omega),OC,XB,dO,Nat.mod_eq_of_lt (Nat.lt_of_le_of_lt (Nat.div_le_self _ _) hl),Nat.zero_mul,Nat.zero_add]
 rw[show((hi:Int)==0)=false by simpa using hz,cond_false]
 obtain⟨L,hL,L1,L2,L3,L4⟩:=ac7 y (by omega) hy
 obtain⟨s,hs⟩:∃ s,s=64 - L:=⟨_,rfl⟩
 have hlz:CJ ((y:Int),())=some ((s:Int),()):=by
  simp only[CJ,Qa.T,hL,Option.bind_some]
  rw[aI _ (by omega),show(64 - (L:Int))=(s:Int) by omega]
 have hY1:9223372036854775808≤y*2 ^ s:=by
  have:=Nat.mul_le_mul_right (2 ^ s) L3
  rw[←Nat.pow_add,show L - 1+s=63 by omega]at this
  exact this
 have hY2:y*2 ^ s<18446744073709551616:=by
  have:=Nat.mul_lt_mul_of_pos_right L4 (Nat.two_pow_pos s)
  rw[←Nat.pow_add,show L+s=64 by omega]at this
  exact this
 have hp:0<2 ^ s:=Nat.two_pow_pos s
 have hu32:hi*2 ^ s+2 ^ s≤y*2 ^ s:=by
  have:=Nat.mul_le_mul_right (2 ^ s) hh
  rw[Nat.succ_mul]at this;exact this
 have hlo:lo / 2 ^ (64 - s)<2 ^ s:=by
  rw[Nat.div_lt_iff_lt_mul (Nat.two_pow_pos _), ←Nat.pow_add,show s+(64 - s)=64 by omega];exact hl
 have hlo2:lo*2 ^ s=lo / 2 ^ (64 - s)*18446744073709551616+lo*2 ^ s % 18446744073709551616:=by
  have h:=Nat.div_add_mod (lo*2 ^ s) 18446744073709551616
  have e:lo*2 ^ s / 18446744073709551616=lo / 2 ^ (64 - s):=by
   rw[show(18446744073709551616:Nat)=2 ^ (64 - s)*2 ^ s by rw[←Nat.pow_add,show 64 - s+s=64 by omega],Nat.mul_div_mul_right _ _ hp]
  rw[e]at h
  omega
 have pw:∀ x:Nat,(x:Int)*2 ^ s=((x*2 ^ s:Nat):Int):=fun x=>by rw[Int.natCast_mul,Int.natCast_pow];rfl
 have us:IntKind.u64.wrap (s:Int)=(s:Int):=by rw[dO,Nat.mod_eq_of_lt (by omega)]
 have ut:IntKind.u64.wrap (64 - (s:Int))=((64 - s:Nat):Int):=E5 64 s (by omega) (by omega)
 have uy:IntKind.u64.wrap ((y*2 ^ s:Nat):Int)=((y*2 ^ s:Nat):Int):=by rw[dO,Nat.mod_eq_of_lt hY2]
 have uh:IntKind.u64.wrap ((hi*2 ^ s:Nat):Int)=((hi*2 ^ s:Nat):Int):=by rw[dO,Nat.mod_eq_of_lt (by omega)]
 have uor0:=Xm hi (lo / 2 ^ (64 - s)) s hlo (by omega) (Nat.lt_of_le_of_lt (Nat.div_le_self _ _) hl) (by omega)
 have uor:IntKind.u64.wrap (((BitVec.ofInt 64 ((hi*2 ^ s:Nat):Int)) ||| (BitVec.ofInt 64 ((lo / 2 ^ (64 - s):Nat):Int))).toNat:Int)=((hi*2 ^ s+lo / 2 ^ (64 - s):Nat):Int):=by
  rw[Xm hi _ s hlo (by omega) (Nat.lt_of_le_of_lt (Nat.div_le_self _ _) hl) (by omega),dO,Nat.mod_eq_of_lt (by omega)]
 simp only[hlz,Option.bind_some,us,ut,Int.toNat_natCast,Nat.min_eq_left (by omega:s≤64),Nat.min_eq_left (by omega:64 - s≤64),pw,uy,uh,Fh,uor0,VS,dO, ←Int.natCast_mul]
 rw[if_neg (by omega),if_neg (by omega),if_neg (by omega),if_neg (by omega)]
 rw[show(2:Nat) ^ 32=4294967296 from rfl]
 obtain⟨Y,hYe⟩:∃ Y,y*2 ^ s=Y:=⟨_,rfl⟩
 obtain⟨u,hue⟩:∃ u,hi*2 ^ s+lo / 2 ^ (64 - s)=u:=⟨_,rfl⟩
 obtain⟨ul,hule⟩:∃ ul,lo*2 ^ s % 18446744073709551616=ul:=⟨_,rfl⟩
 have hulb:ul<18446744073709551616:=by rw[←hule];exact Nat.mod_lt _ (by decide)
 have hV:(hi*18446744073709551616+lo)*2 ^ s=u*18446744073709551616+ul:=by
  have h1:hi*18446744073709551616*2 ^ s=hi*2 ^ s*18446744073709551616:=Nat.mul_right_comm _ _ _
  rw[Nat.add_mul,h1, ←hue, ←hule]
  generalize hi*2 ^ s=X
  omega
 rw[hYe]at hY1 hY2 hu32
 rw[hYe,hue,hule]
 have hY32:Y % 18446744073709551616 % 4294967296 % 18446744073709551616=Y % 4294967296:=by omega
 have hul0:ul % 18446744073709551616 % 4294967296 % 18446744073709551616=ul % 4294967296:=by omega
 have huY:u<Y:=by omega
 rw[hY32,hul0,Nat.mod_eq_of_lt (by omega:u<18446744073709551616)]
 obtain⟨y1,hy1⟩:∃ y1,Y / 4294967296=y1:=⟨_,rfl⟩
 obtain⟨y0,hy0⟩:∃ y0,Y % 4294967296=y0:=⟨_,rfl⟩
 obtain⟨un,hun⟩:∃ un,ul / 4294967296=un:=⟨_,rfl⟩
 obtain⟨un0,hun0⟩:∃ un0,ul % 4294967296=un0:=⟨_,rfl⟩
 have hYd:Y=y1*4294967296+y0:=by omega
 have hy11:2147483648≤y1:=by omega
 have hy12:y1<4294967296:=by omega
 have hy02:y0<4294967296:=by omega
 have hun2:un<4294967296:=by omega
 have hun02:un0<4294967296:=by omega
 have hy1p:0<y1:=by omega
 rw[hy1,hy0,hun,hun0,if_neg (by omega)]
 have gq:∀ u,u<Y→IntKind.u64.wrap (Int.tdiv (u:Int) (y1:Int))=((u / y1:Nat):Int):=fun u hu=>by
  rw[OC,dO,Nat.mod_eq_of_lt (Nat.lt_of_le_of_lt (Nat.div_le_self _ _) (by omega))]
 have gr:∀ u,u<Y→IntKind.u64.wrap ((u:Int) - IntKind.u64.wrap (((u / y1:Nat):Int)*(y1:Int)))=((u % y1:Nat):Int):=fun u hu=>by
  have h1:=Nat.div_mul_le_self u y1
  have h2:=Nat.div_add_mod u y1
  rw[Nat.mul_comm]at h2
  rw[←Int.natCast_mul,dO,Nat.mod_eq_of_lt (by omega),E5 _ _ h1 (by omega),show u - u / y1*y1=u % y1 by omega]
 obtain⟨ga,gb,gc⟩:=guess Y y1 y0 u un hYd hy11 hy02 hun2 huY
 rw[gq u huY,gr u huY,adq Y y1 y0 u un un0 s hYd hy11 hy12 hy02 hun2 huY _ _ 300 (u / y1) (u % y1) (by omega) (Nat.lt_trans (Nat.mod_lt _ hy1p) hy12) ga gc gb]
 obtain⟨q1,hq1⟩:∃ q1,(u*4294967296+un) / Y=q1:=⟨_,rfl⟩
 have hYp:0<Y:=by omega
 have hN1:=Nat.div_add_mod (u*4294967296+un) Y
 have hT:=Nat.mod_lt (u*4294967296+un) hYp
 rw[hq1,Nat.mul_comm]at hN1
 obtain⟨t,ht⟩:∃ t,(u*4294967296+un) % Y=t:=⟨_,rfl⟩
 rw[ht]at hN1 hT
 rw[hq1]
 have hqlt:∀ u un q t,u<Y→un<4294967296→q*Y+t=u*4294967296+un→q<4294967296:=fun u un q t h1 h2 h3=>by
  refine Nat.lt_of_not_le fun hc=> ?_
  have:=Nat.mul_le_mul_right Y hc
  omega
 have hq1l:=hqlt u un q1 t huY hun2 hN1
 have sub:∀ (u un q t:Nat),q*Y+t=u*4294967296+un→t<Y→IntKind.u64.wrap (IntKind.u64.wrap (IntKind.u64.wrap ((u:Int)*4294967296)+(un:Int)) - IntKind.u64.wrap ((q:Int)*(Y:Int)))=(t:Int):=fun u un q t h1 h2=>by
  rw[←Int.natCast_mul]
  simp only[IntKind.wrap_u64]
  generalize q*Y=p at*
  omega
 simp only[l9.A0,sub u un q1 t hN1 hT]
 obtain⟨ga,gb,gc⟩:=guess Y y1 y0 t un0 hYd hy11 hy02 hun02 hT
 rw[if_neg (by omega),gq t hT,gr t hT,adp Y y1 y0 t un0 s q1 hYd hy11 hy12 hy02 hun02 hT _ _ 300 (t / y1) (t % y1) (by omega) (Nat.lt_trans (Nat.mod_lt _ hy1p) hy12) ga gc gb]
 obtain⟨q0,hq0⟩:∃ q0,(t*4294967296+un0) / Y=q0:=⟨_,rfl⟩
 have hN0:=Nat.div_add_mod (t*4294967296+un0) Y
 have hR:=Nat.mod_lt (t*4294967296+un0) hYp
 rw[hq0,Nat.mul_comm]at hN0
 obtain⟨r,hr⟩:∃ r,(t*4294967296+un0) % Y=r:=⟨_,rfl⟩
 rw[hr]at hN0 hR
 have hq0l:=hqlt t un0 q0 r hT hun02 hN0
 rw[hq0]
 simp only[l9.A1,sub t un0 q0 r hN0 hR]
 rw[if_neg (by omega),Int.toNat_natCast,Nat.min_eq_left (by omega),Fh]
 have hW:(hi*18446744073709551616+lo)*2 ^ s=r+Y*(q1*4294967296+q0):=by
  have h1:Y*(q1*4294967296+q0)=q1*Y*4294967296+q0*Y:=by rw[Nat.mul_add, ←Nat.mul_assoc,Nat.mul_comm Y q1,Nat.mul_comm Y q0]
  rw[hV,h1]
  generalize q1*Y=p1 at*
  generalize q0*Y=p0 at*
  omega
 have d1:(hi*18446744073709551616+lo) / y=q1*4294967296+q0:=by
  rw[←Nat.mul_div_mul_right _ _ hp,hYe,hW,Nat.add_mul_div_left _ _ hYp,Nat.div_eq_of_lt hR,Nat.zero_add]
 have d2:(hi*18446744073709551616+lo) % y*2 ^ s=r:=by
  rw[←Nat.mul_mod_mul_right,hYe,hW,Nat.add_mul_mod_self_left,Nat.mod_eq_of_lt hR]
 rw[d1, ←d2,Nat.mul_div_cancel _ hp]
 congr 2
 simp only[IntKind.wrap_u64]
 omega
theorem acM(V d:Nat)(hV:V<340282366920938463463374607431768211456)(hd0:0<d)(hd:d<18446744073709551616):
  DN (((V / 18446744073709551616:Nat):Int),((V % 18446744073709551616:Nat):Int),d,())=some (((V / d / 18446744073709551616:Nat):Int),((V / d % 18446744073709551616:Nat):Int),((V % d:Nat):Int),()):=by
 simp only[DN,Td.T]
 have hm:=Nat.mod_lt (V / 18446744073709551616) hd0
 have hl:=Nat.mod_lt V (show 0<18446744073709551616 by decide)
 rw[show((d:Int)==0)=false by simp;omega,cond_false,if_neg (by omega),if_neg (by omega),XB,aeo _ _ d hm hl hd,OC,dO]
 simp only[Option.bind_some]
 have e:V=(V / 18446744073709551616 % d*18446744073709551616+V % 18446744073709551616)+d*(V / 18446744073709551616 / d*18446744073709551616):=by
  have h1:=Nat.div_add_mod (V / 18446744073709551616) d
  have h2:=Nat.div_add_mod V 18446744073709551616
  rw[←Nat.mul_assoc]
  generalize d*(V / 18446744073709551616 / d)=p at*
  omega
 obtain⟨W,hW⟩:∃ W,V / 18446744073709551616 % d*18446744073709551616+V % 18446744073709551616=W:=⟨_,rfl⟩
 rw[hW]at e ⊢
 have q1:V / d=W / d+V / 18446744073709551616 / d*18446744073709551616:=by
  conv=>lhs;rw[e]
  rw[Nat.add_mul_div_left _ _ hd0]
 have q2:V % d=W % d:=by
  conv=>lhs;rw[e]
  rw[Nat.add_mul_mod_self_left]
 have hWd:W / d<18446744073709551616:=by
  rw[Nat.div_lt_iff_lt_mul hd0, ←hW]
  have:=Nat.mul_le_mul_left 18446744073709551616 hm
  omega
 have hvd:V / 18446744073709551616 / d≤V / 18446744073709551616:=Nat.div_le_self _ _
 rw[q1,q2]
 rw[Nat.mod_eq_of_lt (by omega:V / 18446744073709551616 / d<18446744073709551616)]
 generalize W / d=A at*
 generalize V / 18446744073709551616 / d=B at*
 rw[show(A+B*18446744073709551616) / 18446744073709551616=B by omega,show(A+B*18446744073709551616) % 18446744073709551616=A by omega]
theorem aej(a w d:Nat)(ha:a<9223372036854775808)(hw:w<9223372036854775808)(hd0:0<d)(hd:d<9223372036854775808)(hq:a*w / d<9223372036854775808):
  xh (a,w,d,())=some (((a*w / d:Nat):Int),()):=by
 have hp:a*w<340282366920938463463374607431768211456:=Nat.lt_of_le_of_lt (Nat.mul_le_mul (by omega:a≤9223372036854775807) (by omega:w≤9223372036854775807)) (by decide)
 simp only[xh,Uk.T,MZ a w ha hw,Option.bind_some,dO]
 rw[Nat.mod_eq_of_lt (by omega:d<18446744073709551616),acM _ d hp hd0 (by omega)]
 simp only[Option.bind_some]
 generalize a*w / d=Q at hq ⊢
 rw[Nat.mod_eq_of_lt (by omega),aI _ (by omega)]
end Go.Rv
