/- Plain facts: wide_s. -/
import Derived.Test.YtjknhphmhfbghaaGreatFM20
set_option linter.unusedVariables false
set_option linter.unusedSimpArgs false
set_option linter.unusedSectionVars false
namespace Go.Rv
abbrev hiN(V:Nat):Int:=((V / 18446744073709551616:Nat):Int)
abbrev dN(V:Nat):Int:=((V % 18446744073709551616:Nat):Int)
theorem Fz(V W:Nat)(hV:V<340282366920938463463374607431768211456)(hW:W<340282366920938463463374607431768211456):
  ∃ o,uO (hiN V,dN V,hiN W,dN W,())=some (hiN ((V+W) % 340282366920938463463374607431768211456),dN ((V+W) % 340282366920938463463374607431768211456),o,0,()):=by
 simp only[uO,SX.T, ←Int.natCast_add,dO]
 have e0:(IntKind.u64.wrap (((V / 18446744073709551616+W / 18446744073709551616) % 18446744073709551616:Nat)+0))=(((V / 18446744073709551616+W / 18446744073709551616) % 18446744073709551616:Nat):Int):=by rw[Int.add_zero,dO,Nat.mod_mod]
 have e1:(IntKind.u64.wrap (((V / 18446744073709551616+W / 18446744073709551616) % 18446744073709551616:Nat)+1))=(((V / 18446744073709551616+W / 18446744073709551616+1) % 18446744073709551616:Nat):Int):=by
  rw[show((((V / 18446744073709551616+W / 18446744073709551616) % 18446744073709551616:Nat):Int)+1)=(((V / 18446744073709551616+W / 18446744073709551616) % 18446744073709551616+1:Nat):Int) by omega,dO];omega
 rw[e0,e1]
 have h2:((V % 18446744073709551616+W % 18446744073709551616) % 18446744073709551616)=((V+W) % 340282366920938463463374607431768211456) % 18446744073709551616:=by omega
 by_cases hc:(((V % 18446744073709551616+W % 18446744073709551616) % 18446744073709551616:Nat):Int)<((V % 18446744073709551616:Nat):Int)
 ·have h1:((V / 18446744073709551616+W / 18446744073709551616+1) % 18446744073709551616)=((V+W) % 340282366920938463463374607431768211456) / 18446744073709551616:=by omega
  rw[decide_eq_true hc,cond_true,h1,h2]
  by_cases hd:(((V / 18446744073709551616+W / 18446744073709551616) % 18446744073709551616:Nat):Int)<((V / 18446744073709551616:Nat):Int)
  ·rw[decide_eq_true hd,cond_true];exact⟨_,rfl⟩
  ·rw[decide_eq_false hd,cond_false];exact⟨_,rfl⟩
 ·have h1:((V / 18446744073709551616+W / 18446744073709551616) % 18446744073709551616)=((V+W) % 340282366920938463463374607431768211456) / 18446744073709551616:=by omega
  rw[decide_eq_false hc,cond_false,h1,h2]
  by_cases hd:((((V+W) % 340282366920938463463374607431768211456) / 18446744073709551616:Nat):Int)<((V / 18446744073709551616:Nat):Int)
  ·rw[decide_eq_true hd,cond_true];exact⟨_,rfl⟩
  ·rw[decide_eq_false hd,cond_false];exact⟨_,rfl⟩
theorem afp(V n:Nat)(hV:V<340282366920938463463374607431768211456)(hn:n≤127):
  DK (hiN V,dN V,n,())=some (hiN (V*2 ^ n % 340282366920938463463374607431768211456),dN (V*2 ^ n % 340282366920938463463374607431768211456),()):=by
 have key:∀ (k0:Nat) (hx:Int→Int→Int→Int→Option (Int×Int×Unit)) (t u:Int) (n k V:Nat),n≤127→n<k→V<340282366920938463463374607431768211456→
   rH.G0 k0 hx k n (hiN V) (dN V) t u=hx (hiN (V*2 ^ n % 340282366920938463463374607431768211456)) (dN (V*2 ^ n % 340282366920938463463374607431768211456)) t u:=by
  intro k0 hx t u n
  induction n with
  |zero=>
   intro k V _ hk hV
   obtain⟨k,rfl⟩:∃ j,k=j+1:=⟨k - 1,by omega⟩
   simp only[rH.G0,rH.R0]
   rw[decide_eq_false (by omega),cond_false,Nat.pow_zero,Nat.mul_one,Nat.mod_eq_of_lt hV]
  |succ n ih=>
   intro k V hn hk hV
   obtain⟨k,rfl⟩:∃ j,k=j+1:=⟨k - 1,by omega⟩
   obtain⟨o,ho⟩:=Fz V V hV hV
   simp only[rH.G0,rH.R0,ho,Option.bind_some]
   rw[decide_eq_true (by omega),cond_true,aI _ (by omega),show((n+1:Nat):Int) - 1=(n:Int) by omega,ih k _ (by omega) (by omega) (Nat.mod_lt _ (by decide))]
   have e:(V+V) % 340282366920938463463374607431768211456*2 ^ n % 340282366920938463463374607431768211456=V*2 ^ (n+1) % 340282366920938463463374607431768211456:=by
    rw[Nat.mod_mul_mod,Nat.pow_succ]
    congr 1
    rw[←Nat.two_mul];grind
   rw[e]
 simp only[DK,rH.FF,rH.T]
 rw[decide_eq_false (by omega),cond_false,decide_eq_false (by omega),cond_false,key _ _ _ _ n 300 V hn (by omega) hV]
 rfl
theorem and_one(a:Nat)(ha:a<18446744073709551616):((BitVec.ofInt 64 (a:Int)) &&& (BitVec.ofInt 64 1)).toNat=a % 2:=by
 rw[BitVec.ofInt_natCast,show(1:Int)=((1:Nat):Int)from rfl,BitVec.ofInt_natCast,BitVec.toNat_and,BitVec.toNat_ofNat,BitVec.toNat_ofNat,Nat.mod_eq_of_lt ha]
 exact Nat.and_two_pow_sub_one_eq_mod _ 1
theorem Fh(a n:Nat):Int.fdiv (a:Int) (2 ^ n)=((a / 2 ^ n:Nat):Int):=by
 rw[Int.fdiv_eq_ediv_of_nonneg _ (Int.le_of_lt (Int.pow_pos (by decide))),Int.natCast_ediv,Int.natCast_pow];rfl
theorem OO(a b:Nat)(ha:a<18446744073709551616)(hb:b<18446744073709551616):uM (a,b,())=some (hiN (a*b),dN (a*b),()):=by
 have hab:∀ c,c≤b→a*c<340282366920938463463374607431768211456:=fun c hc=>Nat.lt_of_le_of_lt (Nat.mul_le_mul_left a hc) (Nat.lt_of_le_of_lt (Nat.mul_le_mul (by omega:a≤18446744073709551615) (by omega:b≤18446744073709551615)) (by decide))
 have key:∀ (k0:Nat) (hx:Int→Int→Int→Int→Option (Int×Int×Unit)) (t u:Int) (d j k:Nat),d=64 - j→j≤64→d<k→
   qF.G0 k0 hx k a b j t u (hiN (a*(b % 2 ^ j))) (dN (a*(b % 2 ^ j)))=hx t u (hiN (a*b)) (dN (a*b)):=by
  intro k0 hx t u d
  induction d with
  |zero=>
   intro j k hd hj hk
   have:j=64:=by omega
   subst this
   obtain⟨k,rfl⟩:∃ i,k=i+1:=⟨k - 1,by omega⟩
   simp only[qF.G0,qF.R0]
   rw[decide_eq_false (by omega),cond_false,Nat.mod_eq_of_lt (show b<2 ^ 64 from hb)]
  |succ d ih=>
   intro j k hd hj hk
   obtain⟨k,rfl⟩:∃ i,k=i+1:=⟨k - 1,by omega⟩
   have hs:=afp a j (by omega) (by omega)
   have h0:hiN a=0:=by show((a / 18446744073709551616:Nat):Int)=0;omega
   have h1:dN a=a:=by show((a % 18446744073709551616:Nat):Int)=a;omega
   rw[h0,h1]at hs
   have hp:a*2 ^ j<340282366920938463463374607431768211456:=by
    refine Nat.lt_of_le_of_lt (Nat.mul_le_mul (by omega:a≤18446744073709551615) (Nat.pow_le_pow_right (by decide) (by omega:j≤63))) (by decide)
   rw[Nat.mod_eq_of_lt hp]at hs
   have hbit:(b / 2 ^ j)<18446744073709551616:=Nat.lt_of_le_of_lt (Nat.div_le_self _ _) hb
   have hm:b % 2 ^ (j+1)=b % 2 ^ j+2 ^ j*(b / 2 ^ j % 2):=by rw[Nat.pow_succ,Nat.mod_mul]
   have hw:af ((j:Int)+1)=((j+1:Nat):Int):=aI _ (by omega)
   simp only[qF.G0,qF.R0]
   rw[decide_eq_true (by omega),cond_true,hw,dO,Nat.mod_eq_of_lt (by omega:j<18446744073709551616),if_neg (by omega),Int.toNat_natCast,Nat.min_eq_left (by omega),Fh,and_one _ hbit,dO,Nat.mod_eq_of_lt (by omega)]
   rcases Nat.mod_two_eq_zero_or_one (b / 2 ^ j)with hz |hz
   ·rw[hz,show(((0:Nat):Int)==1)=false from rfl,cond_false]
    have:=ih (j+1) k (by omega) (by omega) (by omega)
    rw[hm,hz,Nat.mul_zero,Nat.add_zero]at this
    exact this
   ·rw[hz,show(((1:Nat):Int)==1)=true from rfl,cond_true,hs]
    have hle:b % 2 ^ (j+1)≤b:=Nat.mod_le _ _
    rw[hm,hz,Nat.mul_one]at hle
    obtain⟨o,ho⟩:=Fz (a*(b % 2 ^ j)) (a*2 ^ j) (hab _ (by omega)) hp
    rw[←Nat.mul_add,Nat.mod_eq_of_lt (hab _ hle)]at ho
    simp only[Option.bind_some,ho]
    have:=ih (j+1) k (by omega) (by omega) (by omega)
    rw[hm,hz,Nat.mul_one]at this
    exact this
 simp only[uM,qF.FF,qF.T]
 have:=key 300 (qF.A0 a b) 0 0 64 0 300 rfl (by omega) (by omega)
 rw[Nat.pow_zero,Nat.mod_one,Nat.mul_zero]at this
 exact this
theorem OQ(V W:Nat):uN (hiN V,dN V,hiN W,dN W,())=some (sg (V:Int) (W:Int),()):=by
 rw[←Xe]
 simp only[uN,SV.T,sg,hiN,dN]
 grind
theorem Ux(a b c d:Nat)(ha:a<18446744073709551616)(hb:b<18446744073709551616)(hc:c<18446744073709551616)(hd:d<18446744073709551616):
  wR (a,b,c,d,())=some (sg ((a*b:Nat):Int) ((c*d:Nat):Int),()):=by
 simp only[wR,Sl.T,dO]
 rw[Nat.mod_eq_of_lt ha,Nat.mod_eq_of_lt hb,Nat.mod_eq_of_lt hc,Nat.mod_eq_of_lt hd,OO a b ha hb,OO c d hc hd]
 simp only[Option.bind_some,OQ]
theorem abd(a b c:Int):zK (a,b,c,())=some (bb (iG a∧dP b∧jL c),()):=by
 simp only[zK,RH.T,EM,xJ,LQ,Option.bind_some]
 grind [=fG]
theorem abr(a b:Int×Int×Int×Unit)(ha:kM a)(hb:kM b)(ha1:iG a.1)(hb1:iG b.1):Dx (a.1,a.2.1,a.2.2.1,b.1,b.2.1,b.2.2.1,())=some (oO a b,()):=by
 obtain⟨a0,a1,a2,_⟩:=a
 obtain⟨b0,b1,b2,_⟩:=b
 obtain⟨h1,h2,h3,h4⟩:=ha
 obtain⟨g1,g2,g3,g4⟩:=hb
 simp only at h1 h2 h3 h4 g1 g2 g3 g4 ha1 hb1
 have ta:bb (iG a0∧dP a1∧jL a2)=true:=dD ⟨ha1,⟨h1,h2⟩,h3,h4⟩
 have tb:bb (iG b0∧dP b1∧jL b2)=true:=dD ⟨hb1,⟨g1,g2⟩,g3,g4⟩
 obtain⟨x1,rfl⟩:=Int.eq_ofNat_of_zero_le h1
 obtain⟨x2,rfl⟩:=Int.eq_ofNat_of_zero_le (by omega:0≤a2)
 obtain⟨y1,rfl⟩:=Int.eq_ofNat_of_zero_le g1
 obtain⟨y2,rfl⟩:=Int.eq_ofNat_of_zero_le (by omega:0≤b2)
 simp only[Dx,Sr.T,abd,ta,tb,Option.bind_some,Bool.not_true,cond_false]
 rw[Ux x1 y2 y1 x2 (by omega) (by omega) (by omega) (by omega)]
 simp only[Option.bind_some,oO,sg,Int.natCast_mul]
 grind
theorem afo(V n:Nat)(hV:V<340282366920938463463374607431768211456)(hn:n≤127):
  DJ (hiN V,dN V,n,())=some (hiN (V / 2 ^ n),dN (V / 2 ^ n),()):=by
 have key:∀ (k0:Nat) (hx:Int→Int→Int→Int→Option (Int×Int×Unit)) (t u:Int) (n k V:Nat),n≤127→n<k→V<340282366920938463463374607431768211456→
   rG.G0 k0 hx k n (hiN V) (dN V) t u=hx (hiN (V / 2 ^ n)) (dN (V / 2 ^ n)) t u:=by
  intro k0 hx t u n
  induction n with
  |zero=>
   intro k V _ hk hV
   obtain⟨k,rfl⟩:∃ j,k=j+1:=⟨k - 1,by omega⟩
   simp only[rG.G0,rG.R0]
   rw[decide_eq_false (by omega),cond_false,Nat.pow_zero,Nat.div_one]
  |succ n ih=>
   intro k V hn hk hV
   obtain⟨k,rfl⟩:∃ j,k=j+1:=⟨k - 1,by omega⟩
   have t2:∀ x:Nat,Int.tdiv (x:Int) 2=((x / 2:Nat):Int):=fun x=>by rw[Int.tdiv_eq_ediv_of_nonneg (by omega)];omega
   have m2:∀ x:Nat,Int.tmod (x:Int) 2=((x % 2:Nat):Int):=fun x=>by rw[Int.tmod_eq_emod_of_nonneg (by omega)];omega
   have e1:IntKind.u64.wrap (Int.tdiv (hiN V) 2)=hiN (V / 2):=by rw[t2,dO];show _=((V / 2 / 18446744073709551616:Nat):Int);omega
   have e2:IntKind.u64.wrap (IntKind.u64.wrap (Int.tdiv (dN V) 2)+IntKind.u64.wrap (Int.tmod (hiN V) 2*9223372036854775808))=dN (V / 2):=by
    rw[t2,m2,dO,show((V / 18446744073709551616 % 2:Nat):Int)*9223372036854775808=((V / 18446744073709551616 % 2*9223372036854775808:Nat):Int) by omega,dO, ←Int.natCast_add,dO]
    show _=((V / 2 % 18446744073709551616:Nat):Int)
    omega
   simp only[rG.G0,rG.R0]
   rw[decide_eq_true (by omega),cond_true,if_neg (by decide),if_neg (by decide),if_neg (by decide),aI _ (by omega),show((n+1:Nat):Int) - 1=(n:Int) by omega,e1,e2,ih k _ (by omega) (by omega) (by omega)]
   rw[Nat.div_div_eq_div_mul,Nat.pow_succ,Nat.mul_comm 2]
 simp only[DJ,rG.FF,rG.T]
 rw[decide_eq_false (by omega),cond_false,decide_eq_false (by omega),cond_false,key _ _ _ _ n 300 V hn (by omega) hV]
 rfl
theorem afr(V n:Nat)(hV:V<340282366920938463463374607431768211456)(hn:n≤127):DX (hiN V,dN V,n,())=some (((V / 2 ^ n % 2:Nat):Int),()):=by
 simp only[DX,Tt.T,afo V n hV hn,Option.bind_some]
 rw[and_one _ (Nat.mod_lt _ (by decide)),dO]
 congr 3
 omega
theorem wsub(V W:Nat)(hV:V<340282366920938463463374607431768211456)(h:W≤V):∃ o,DI (hiN V,dN V,hiN W,dN W,())=some (hiN (V - W),dN (V - W),o,0,()):=by
 simp only[DI,SS.T,OQ,Option.bind_some,hiN,dN]
 by_cases hc:((V % 18446744073709551616:Nat):Int)<((W % 18446744073709551616:Nat):Int)
 ·rw[decide_eq_true hc,cond_true]
  refine⟨_,congrArg some (Prod.ext ?_ (Prod.ext ?_ rfl))⟩
  ·simp only[IntKind.wrap_u64];omega
  ·simp only[IntKind.wrap_u64];omega
 ·rw[decide_eq_false hc,cond_false]
  refine⟨_,congrArg some (Prod.ext ?_ (Prod.ext ?_ rfl))⟩
  ·simp only[IntKind.wrap_u64];omega
  ·simp only[IntKind.wrap_u64];omega
theorem afq(V d:Nat)(hV:V<340282366920938463463374607431768211456)(hd0:0<d)(hd:d<18446744073709551616):
  Ae (hiN V,dN V,d,())=some (hiN (V / d),dN (V / d),((V % d:Nat):Int),()):=by
 have key:∀ (k0:Nat) (hx:Int→Int→Int→Int→Int→Int→Int→Int→Option (Int×Int×Int×Unit)) (t u v x:Int) (j k:Nat),j≤128→j<k→
   pK.G0 k0 hx k d ((j:Int) - 1) (hiN V) (dN V) t u v (hiN (V / 2 ^ j / d)) (dN (V / 2 ^ j / d)) x (hiN (V / 2 ^ j % d)) (dN (V / 2 ^ j % d))=hx t u v (hiN (V / d)) (dN (V / d)) x (hiN (V % d)) (dN (V % d)):=by
  intro k0 hx t u v x j
  induction j with
  |zero=>
   intro k _ hk
   obtain⟨k,rfl⟩:∃ i,k=i+1:=⟨k - 1,by omega⟩
   simp only[pK.G0,pK.R0]
   rw[decide_eq_false (by omega),cond_false,Nat.pow_zero,Nat.div_one]
  |succ j ih=>
   intro k hj hk
   obtain⟨k,rfl⟩:∃ i,k=i+1:=⟨k - 1,by omega⟩
   have hXV:V / 2 ^ (j+1)≤V:=Nat.div_le_self _ _
   have hX:V / 2 ^ j=2*(V / 2 ^ (j+1))+V / 2 ^ j % 2:=by
    rw[Nat.pow_succ, ←Nat.div_div_eq_div_mul];omega
   have hXV':V / 2 ^ j≤V:=Nat.div_le_self _ _
   have hb2:V / 2 ^ j % 2<2:=Nat.mod_lt _ (by decide)
   have hbit:=afr V j hV (by omega)
   have IH:=ih k (by omega) (by omega)
   generalize V / 2 ^ (j+1)=X at hX hXV ⊢
   generalize V / 2 ^ j=Y at hX hXV' hb2 hbit IH ⊢
   have hr:X % d<d:=Nat.mod_lt _ hd0
   have hq:X / d≤X:=Nat.div_le_self _ _
   have hXe:d*(X / d)+X % d=X:=Nat.div_add_mod X d
   obtain⟨o1,a1⟩:=Fz (X % d) (X % d) (by omega) (by omega)
   obtain⟨o2,a2⟩:=Fz (X / d) (X / d) (by omega) (by omega)
   rw[Nat.mod_eq_of_lt (by omega:X % d+X % d<340282366920938463463374607431768211456)]at a1
   rw[Nat.mod_eq_of_lt (by omega:X / d+X / d<340282366920938463463374607431768211456)]at a2
   generalize hb:Y % 2=b at hX hb2 hbit
   have er:IntKind.u64.wrap (dN (X % d+X % d)+(b:Int))=dN (X % d+X % d+b):=by
    rw[←Int.natCast_add,dO];show _=(((X % d+X % d+b) % 18446744073709551616:Nat):Int);omega
   have eh:hiN (X % d+X % d)=hiN (X % d+X % d+b):=by
    show(((X % d+X % d) / 18446744073709551616:Nat):Int)=(((X % d+X % d+b) / 18446744073709551616:Nat):Int);omega
   have ed:(0:Int)=hiN d:=by show(0:Int)=((d / 18446744073709551616:Nat):Int);omega
   have el:(d:Int)=dN d:=by show(d:Int)=((d % 18446744073709551616:Nat):Int);omega
   have cmp:=OQ (X % d+X % d+b) d
   simp only[pK.G0,pK.R0,show((j+1:Nat):Int) - 1=(j:Int) by omega,a1,hbit,a2,Option.bind_some]
   rw[decide_eq_true (by omega),cond_true,er,eh]
   rw[←ed, ←el]at cmp
   rw[cmp,aI _ (by omega)]
   simp only[Option.bind_some]
   have hYe:Y=d*(X / d+X / d)+(X % d+X % d+b):=by rw[Nat.mul_add];omega
   by_cases hge:d≤X % d+X % d+b
   ·have hs:sg (((X % d+X % d+b:Nat)):Int) (d:Int)≥0:=by unfold sg;split;omega;split <;>omega
    obtain⟨o3,a3⟩:=wsub (X % d+X % d+b) d (by omega) hge
    rw[←ed, ←el]at a3
    rw[decide_eq_true hs,cond_true,a3]
    simp only[Option.bind_some]
    have hYe2:Y=(X % d+X % d+b - d)+d*(X / d+X / d+1):=by rw[hYe,Nat.mul_add d _ 1];omega
    have q1:Y / d=X / d+X / d+1:=by rw[hYe2,Nat.add_mul_div_left _ _ hd0,Nat.div_eq_of_lt (by omega)];omega
    have q2:Y % d=X % d+X % d+b - d:=by rw[hYe2,Nat.add_mul_mod_self_left,Nat.mod_eq_of_lt (by omega)]
    rw[q1,q2]at IH
    have eo:IntKind.u64.wrap (dN (X / d+X / d)+1)=dN (X / d+X / d+1):=by
     rw[show dN (X / d+X / d)+1=(((X / d+X / d) % 18446744073709551616+1:Nat):Int)from by show(((X / d+X / d) % 18446744073709551616:Nat):Int)+1=_;omega,dO]
     show _=(((X / d+X / d+1) % 18446744073709551616:Nat):Int);omega
    have ep:hiN (X / d+X / d)=hiN (X / d+X / d+1):=by
     show(((X / d+X / d) / 18446744073709551616:Nat):Int)=(((X / d+X / d+1) / 18446744073709551616:Nat):Int);omega
    rw[eo,ep]
    exact IH
   ·have hs:¬ sg (((X % d+X % d+b:Nat)):Int) (d:Int)≥0:=by unfold sg;split;omega;omega
    rw[decide_eq_false hs,cond_false]
    have hYe2:Y=(X % d+X % d+b)+d*(X / d+X / d):=by rw[hYe];omega
    have q1:Y / d=X / d+X / d:=by rw[hYe2,Nat.add_mul_div_left _ _ hd0,Nat.div_eq_of_lt (by omega)];omega
    have q2:Y % d=X % d+X % d+b:=by rw[hYe2,Nat.add_mul_mod_self_left,Nat.mod_eq_of_lt (by omega)]
    rw[q1,q2]at IH
    exact IH
 simp only[Ae,pK.FF,pK.T]
 have h0:V / 2 ^ 128=0:=Nat.div_eq_of_lt (by simpa using hV)
 have:=key 300 (pK.A0 (hiN V) (dN V) d) 0 0 0 0 128 300 (by omega) (by omega)
 rw[h0,Nat.zero_div,Nat.zero_mod]at this
 rw[show(((d:Int))==0)=false by simp;omega,cond_false]
 refine Eq.trans ?_ (this.trans ?_)
 ·rfl
 ·have:dN (V % d)=((V % d:Nat):Int):=by show((V % d % 18446744073709551616:Nat):Int)=_;have:=Nat.mod_lt V hd0;omega
  simp only[pK.A0,this]
end Go.Rv
