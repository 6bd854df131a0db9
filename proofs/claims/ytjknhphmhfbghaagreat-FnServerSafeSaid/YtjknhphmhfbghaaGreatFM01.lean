/- Plain facts: wide_i. -/
import Derived.Test.YtjknhphmhfbghaaGreatFM00
set_option linter.unusedVariables false
set_option linter.unusedSimpArgs false
set_option linter.unusedSectionVars false
namespace Go.Rv
def sg(x y:Int):Int:=if x<y then -1 else if x>y then 1 else 0
theorem dO(n:Nat):IntKind.u64.wrap (n:Int)=((n % 18446744073709551616:Nat):Int):=by rw[IntKind.wrap_u64];omega
theorem VS(a:Nat):((BitVec.ofInt 64 (a:Int)) &&& (BitVec.ofInt 64 4294967295)).toNat=a % 18446744073709551616 % 4294967296:=by
 rw[BitVec.ofInt_natCast,show(4294967295:Int)=((4294967295:Nat):Int)from rfl,BitVec.ofInt_natCast,BitVec.toNat_and,BitVec.toNat_ofNat,BitVec.toNat_ofNat]
 exact Nat.and_two_pow_sub_one_eq_mod _ 32
theorem aff(a:Nat):Int.fdiv (a:Int) (2 ^ 32)=((a / 4294967296:Nat):Int):=by
 rw[Int.fdiv_eq_ediv_of_nonneg _ (by decide)];omega
theorem ael(x y:Nat)(hx:x<18446744073709551616)(hy:y<18446744073709551616):
  Dc (x,y,())=some (((x*y / 18446744073709551616:Nat):Int),((x*y % 18446744073709551616:Nat):Int),()):=by
 simp only[Dc,Rh.T,aff,VS, ←Int.natCast_mul, ←Int.natCast_add,dO]
 rw[Nat.mod_eq_of_lt hx,Nat.mod_eq_of_lt hy]
 have e:x*y=(x / 4294967296)*(y / 4294967296)*18446744073709551616+((x / 4294967296)*(y % 4294967296)+(x % 4294967296)*(y / 4294967296))*4294967296+(x % 4294967296)*(y % 4294967296):=by
  have h1:=Nat.div_add_mod x 4294967296
  have h2:=Nat.div_add_mod y 4294967296
  generalize x / 4294967296=a at*
  generalize y / 4294967296=b at*
  generalize x % 4294967296=c at*
  generalize y % 4294967296=d at*
  rw[←h1, ←h2];grind
 have b0:∀ a b:Nat,a≤4294967295→b≤4294967295→a*b≤18446744065119617025:=fun a b ha hb=>Nat.le_trans (Nat.mul_le_mul ha hb) (by decide)
 have h11:=b0 (x / 4294967296) (y / 4294967296) (by omega) (by omega)
 have h10:=b0 (x / 4294967296) (y % 4294967296) (by omega) (by omega)
 have h01:=b0 (x % 4294967296) (y / 4294967296) (by omega) (by omega)
 have h00:=b0 (x % 4294967296) (y % 4294967296) (by omega) (by omega)
 have m1:y % 4294967296 % 18446744073709551616=y % 4294967296:=by omega
 have m2:x % 4294967296 % 18446744073709551616=x % 4294967296:=by omega
 rw[m1,m2,e]
 generalize x / 4294967296*(y / 4294967296)=p11 at*
 generalize x / 4294967296*(y % 4294967296)=p10 at*
 generalize x % 4294967296*(y / 4294967296)=p01 at*
 generalize x % 4294967296*(y % 4294967296)=p00 at*
 clear e m1 m2
 have q:∀ (a b:Nat),a=b→(a:Int)=(b:Int):=fun _ _ h=>by rw[h]
 congr 2
 ·exact q _ _ (by omega)
theorem MZ(a b:Nat)(ha:a<9223372036854775808)(hb:b<9223372036854775808):
  wX (a,b,())=some (((a*b / 18446744073709551616:Nat):Int),((a*b % 18446744073709551616:Nat):Int),()):=by
 simp only[wX,SY.T,KU,Tc.T,dO]
 rw[Nat.mod_eq_of_lt (by omega),Nat.mod_eq_of_lt (by omega),ael a b (by omega) (by omega)]
 rfl
theorem aeW(a b:Int):qw (a,b,())=some (sg a b,()):=by
 simp only[qw,JI.T,wL,KE.T,Option.bind_some,sg]
 grind
theorem aeV(a b:Int):zB (a,b,())=some (sg a b,()):=by
 simp only[zB,Qr.T,CY,QM.T,Option.bind_some,sg]
 grind
theorem XQ(a b:Int):Ai ([(a,()),(b,())],())=some (if a≠0 then a else b,()):=by
 simp only[Ai,uY.FF,uY.T]
 rw[show(300+([(a,()),(b,())]:List (Int×Unit)).length)=299+1+1+1 from rfl]
 generalize 299=k
 simp only[uY.G0,uY.R0,uY.A0,uY.A1]
 have w0:af (0+1)=1:=aI _ (by omega)
 have w1:af (1+1)=2:=aI _ (by omega)
 rw[w0,w1]
 simp
 grind
theorem Xe(x y:Nat):(if sg ((x / 18446744073709551616:Nat):Int) ((y / 18446744073709551616:Nat):Int)≠0 then sg ((x / 18446744073709551616:Nat):Int) ((y / 18446744073709551616:Nat):Int)else
  sg ((x % 18446744073709551616:Nat):Int) ((y % 18446744073709551616:Nat):Int))=sg (x:Int) (y:Int):=by
 unfold sg
 split <;>rename_i h <;>(repeat' split at h) <;>(repeat' split) <;>omega
theorem W9(a b c d:Nat)(ha:a<9223372036854775808)(hb:b<9223372036854775808)(hc:c<9223372036854775808)(hd:d<9223372036854775808):
  zD (a,b,c,d,())=some (sg ((a*b:Nat):Int) ((c*d:Nat):Int),()):=by
 simp only[zD,QA.T,MZ a b ha hb,MZ c d hc hd,Option.bind_some,KW,Tf.T,aeV,XQ,Xe]
def oO(a b:Int×Int×Int×Unit):Int:=if sg (a.2.1*b.2.2.1) (b.2.1*a.2.2.1)≠0 then sg (a.2.1*b.2.2.1) (b.2.1*a.2.2.1)else sg a.1 b.1
def kM(a:Int×Int×Int×Unit):Prop:=0≤a.2.1∧a.2.1≤1125899906842624∧1≤a.2.2.1∧a.2.2.1≤1073741824
theorem aek(a b:Int×Int×Int×Unit)(ha:kM a)(hb:kM b):JJ (a.1,a.2.1,a.2.2.1,b.1,b.2.1,b.2.2.1,())=some (oO a b,()):=by
 obtain⟨a0,a1,a2,_⟩:=a
 obtain⟨b0,b1,b2,_⟩:=b
 obtain⟨h1,h2,h3,h4⟩:=ha
 obtain⟨g1,g2,g3,g4⟩:=hb
 simp only at h1 h2 h3 h4 g1 g2 g3 g4
 obtain⟨x1,rfl⟩:=Int.eq_ofNat_of_zero_le h1
 obtain⟨x2,rfl⟩:=Int.eq_ofNat_of_zero_le (by omega:0≤a2)
 obtain⟨y1,rfl⟩:=Int.eq_ofNat_of_zero_le g1
 obtain⟨y2,rfl⟩:=Int.eq_ofNat_of_zero_le (by omega:0≤b2)
 simp only[JJ,Rj.T,oO]
 rw[W9 x1 y2 y1 x2 (by omega) (by omega) (by omega) (by omega)]
 simp only[Option.bind_some,aeW,XQ,Int.natCast_mul]
end Go.Rv
