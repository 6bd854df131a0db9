/- Plain facts: wide_s-spec. -/
import Derived.Test.YtnebddbibpbloaaM07
set_option linter.unusedVariables false
set_option linter.unusedSimpArgs false
set_option linter.unusedSectionVars false
namespace Go.Rv
abbrev hiN (V : Nat) : Int := ((V / 18446744073709551616 : Nat) : Int)
abbrev loN (V : Nat) : Int := ((V % 18446744073709551616 : Nat) : Int)
theorem and_one (a : Nat) (ha : a < 18446744073709551616) : ((BitVec.ofInt 64 (a : Int)) &&& (BitVec.ofInt 64 1)).toNat = a % 2 := by
  rw [BitVec.ofInt_natCast, show (1 : Int) = ((1 : Nat) : Int) from rfl, BitVec.ofInt_natCast, BitVec.toNat_and, BitVec.toNat_ofNat, BitVec.toNat_ofNat, Nat.mod_eq_of_lt ha]
  exact Nat.and_two_pow_sub_one_eq_mod _ 1
theorem fdivP (a n : Nat) : Int.fdiv (a : Int) (2 ^ n) = ((a / 2 ^ n : Nat) : Int) := by
  rw [Int.fdiv_eq_ediv_of_nonneg _ (Int.le_of_lt (Int.pow_pos (by decide))), Int.natCast_ediv, Int.natCast_pow]; rfl
end Go.Rv
