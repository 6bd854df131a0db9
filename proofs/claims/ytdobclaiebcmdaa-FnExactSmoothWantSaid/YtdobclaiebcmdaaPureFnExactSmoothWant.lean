/- SmoothWant: the program and the reference tell the same number for any five numbers. No condition. -/
import Derived.Test.YtdobclaiebcmdaaPFnExactSmoothWantx
set_option linter.unusedVariables false
set_option linter.unusedSimpArgs false
namespace Go.Proofs.Ytdobclaiebcmdaa.Pure
open Go.Proofs.Ytdobclaiebcmdaa.PFnExactSmoothWant Go.Proofs.YtdobclaiebcmdaaW.PrintWords

namespace SmWant
theorem in_eq (n l h : Int) : impl_in.f n l h = some (decide (l ≤ n ∧ n ≤ h)) := by
  unfold impl_in.f
  by_cases h1 : l ≤ n <;> simp [h1]
theorem ite_some_bool (p q : Bool) : (if p = true then some q else some false) = some (p && q) := by cases p <;> simp
theorem spec_right (a b c d e : Int) : spec_SmoothRight.f a b c d e = some (decide (0 ≤ a ∧ a ≤ 288230376151711744 ∧ 0 ≤ b ∧ b ≤ 16 ∧ 0 ≤ c ∧ c ≤ 1000 ∧ 0 ≤ e ∧ e ≤ c ∧ 0 ≤ d ∧ d ≤ 1125899906842624)) := by
  unfold spec_SmoothRight.f spec_l02Want.f
  repeat' split
  all_goals simp_all
  all_goals omega
theorem impl_right (a b c d e : Int) : impl_SmoothRight.f a b c d e = some (decide (0 ≤ a ∧ a ≤ 288230376151711744 ∧ 0 ≤ b ∧ b ≤ 16 ∧ 0 ≤ c ∧ c ≤ 1000 ∧ 0 ≤ e ∧ e ≤ c ∧ 0 ≤ d ∧ d ≤ 1125899906842624)) := by
  unfold impl_SmoothRight.f impl_isWant.f
  simp only [in_eq, Option.bind_some, ite_some_bool, Bool.decide_and, Bool.and_assoc]
theorem max_eq (a b : Int) : spec_l01Max.f a b = some (mx a b) := by
  unfold spec_l01Max.f mx
  split <;> split <;> first | rfl | (congr 1; omega)
end SmWant
open SmWant

theorem FnExactSmoothWant (a b c d e : Int) (_ : -9223372036854775808 ≤ a ∧ a ≤ 9223372036854775807) (_ : -9223372036854775808 ≤ b ∧ b ≤ 9223372036854775807) (_ : -9223372036854775808 ≤ c ∧ c ≤ 9223372036854775807)
    (_ : -9223372036854775808 ≤ d ∧ d ≤ 9223372036854775807) (_ : -9223372036854775808 ≤ e ∧ e ≤ 9223372036854775807) : laws_FnExactSmoothWant.f a b c d e = some true := by
  unfold laws_FnExactSmoothWant.f laws_toSmooth.f
  simp only [Option.bind_some]
  unfold spec_SmoothWant.f impl_SmoothWant.f
  rw [spec_right, impl_right]
  simp only [Option.bind_some, max_eq, impl_Smooth_want.f]
  split <;> simp
end Go.Proofs.Ytdobclaiebcmdaa.Pure
