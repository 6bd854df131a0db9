/- SmoothStep: the program's step and the reference's lead to the same five numbers, for any five numbers and any want. No condition. -/
import Derived.Test.YtdobclaiebcmdaaStepWalks
set_option linter.unusedVariables false
set_option linter.unusedSimpArgs false
namespace Go.Proofs.Ytdobclaiebcmdaa.Pure
open Go.RowKit Go.Proofs.Ytdobclaiebcmdaa.PFnExactSmoothStep Go.Proofs.YtdobclaiebcmdaaW.PrintWords Go.Proofs.YtdobclaiebcmdaaW.PrintLast Go.Proofs.YtdobclaiebcmdaaW.PrintMore

namespace SmStep
theorem in_eq (n l h : Int) : impl_in.f n l h = some (decide (l ≤ n ∧ n ≤ h)) := by
  unfold impl_in.f
  by_cases h1 : l ≤ n <;> simp [h1]
theorem ite_some_bool (p q : Bool) : (if p = true then some q else some false) = some (p && q) := by cases p <;> simp
theorem spec_right (a b c d e : Int) : spec_SmoothRight.f a b c d e = some (decide (0 ≤ a ∧ a ≤ 288230376151711744 ∧ 0 ≤ b ∧ b ≤ 16 ∧ 0 ≤ c ∧ c ≤ 1000 ∧ 0 ≤ e ∧ e ≤ c ∧ 0 ≤ d ∧ d ≤ 1125899906842624)) := by
  unfold spec_SmoothRight.f spec_l02Want.f
  repeat' split
  all_goals simp_all
  all_goals omega
theorem impl_right (a b c d e : Int) : impl_SmoothRight.f a b c d e = some (decide (0 ≤ a ∧ a ≤ 288230376151711744 ∧ 0 ≤ b ∧ b ≤ 16 ∧ 0 ≤ c ∧ c ≤ 1000 ∧ 0 ≤ e ∧ e ≤ c ∧ 0 ≤ d ∧ d ≤ 1125899906842624)) := by
  unfold impl_SmoothRight.f impl_isWant.f
  simp only [in_eq, Option.bind_some, ite_some_bool, Bool.decide_and, Bool.and_assoc]
theorem spec_want (a : Int) : spec_l02Want.f a = some (decide (0 ≤ a ∧ a ≤ 1125899906842624)) := by
  unfold spec_l02Want.f
  by_cases h1 : 0 ≤ a <;> simp [h1]
theorem impl_want (a : Int) : impl_isWant.f a = some (decide (0 ≤ a ∧ a ≤ 1125899906842624)) := by
  unfold impl_isWant.f
  simp only [in_eq, Option.bind_some]

/-- where a step moves a value -/
def mov (v s w : Int) : Int := v + (256 * w - v) / 2 ^ s.toNat

theorem w64 {z : Int} (h : -9223372036854775808 ≤ z ∧ z ≤ 9223372036854775807) : wrap64 z = z := by unfold wrap64; omega

theorem div_bd (d : Int) (n : Nat) : (0 ≤ d → 0 ≤ d / 2 ^ n ∧ d / 2 ^ n ≤ d) ∧ (d < 0 → d ≤ d / 2 ^ n ∧ d / 2 ^ n < 0) := by
  have hp : (0 : Int) < 2 ^ n := Int.pow_pos (by omega)
  constructor
  · intro h
    exact ⟨Int.ediv_nonneg h (by omega), Int.ediv_le_self _ h⟩
  · intro h
    refine ⟨?_, Int.ediv_neg_of_neg_of_pos h hp⟩
    rw [Int.le_ediv_iff_mul_le hp]
    have : d * 2 ^ n ≤ d * 1 := Int.mul_le_mul_of_nonpos_left (by omega) (by omega)
    omega

theorem mov_bd {v s w : Int} (hv : 0 ≤ v ∧ v ≤ 288230376151711744) (hw : 0 ≤ w ∧ w ≤ 1125899906842624) : 0 ≤ mov v s w ∧ mov v s w ≤ 288230376151711744 := by
  unfold mov
  obtain ⟨h1, h2⟩ := div_bd (256 * w - v) s.toNat
  by_cases h : 0 ≤ 256 * w - v
  · have := h1 h; omega
  · have := h2 (by omega); omega

theorem impl_moved (v s c d e w : Int) (hv : 0 ≤ v ∧ v ≤ 288230376151711744) (hw : 0 ≤ w ∧ w ≤ 1125899906842624) (hs : 0 ≤ s ∧ s ≤ 16) : impl_Smooth_moved.f v s c d e w = some (mov v s w) := by
  unfold impl_Smooth_moved.f
  rw [if_pos hs.1]
  have h0 : shr .i64 (wrap64 ((wrap64 (256 * w)) - v)) s = (256 * w - v) / 2 ^ s.toNat := by
    rw [w64 (z := 256 * w) (by omega), w64 (by omega)]
    unfold shr
    rw [Nat.min_eq_left]
    show s.toNat ≤ 64
    omega
  rw [h0]
  have := mov_bd (s := s) hv hw
  unfold mov at this ⊢
  rw [w64 (by omega)]

theorem tdiv_floor (d u : Int) (hu : 0 < u) : (d.tmod u < 0 → d.tdiv u - 1 = d / u) ∧ (¬ d.tmod u < 0 → d.tdiv u = d / u) := by
  rw [Int.tmod_eq_emod, Int.tdiv_eq_ediv, Int.sign_eq_one_of_pos hu]
  have b1 := Int.emod_nonneg d (show u ≠ 0 by omega)
  have b2 := Int.emod_lt_of_pos d hu
  have b3 : (u.natAbs : Int) = u := by omega
  split <;> constructor <;> intro h <;> omega

theorem moved_l0 (v s d : Int) (hs : 0 ≤ s ∧ s ≤ 16) (hd : -288230376151711744 ≤ d ∧ d ≤ 288230376151711744) (hv : 0 ≤ v ∧ v ≤ 288230376151711744) (hm : 0 ≤ v + d / 2 ^ s.toNat ∧ v + d / 2 ^ s.toNat ≤ 288230376151711744) (m : Nat) :
    ∀ (k : Nat) (i : Int), 0 ≤ i → i ≤ s → s - i = m → m < k → spec_l17Moved.l0 k v s d (2 ^ i.toNat) i = some (v + d / 2 ^ s.toNat) := by
  induction m with
  | zero =>
    intro k i h0 h1 hi hk
    obtain ⟨k, rfl⟩ : ∃ n, k = n + 1 := ⟨k - 1, by omega⟩
    obtain rfl : i = s := by omega
    have hp : (0 : Int) < 2 ^ i.toNat := Int.pow_pos (by omega)
    obtain ⟨t1, t2⟩ := tdiv_floor d (2 ^ i.toNat) hp
    obtain ⟨b1, b2⟩ := div_bd d i.toNat
    have b3 : -288230376151711744 ≤ d / 2 ^ i.toNat ∧ d / 2 ^ i.toNat ≤ 288230376151711744 := by
      by_cases h : 0 ≤ d
      · have := b1 h; omega
      · have := b2 (by omega); omega
    simp only [spec_l17Moved.l0]
    rw [if_neg (by omega), if_neg (by omega)]
    by_cases h : d.tmod (2 ^ i.toNat) < 0
    · have e := t1 h
      rw [if_pos h, w64 (z := d.tdiv _) (by omega), e, w64 (z := d / _) (by omega), w64 (by omega)]
    · have e := t2 h
      rw [if_neg h, e, w64 (z := d / _) (by omega), w64 (by omega)]
  | succ m ih =>
    intro k i h0 h1 hi hk
    obtain ⟨k, rfl⟩ : ∃ n, k = n + 1 := ⟨k - 1, by omega⟩
    have hlt : i < s := by omega
    simp only [spec_l17Moved.l0]
    rw [if_pos hlt]
    have e1 : (i + 1).toNat = i.toNat + 1 := by omega
    have e2 : wrap64 (2 * 2 ^ i.toNat) = 2 ^ (i + 1).toNat := by
      rw [e1, Int.pow_succ, Int.mul_comm]
      apply w64
      have hp : (0 : Int) < 2 ^ i.toNat := Int.pow_pos (by omega)
      have hq : (2 : Int) ^ i.toNat ≤ 2 ^ 16 := by exact_mod_cast Nat.pow_le_pow_right (show 0 < 2 by omega) (show i.toNat ≤ 16 by omega)
      omega
    rw [e2, w64 (z := i + 1) (by omega)]
    exact ih k (i + 1) (by omega) (by omega) (by omega) (by omega)

theorem spec_moved (v s w : Int) (hv : 0 ≤ v ∧ v ≤ 288230376151711744) (hw : 0 ≤ w ∧ w ≤ 1125899906842624) (hs : 0 ≤ s ∧ s ≤ 16) (k : Nat) (hk : 17 ≤ k) : spec_l17Moved.f k v s w = some (mov v s w) := by
  unfold spec_l17Moved.f
  rw [w64 (z := 256 * w) (by omega), w64 (by omega)]
  have := moved_l0 v s (256 * w - v) hs (by omega) hv (mov_bd hv hw) s.toNat k 0 (by omega) (by omega) (by omega) (by omega)
  exact this

end SmStep
open SmStep

theorem FnExactSmoothStep (a b c d e w : Int) (_ : -9223372036854775808 ≤ a ∧ a ≤ 9223372036854775807) (_ : -9223372036854775808 ≤ b ∧ b ≤ 9223372036854775807) (_ : -9223372036854775808 ≤ c ∧ c ≤ 9223372036854775807)
    (_ : -9223372036854775808 ≤ d ∧ d ≤ 9223372036854775807) (_ : -9223372036854775808 ≤ e ∧ e ≤ 9223372036854775807) (_ : -9223372036854775808 ≤ w ∧ w ≤ 9223372036854775807) : ∃ k, laws_FnExactSmoothStep.f k a b c d e w = some true := by
  obtain ⟨r, h1, h2⟩ : ∃ r, impl_SmoothStep.f a b c d e w = some r ∧ spec_SmoothStep.f 30 a b c d e w = some r := by
    unfold impl_SmoothStep.f spec_SmoothStep.f
    rw [impl_right, spec_right]
    simp only [Option.bind_some, impl_want, spec_want, spec_SmoothStep.j0, impl_Smooth_step.f]
    by_cases h : 0 ≤ a ∧ a ≤ 288230376151711744 ∧ 0 ≤ b ∧ b ≤ 16 ∧ 0 ≤ c ∧ c ≤ 1000 ∧ 0 ≤ e ∧ e ≤ c ∧ 0 ≤ d ∧ d ≤ 1125899906842624
    · by_cases hw : 0 ≤ w ∧ w ≤ 1125899906842624
      · rw [impl_moved a b c d e w (by omega) hw (by omega), spec_moved a b w (by omega) hw (by omega) 29 (by omega)]
        simp only [h, hw, decide_true, and_self, if_true, Bool.not_true, Option.bind_some]
        by_cases h3 : w ≥ d
        · simp [h3]
        · by_cases h4 : e = c <;> simp [h3, h4]
      · rw [decide_eq_false hw]
        simp
    · rw [decide_eq_false h]
      simp
  refine ⟨30, ?_⟩
  obtain ⟨r1, r2, r3, r4, r5⟩ := r
  unfold laws_FnExactSmoothStep.f laws_toSmooth.f
  simp only [Option.bind_some]
  rw [h1, h2]
  simp [laws_eqSmooth.f]
end Go.Proofs.Ytdobclaiebcmdaa.Pure
