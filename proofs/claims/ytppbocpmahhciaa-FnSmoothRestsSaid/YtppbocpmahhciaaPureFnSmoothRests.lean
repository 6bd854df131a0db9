/- FnSmoothRests: as many steps as are told lead to a value that the want does not move, one step less does not. For every code. -/
import Derived.Test.YtppbocpmahhciaaPFnSmoothRestsx5
set_option linter.unusedVariables false
set_option linter.unusedSimpArgs false
namespace Go.Proofs.Ytppbocpmahhciaa.Pure
open Go.RowKit Go.Proofs.Ytppbocpmahhciaa.PFnSmoothRests Go.Proofs.YtppbocpmahhciaaW.PrintWords Go.Proofs.YtppbocpmahhciaaW.PrintLast Go.Proofs.YtppbocpmahhciaaW.PrintMore
namespace SmoR
theorem w64d {z : Int} (h : -9223372036854775808 ≤ z ∧ z ≤ 9223372036854775807) : wrap64 z = z := by unfold wrap64; omega
theorem u64d {z : Int} (h : 0 ≤ z ∧ z ≤ 18446744073709551615) : IntKind.u64.wrap z = z := by
  have := IntKind.wrap_u64 z
  rw [this]
  omega
theorem u64_bd (z : Int) : 0 ≤ IntKind.u64.wrap z ∧ IntKind.u64.wrap z ≤ 18446744073709551615 := by
  rw [IntKind.wrap_u64 z]
  omega
theorem draw_bd (v m most : Int) (h1 : 1 < most) (h2 : most ≤ 9223372036854775807) : 0 ≤ spec_l01Src_n.draw v m most ∧ spec_l01Src_n.draw v m most < most := by
  unfold spec_l01Src_n.draw
  rw [u64d (z := most) (by omega)]
  have hb := u64_bd (v + m / 1048576)
  generalize IntKind.u64.wrap (v + m / 1048576) = x at hb
  rw [Int.tmod_eq_emod_of_nonneg hb.1]
  have b1 := Int.emod_nonneg x (show most ≠ 0 by omega)
  have b2 := Int.emod_lt_of_pos x (show 0 < most by omega)
  rw [w64d (by omega)]
  omega
/-- a draw tells some number below most, whatever the state -/
theorem n_ok (l : List Int) (p m z most : Int) (hl : l.length ≤ 140737488351232) (hp : 0 ≤ p ∧ p ≤ l.length) (hm : most ≤ 9223372036854775807) :
    ∃ r p' m', spec_l01Src_n.f l p m z most = some (r, p', m', z) ∧ (0 ≤ p' ∧ p' ≤ l.length) ∧ 0 ≤ r ∧ (1 < most → r < most) ∧ (most ≤ 1 → r = 0) := by
  unfold spec_l01Src_n.f
  by_cases h1 : most ≤ 1
  · rw [if_pos h1]
    exact ⟨_, _, _, rfl, hp, Int.le_refl _, fun h => by omega, fun _ => rfl⟩
  · rw [if_neg h1, if_neg (by rw [u64d (by omega)]; omega)]
    by_cases h2 : p < (l.length : Int)
    · rw [if_pos h2, if_pos hp.1, w64d (z := p + 1) (by omega)]
      have := draw_bd (IntKind.u64.wrap (rd l p)) (spec_l01Src_n.mix m) most (by omega) hm
      exact ⟨_, _, _, rfl, by omega, this.1, fun _ => this.2, fun h => absurd h h1⟩
    · rw [if_neg h2]
      have := draw_bd 0 (spec_l01Src_n.mix m) most (by omega) hm
      exact ⟨_, _, _, rfl, hp, this.1, fun _ => this.2, fun h => absurd h h1⟩
theorem one_ok (l : List Int) (p m z most : Int) (hl : l.length ≤ 140737488351232) (hp : 0 ≤ p ∧ p ≤ l.length) (hm : most ≤ 9223372036854775807) :
    ∃ (b : Bool) (p' m' : Int), spec_l01Src_one.f l p m z most = some (b, p', m', z) ∧ (0 ≤ p' ∧ p' ≤ l.length) := by
  obtain ⟨r, p', m', e, h, _⟩ := n_ok l p m z most hl hp hm
  unfold spec_l01Src_one.f
  rw [e]
  exact ⟨_, _, _, rfl, h⟩
theorem edge_ok (l : List Int) (p m z : Int) (hl : l.length ≤ 140737488351232) (hp : 0 ≤ p ∧ p ≤ l.length) :
    ∃ r p' m', spec_l01Src_edge.f l p m z = some (r, p', m', z) ∧ (0 ≤ p' ∧ p' ≤ l.length) := by
  obtain ⟨r, p', m', e, h, h0, h1, _⟩ := n_ok l p m z 14 hl hp (by omega)
  unfold spec_l01Src_edge.f
  simp only [Option.bind_some]
  rw [e]
  simp only [Option.bind_some]
  rw [if_pos h0, if_pos (by have := h1 (by omega); simp; omega)]
  exact ⟨_, _, _, rfl, h⟩
theorem src_ok (l : List Int) : ∃ m z, spec_l01Source.f l = some (l, 0, m, z) := ⟨_, _, rfl⟩
theorem wantOf_ok (l : List Int) (p m z : Int) (hl : l.length ≤ 140737488351232) (hp : 0 ≤ p ∧ p ≤ l.length) :
    ∃ r p' m', spec_l01Src_l02WantOf.f l p m z = some (r, p', m', z) ∧ (0 ≤ p' ∧ p' ≤ l.length) := by
  obtain ⟨r, p', m', e, h, _⟩ := n_ok l p m z 12 hl hp (by omega)
  unfold spec_l01Src_l02WantOf.f
  rw [e]
  simp only [Option.bind_some]
  split
  · exact ⟨_, _, _, rfl, h⟩
  · split
    · obtain ⟨r, p2, m2, e, h, _⟩ := n_ok l p' m' z 1125899906842624 hl h (by omega)
      rw [e]
      exact ⟨_, _, _, rfl, h⟩
    · split
      · exact ⟨_, _, _, rfl, h⟩
      · obtain ⟨r, p2, m2, e, h, _⟩ := n_ok l p' m' z 60 hl h (by omega)
        rw [e]
        exact ⟨_, _, _, rfl, h⟩
theorem smooth_j0 (l : List Int) (p m z a b c d e : Int) (k : Nat) (hl : l.length ≤ 140737488351232) (hp : 0 ≤ p ∧ p ≤ l.length) :
    ∃ a' b' c' d' e' p' m', spec_l01Src_l17Smooth.j0 (k + 1) l p m z a b c d e = some (a', b', c', d', e', p', m', z) ∧ (0 ≤ p' ∧ p' ≤ l.length) := by
  simp only [spec_l01Src_l17Smooth.j0]
  obtain ⟨q, p1, m1, e1, h1⟩ := one_ok l p m z 12 hl hp (by omega)
  rw [e1]
  simp only [Option.bind_some]
  cases q
  · exact ⟨_, _, _, _, _, _, _, rfl, h1⟩
  · rw [if_pos rfl]
    obtain ⟨r, p2, m2, e2, h2, _⟩ := n_ok l p1 m1 z 5 hl h1 (by omega)
    rw [e2]
    simp only [Option.bind_some]
    split
    · obtain ⟨r, p3, m3, e3, h3, h0, h4, _⟩ := n_ok l p2 m2 z 3 hl h2 (by omega)
      rw [e3]
      simp only [Option.bind_some]
      rw [if_pos h0, if_pos (by have := h4 (by omega); simp; omega)]
      exact ⟨_, _, _, _, _, _, _, rfl, h3⟩
    · split
      · obtain ⟨r, p3, m3, e3, h3, _⟩ := n_ok l p2 m2 z 2 hl h2 (by omega)
        rw [e3]
        exact ⟨_, _, _, _, _, _, _, rfl, h3⟩
      · split
        · exact ⟨_, _, _, _, _, _, _, rfl, h2⟩
        · split
          · obtain ⟨r, p3, m3, e3, h3, h0, h4, _⟩ := n_ok l p2 m2 z 3 hl h2 (by omega)
            rw [e3]
            simp only [Option.bind_some]
            rw [if_pos h0, if_pos (by have := h4 (by omega); simp; omega)]
            exact ⟨_, _, _, _, _, _, _, rfl, h3⟩
          · obtain ⟨r, p3, m3, e3, h3⟩ := edge_ok l p2 m2 z hl h2
            rw [e3]
            exact ⟨_, _, _, _, _, _, _, rfl, h3⟩
theorem smooth_ok (l : List Int) (p m z : Int) (k : Nat) (hl : l.length ≤ 140737488351232) (hp : 0 ≤ p ∧ p ≤ l.length) :
    ∃ a' b' c' d' e' p' m', spec_l01Src_l17Smooth.f (k + 1) l p m z = some (a', b', c', d', e', p', m', z) ∧ (0 ≤ p' ∧ p' ≤ l.length) := by
  unfold spec_l01Src_l17Smooth.f
  obtain ⟨r1, p1, m1, e1, h1, _⟩ := n_ok l p m z 20000 hl hp (by omega)
  rw [e1]; simp only [Option.bind_some]
  obtain ⟨r2, p2, m2, e2, h2, _⟩ := n_ok l p1 m1 z 6 hl h1 (by omega)
  rw [e2]; simp only [Option.bind_some]
  obtain ⟨r3, p3, m3, e3, h3, b1, b2, _⟩ := n_ok l p2 m2 z 5 hl h2 (by omega)
  rw [e3]; simp only [Option.bind_some]
  obtain ⟨r4, p4, m4, e4, h4, _⟩ := n_ok l p3 m3 z 60 hl h3 (by omega)
  rw [e4]; simp only [Option.bind_some]
  have b3 := b2 (by omega)
  obtain ⟨r5, p5, m5, e5, h5, _⟩ := n_ok l p4 m4 z (wrap64 (r3 + 1)) hl h4 (by rw [w64d (by omega)]; omega)
  rw [e5]; simp only [Option.bind_some]
  obtain ⟨q, p6, m6, e6, h6⟩ := one_ok l p5 m5 z 10 hl h5 (by omega)
  rw [e6]; simp only [Option.bind_some]
  cases q
  · exact smooth_j0 l p6 m6 z _ _ _ _ _ k hl h6
  · rw [if_pos rfl]
    obtain ⟨r7, p7, m7, e7, h7⟩ := wantOf_ok l p6 m6 z hl h6
    rw [e7]; simp only [Option.bind_some]
    exact smooth_j0 l p7 m7 z _ _ _ _ _ k hl h7
theorem in_eq (n l h : Int) : impl_in.f n l h = some (decide (l ≤ n ∧ n ≤ h)) := by
  unfold impl_in.f
  by_cases h1 : l ≤ n <;> simp [h1]
theorem ite_some_bool (p q : Bool) : (if p = true then some q else some false) = some (p && q) := by cases p <;> simp
theorem spec_right (a b c d e : Int) : spec_SmoothRight.f a b c d e = some (decide (0 ≤ a ∧ a ≤ 288230376151711744 ∧ 0 ≤ b ∧ b ≤ 16 ∧ 0 ≤ c ∧ c ≤ 1000 ∧ 0 ≤ e ∧ e ≤ c ∧ 0 ≤ d ∧ d ≤ 1125899906842624)) := by
  unfold spec_SmoothRight.f spec_l02Want.f
  repeat' split
  all_goals simp_all
  all_goals omega
theorem impl_right (a b c d e : Int) : impl_SmoothRight.f a b c d e = some (decide (0 ≤ a ∧ a ≤ 288230376151711744 ∧ 0 ≤ b ∧ b ≤ 16 ∧ 0 ≤ c ∧ c ≤ 1000 ∧ 0 ≤ e ∧ e ≤ c ∧ 0 ≤ d ∧ d ≤ 1125899906842624)) := by
  unfold impl_SmoothRight.f impl_isWant.f
  simp only [in_eq, Option.bind_some, ite_some_bool, Bool.decide_and, Bool.and_assoc]
theorem spec_want (a : Int) : spec_l02Want.f a = some (decide (0 ≤ a ∧ a ≤ 1125899906842624)) := by
  unfold spec_l02Want.f
  by_cases h1 : 0 ≤ a <;> simp [h1]
theorem impl_want (a : Int) : impl_isWant.f a = some (decide (0 ≤ a ∧ a ≤ 1125899906842624)) := by
  unfold impl_isWant.f
  simp only [in_eq, Option.bind_some]

/-- where a step moves a value -/
def mov (v s w : Int) : Int := v + (256 * w - v) / 2 ^ s.toNat

theorem w64 {z : Int} (h : -9223372036854775808 ≤ z ∧ z ≤ 9223372036854775807) : wrap64 z = z := by unfold wrap64; omega

theorem div_bd (d : Int) (n : Nat) : (0 ≤ d → 0 ≤ d / 2 ^ n ∧ d / 2 ^ n ≤ d) ∧ (d < 0 → d ≤ d / 2 ^ n ∧ d / 2 ^ n < 0) := by
  have hp : (0 : Int) < 2 ^ n := Int.pow_pos (by omega)
  constructor
  · intro h
    exact ⟨Int.ediv_nonneg h (by omega), Int.ediv_le_self _ h⟩
  · intro h
    refine ⟨?_, Int.ediv_neg_of_neg_of_pos h hp⟩
    rw [Int.le_ediv_iff_mul_le hp]
    have : d * 2 ^ n ≤ d * 1 := Int.mul_le_mul_of_nonpos_left (by omega) (by omega)
    omega

theorem mov_bd {v s w : Int} (hv : 0 ≤ v ∧ v ≤ 288230376151711744) (hw : 0 ≤ w ∧ w ≤ 1125899906842624) : 0 ≤ mov v s w ∧ mov v s w ≤ 288230376151711744 := by
  unfold mov
  obtain ⟨h1, h2⟩ := div_bd (256 * w - v) s.toNat
  by_cases h : 0 ≤ 256 * w - v
  · have := h1 h; omega
  · have := h2 (by omega); omega

theorem impl_moved (v s c d e w : Int) (hv : 0 ≤ v ∧ v ≤ 288230376151711744) (hw : 0 ≤ w ∧ w ≤ 1125899906842624) (hs : 0 ≤ s ∧ s ≤ 16) : impl_Smooth_moved.f v s c d e w = some (mov v s w) := by
  unfold impl_Smooth_moved.f
  rw [if_pos hs.1]
  have h0 : shr .i64 (wrap64 ((wrap64 (256 * w)) - v)) s = (256 * w - v) / 2 ^ s.toNat := by
    rw [w64 (z := 256 * w) (by omega), w64 (by omega)]
    unfold shr
    rw [Nat.min_eq_left]
    show s.toNat ≤ 64
    omega
  rw [h0]
  have := mov_bd (s := s) hv hw
  unfold mov at this ⊢
  rw [w64 (by omega)]
theorem tdiv_floor (d u : Int) (hu : 0 < u) : (d.tmod u < 0 → d.tdiv u - 1 = d / u) ∧ (¬ d.tmod u < 0 → d.tdiv u = d / u) := by
  rw [Int.tmod_eq_emod, Int.tdiv_eq_ediv, Int.sign_eq_one_of_pos hu]
  have b1 := Int.emod_nonneg d (show u ≠ 0 by omega)
  have b2 := Int.emod_lt_of_pos d hu
  have b3 : (u.natAbs : Int) = u := by omega
  split <;> constructor <;> intro h <;> omega

theorem moved_l0 (v s d : Int) (hs : 0 ≤ s ∧ s ≤ 16) (hd : -288230376151711744 ≤ d ∧ d ≤ 288230376151711744) (hv : 0 ≤ v ∧ v ≤ 288230376151711744) (hm : 0 ≤ v + d / 2 ^ s.toNat ∧ v + d / 2 ^ s.toNat ≤ 288230376151711744) (m : Nat) :
    ∀ (k : Nat) (i : Int), 0 ≤ i → i ≤ s → s - i = m → m < k → spec_l17Moved.l0 k v s d (2 ^ i.toNat) i = some (v + d / 2 ^ s.toNat) := by
  induction m with
  | zero =>
    intro k i h0 h1 hi hk
    obtain ⟨k, rfl⟩ : ∃ n, k = n + 1 := ⟨k - 1, by omega⟩
    obtain rfl : i = s := by omega
    have hp : (0 : Int) < 2 ^ i.toNat := Int.pow_pos (by omega)
    obtain ⟨t1, t2⟩ := tdiv_floor d (2 ^ i.toNat) hp
    obtain ⟨b1, b2⟩ := div_bd d i.toNat
    have b3 : -288230376151711744 ≤ d / 2 ^ i.toNat ∧ d / 2 ^ i.toNat ≤ 288230376151711744 := by
      by_cases h : 0 ≤ d
      · have := b1 h; omega
      · have := b2 (by omega); omega
    simp only [spec_l17Moved.l0]
    rw [if_neg (by omega), if_neg (by omega)]
    by_cases h : d.tmod (2 ^ i.toNat) < 0
    · have e := t1 h
      rw [if_pos h, w64 (z := d.tdiv _) (by omega), e, w64 (z := d / _) (by omega), w64 (by omega)]
    · have e := t2 h
      rw [if_neg h, e, w64 (z := d / _) (by omega), w64 (by omega)]
  | succ m ih =>
    intro k i h0 h1 hi hk
    obtain ⟨k, rfl⟩ : ∃ n, k = n + 1 := ⟨k - 1, by omega⟩
    have hlt : i < s := by omega
    simp only [spec_l17Moved.l0]
    rw [if_pos hlt]
    have e1 : (i + 1).toNat = i.toNat + 1 := by omega
    have e2 : wrap64 (2 * 2 ^ i.toNat) = 2 ^ (i + 1).toNat := by
      rw [e1, Int.pow_succ, Int.mul_comm]
      apply w64
      have hp : (0 : Int) < 2 ^ i.toNat := Int.pow_pos (by omega)
      have hq : (2 : Int) ^ i.toNat ≤ 2 ^ 16 := by exact_mod_cast Nat.pow_le_pow_right (show 0 < 2 by omega) (show i.toNat ≤ 16 by omega)
      omega
    rw [e2, w64 (z := i + 1) (by omega)]
    exact ih k (i + 1) (by omega) (by omega) (by omega) (by omega)

theorem spec_moved (v s w : Int) (hv : 0 ≤ v ∧ v ≤ 288230376151711744) (hw : 0 ≤ w ∧ w ≤ 1125899906842624) (hs : 0 ≤ s ∧ s ≤ 16) (k : Nat) (hk : 17 ≤ k) : spec_l17Moved.f k v s w = some (mov v s w) := by
  unfold spec_l17Moved.f
  rw [w64 (z := 256 * w) (by omega), w64 (by omega)]
  have := moved_l0 v s (256 * w - v) hs (by omega) hv (mov_bd hv hw) s.toNat k 0 (by omega) (by omega) (by omega) (by omega)
  exact this
theorem step_off (a b c d e w : Int) (h : ¬ ((0 ≤ a ∧ a ≤ 288230376151711744 ∧ 0 ≤ b ∧ b ≤ 16 ∧ 0 ≤ c ∧ c ≤ 1000 ∧ 0 ≤ e ∧ e ≤ c ∧ 0 ≤ d ∧ d ≤ 1125899906842624) ∧ 0 ≤ w ∧ w ≤ 1125899906842624)) : impl_SmoothStep.f a b c d e w = some (a, b, c, d, e) := by
  unfold impl_SmoothStep.f
  rw [impl_right]
  simp only [Option.bind_some, impl_want]
  by_cases h1 : 0 ≤ a ∧ a ≤ 288230376151711744 ∧ 0 ≤ b ∧ b ≤ 16 ∧ 0 ≤ c ∧ c ≤ 1000 ∧ 0 ≤ e ∧ e ≤ c ∧ 0 ≤ d ∧ d ≤ 1125899906842624
  · rw [if_pos (decide_eq_true h1), if_neg (by simp; omega)]
  · rw [if_neg (by simpa using h1)]
theorem step_on (a b c d e w : Int) (h : 0 ≤ a ∧ a ≤ 288230376151711744 ∧ 0 ≤ b ∧ b ≤ 16 ∧ 0 ≤ c ∧ c ≤ 1000 ∧ 0 ≤ e ∧ e ≤ c ∧ 0 ≤ d ∧ d ≤ 1125899906842624) (hw : 0 ≤ w ∧ w ≤ 1125899906842624) :
    ∃ d' e', impl_SmoothStep.f a b c d e w = some (mov a b w, b, c, d', e') ∧ 0 ≤ e' ∧ e' ≤ c ∧ w ≤ d' ∧ d' ≤ 1125899906842624 := by
  unfold impl_SmoothStep.f impl_Smooth_step.f
  rw [impl_right]
  simp only [Option.bind_some, impl_want]
  rw [if_pos (decide_eq_true h), if_pos (decide_eq_true hw), impl_moved a b c d e w (by omega) hw (by omega)]
  simp only [Option.bind_some]
  by_cases h1 : w ≥ d
  · rw [if_pos h1]
    exact ⟨w, 0, rfl, by omega, by omega, by omega, by omega⟩
  · rw [if_neg h1]
    by_cases h2 : e = c
    · rw [if_pos h2]
      exact ⟨w, 0, rfl, by omega, by omega, by omega, by omega⟩
    · rw [if_neg h2, w64 (z := e + 1) (by omega)]
      exact ⟨d, e + 1, rfl, by omega, by omega, by omega, by omega⟩
theorem draw_ok (l : List Int) (k : Nat) (hl : l.length ≤ 140737488351232) : ∃ a b c d e w, spec_DrawSmoothSteps.f (k + 1) l = some (a, b, c, d, e, w) := by
  unfold spec_DrawSmoothSteps.f
  obtain ⟨m, z, e0⟩ := src_ok l
  rw [e0]; simp only [Option.bind_some]
  obtain ⟨a, b, c, d, e, p1, m1, e1, h1⟩ := smooth_ok l 0 m z k hl (by omega)
  rw [e1]; simp only [Option.bind_some]
  obtain ⟨q, p2, m2, e2, h2⟩ := one_ok l p1 m1 z 30 hl h1 (by omega)
  rw [e2]; simp only [Option.bind_some]
  cases q
  · obtain ⟨w, p3, m3, e3, h3, _⟩ := n_ok l p2 m2 z 60 hl h2 (by omega)
    simp only [Bool.false_eq_true, if_false]
    rw [e3]
    exact ⟨_, _, _, _, _, _, rfl⟩
  · rw [if_pos rfl]
    obtain ⟨w, p3, m3, e3, h3⟩ := wantOf_ok l p2 m2 z hl h2
    rw [e3]
    exact ⟨_, _, _, _, _, _, rfl⟩
/-- the loops, from a value on -/
theorem loops (s c w : Int) (z1 z2 z3 z4 z5 : Int) (hc : 0 ≤ c ∧ c ≤ 1000) (hw : 0 ≤ w ∧ w ≤ 1125899906842624) (hs : 0 ≤ s ∧ s ≤ 16) (m : Nat) :
    ∀ (v n : Int), 0 ≤ v → v ≤ 288230376151711744 → 0 ≤ n → n ≤ 1000000 → 1000000 - n = m →
      ∃ N, n ≤ N ∧ N ≤ 1000000 ∧ (∀ (k : Nat) (d e : Int), m + 20 < k → impl_SmoothSteps.l0 k w n v s c d e = some N ∧ spec_SmoothSteps.l0 k w v n z1 s z3 z4 z5 = some N) ∧
        (N < 1000000 → ∀ (k : Nat) (d e : Int), 0 ≤ d → d ≤ 1125899906842624 → 0 ≤ e → e ≤ c → N - n + 2 < k → laws_FnSmoothRests.l0 k w N n v s c d e = some true) := by
  induction m with
  | zero =>
    intro v n h0 h1 h2 h3 h4
    obtain rfl : n = 1000000 := by omega
    refine ⟨1000000, by omega, by omega, fun k d e hk => ?_, fun h => absurd h (by omega)⟩
    obtain ⟨k, rfl⟩ : ∃ n, k = n + 1 := ⟨k - 1, by omega⟩
    simp only [impl_SmoothSteps.l0, spec_SmoothSteps.l0]
    simp
  | succ m ih =>
    intro v n h0 h1 h2 h3 h4
    have hb := mov_bd (s := s) (v := v) (w := w) ⟨h0, h1⟩ hw
    have hn : n < 1000000 := by omega
    by_cases h : mov v s w = v
    · refine ⟨n, by omega, by omega, fun k d e hk => ?_, fun _ k d e g1 g2 g3 g4 hk => ?_⟩
      · obtain ⟨k, rfl⟩ : ∃ n, k = n + 1 := ⟨k - 1, by omega⟩
        simp only [impl_SmoothSteps.l0, spec_SmoothSteps.l0]
        simp only [hn, if_true]
        rw [impl_moved v s c d e w ⟨h0, h1⟩ hw hs, spec_moved v s w ⟨h0, h1⟩ hw hs k (by omega)]
        simp [h]
      · obtain ⟨k, rfl⟩ : ∃ n, k = n + 1 + 1 := ⟨k - 2, by omega⟩
        obtain ⟨d', e', es, b1, b2, b3, b4⟩ := step_on v s c d e w (by omega) hw
        simp only [laws_FnSmoothRests.l0]
        rw [if_pos (by omega), es]
        simp only [Option.bind_some]
        rw [w64 (z := n + 1) (by omega), if_neg (show ¬ n + 1 ≤ n by omega)]
        simp [h]
    · obtain ⟨N, c1, c2, c3, c4⟩ := ih (mov v s w) (n + 1) hb.1 hb.2 (by omega) (by omega) (by omega)
      refine ⟨N, by omega, by omega, fun k d e hk => ?_, fun hN k d e g1 g2 g3 g4 hk => ?_⟩
      · obtain ⟨k, rfl⟩ : ∃ n, k = n + 1 := ⟨k - 1, by omega⟩
        obtain ⟨r1, r2⟩ := c3 k d e (by omega)
        simp only [impl_SmoothSteps.l0, spec_SmoothSteps.l0]
        simp only [hn, if_true]
        rw [impl_moved v s c d e w ⟨h0, h1⟩ hw hs, spec_moved v s w ⟨h0, h1⟩ hw hs k (by omega), w64 (z := n + 1) (by omega)]
        simp only [Option.bind_some]
        rw [r1, r2]
        simp [h]
      · obtain ⟨k, rfl⟩ : ∃ n, k = n + 1 := ⟨k - 1, by omega⟩
        obtain ⟨d', e', es, b1, b2, b3, b4⟩ := step_on v s c d e w (by omega) hw
        simp only [laws_FnSmoothRests.l0]
        rw [if_pos (by omega), es]
        simp only [Option.bind_some]
        rw [w64 (z := n + 1) (by omega), c4 hN k d' e' (by omega) b4 b1 b2 (by omega)]
        have h5 : (n == N) = false := beq_eq_false_iff_ne.mpr (by omega)
        have h6 : (mov v s w == v) = false := beq_eq_false_iff_ne.mpr h
        simp only [h5, h6]
        rfl
theorem steps_off (a b c d e w : Int) (k : Nat) (h : ¬ ((0 ≤ a ∧ a ≤ 288230376151711744 ∧ 0 ≤ b ∧ b ≤ 16 ∧ 0 ≤ c ∧ c ≤ 1000 ∧ 0 ≤ e ∧ e ≤ c ∧ 0 ≤ d ∧ d ≤ 1125899906842624) ∧ 0 ≤ w ∧ w ≤ 1125899906842624)) : impl_SmoothSteps.f (k + 1) a b c d e w = some 0 := by
  unfold impl_SmoothSteps.f
  rw [impl_right]
  simp only [Option.bind_some, impl_want]
  by_cases h1 : 0 ≤ a ∧ a ≤ 288230376151711744 ∧ 0 ≤ b ∧ b ≤ 16 ∧ 0 ≤ c ∧ c ≤ 1000 ∧ 0 ≤ e ∧ e ≤ c ∧ 0 ≤ d ∧ d ≤ 1125899906842624
  · have h2 : ¬ (0 ≤ w ∧ w ≤ 1125899906842624) := fun h2 => h ⟨h1, h2⟩
    rw [if_pos (decide_eq_true h1), decide_eq_false h2]
    simp [impl_SmoothSteps.j0]
  · rw [if_neg (by simpa using h1)]
    simp [impl_SmoothSteps.j0]
end SmoR
open SmoR
theorem FnSmoothRests : laws_FnSmoothRests.Pure := by
  intro l _ hl _
  refine ⟨1000100, ?_⟩
  unfold laws_FnSmoothRests.f
  by_cases hs : (l.length : Int) > 1048576
  · rw [if_pos hs]
  · rw [if_neg hs]
    obtain ⟨a, b, c, d, e, w, ed⟩ := draw_ok l 1000099 (by omega)
    rw [ed]
    simp only [Option.bind_some, spec_right]
    have off : ¬ ((0 ≤ a ∧ a ≤ 288230376151711744 ∧ 0 ≤ b ∧ b ≤ 16 ∧ 0 ≤ c ∧ c ≤ 1000 ∧ 0 ≤ e ∧ e ≤ c ∧ 0 ≤ d ∧ d ≤ 1125899906842624) ∧ 0 ≤ w ∧ w ≤ 1125899906842624) → laws_FnSmoothRests.j0 (1000098 + 1 + 1) w true a b c d e = some true := by
      intro h
      simp only [laws_FnSmoothRests.j0, if_true]
      rw [steps_off a b c d e w 1000098 h]
      simp
    by_cases h : 0 ≤ a ∧ a ≤ 288230376151711744 ∧ 0 ≤ b ∧ b ≤ 16 ∧ 0 ≤ c ∧ c ≤ 1000 ∧ 0 ≤ e ∧ e ≤ c ∧ 0 ≤ d ∧ d ≤ 1125899906842624
    · rw [if_pos (decide_eq_true h)]
      by_cases h1 : w < 0
      · rw [if_pos h1]
        exact off (by omega)
      · rw [if_neg h1]
        by_cases h2 : w > 1125899906842624
        · rw [decide_eq_true h2]
          exact off (by omega)
        · rw [decide_eq_false h2]
          have hw : 0 ≤ w ∧ w ≤ 1125899906842624 := by omega
          obtain ⟨N, n1, n2, n3, n4⟩ := loops b c w a b c d e (by omega) hw (by omega) 1000000 a 0 (by omega) (by omega) (by omega) (by omega) (by omega)
          have i1 : ∀ k : Nat, 1000025 < k → impl_SmoothSteps.f k a b c d e w = some N ∧ spec_SmoothSteps.f k a b c d e w = some N := by
            intro k hk
            obtain ⟨k, rfl⟩ : ∃ n, k = n + 1 := ⟨k - 1, by omega⟩
            obtain ⟨r1, r2⟩ := n3 k d e (by omega)
            unfold impl_SmoothSteps.f spec_SmoothSteps.f
            rw [impl_right, spec_right]
            simp only [Option.bind_some, impl_want, spec_want]
            rw [if_pos (decide_eq_true h), if_pos (decide_eq_true h), decide_eq_true hw]
            simp only [impl_SmoothSteps.j0, spec_SmoothSteps.j0, Bool.not_true, Bool.false_eq_true, if_false]
            exact ⟨r1, r2⟩
          simp only [laws_FnSmoothRests.j0, Bool.false_eq_true, if_false]
          rw [(i1 1000099 (by omega)).1]
          simp only [Option.bind_some]
          rw [if_neg (by omega)]
          simp only [laws_FnSmoothRests.j1]
          by_cases h3 : N > 3000
          · rw [decide_eq_true h3, if_pos rfl, (i1 1000098 (by omega)).2]
            simp
          · rw [decide_eq_false h3]
            simp only [Bool.false_eq_true, if_false]
            exact n4 (by omega) _ d e (by omega) (by omega) (by omega) (by omega) (by omega)
    · rw [if_neg (by simpa using h)]
      exact off (fun h2 => h h2.1)
end Go.Proofs.Ytppbocpmahhciaa.Pure
