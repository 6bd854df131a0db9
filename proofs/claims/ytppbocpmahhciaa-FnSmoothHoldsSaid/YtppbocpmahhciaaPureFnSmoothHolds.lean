/- FnSmoothHolds: a drawn list's smooth wants are as many, each the reference's, none below its want. For every code. -/
import Derived.Test.YtppbocpmahhciaaPFnSmoothHoldsx5
set_option linter.unusedVariables false
set_option linter.unusedSimpArgs false
namespace Go.Proofs.Ytppbocpmahhciaa.Pure
open Go.RowKit Go.Proofs.Ytppbocpmahhciaa.PFnSmoothHolds Go.Proofs.YtppbocpmahhciaaW.PrintWords Go.Proofs.YtppbocpmahhciaaW.PrintLast Go.Proofs.YtppbocpmahhciaaW.PrintMore
namespace SmoH
theorem w64d {z : Int} (h : -9223372036854775808 ≤ z ∧ z ≤ 9223372036854775807) : wrap64 z = z := by unfold wrap64; omega
theorem u64d {z : Int} (h : 0 ≤ z ∧ z ≤ 18446744073709551615) : IntKind.u64.wrap z = z := by
  have := IntKind.wrap_u64 z
  rw [this]
  omega
theorem u64_bd (z : Int) : 0 ≤ IntKind.u64.wrap z ∧ IntKind.u64.wrap z ≤ 18446744073709551615 := by
  rw [IntKind.wrap_u64 z]
  omega
theorem draw_bd (v m most : Int) (h1 : 1 < most) (h2 : most ≤ 9223372036854775807) : 0 ≤ spec_l01Src_n.draw v m most ∧ spec_l01Src_n.draw v m most < most := by
  unfold spec_l01Src_n.draw
  rw [u64d (z := most) (by omega)]
  have hb := u64_bd (v + m / 1048576)
  generalize IntKind.u64.wrap (v + m / 1048576) = x at hb
  rw [Int.tmod_eq_emod_of_nonneg hb.1]
  have b1 := Int.emod_nonneg x (show most ≠ 0 by omega)
  have b2 := Int.emod_lt_of_pos x (show 0 < most by omega)
  rw [w64d (by omega)]
  omega
/-- a draw tells some number below most, whatever the state -/
theorem n_ok (l : List Int) (p m z most : Int) (hl : l.length ≤ 140737488351232) (hp : 0 ≤ p ∧ p ≤ l.length) (hm : most ≤ 9223372036854775807) :
    ∃ r p' m', spec_l01Src_n.f l p m z most = some (r, p', m', z) ∧ (0 ≤ p' ∧ p' ≤ l.length) ∧ 0 ≤ r ∧ (1 < most → r < most) ∧ (most ≤ 1 → r = 0) := by
  unfold spec_l01Src_n.f
  by_cases h1 : most ≤ 1
  · rw [if_pos h1]
    exact ⟨_, _, _, rfl, hp, Int.le_refl _, fun h => by omega, fun _ => rfl⟩
  · rw [if_neg h1, if_neg (by rw [u64d (by omega)]; omega)]
    by_cases h2 : p < (l.length : Int)
    · rw [if_pos h2, if_pos hp.1, w64d (z := p + 1) (by omega)]
      have := draw_bd (IntKind.u64.wrap (rd l p)) (spec_l01Src_n.mix m) most (by omega) hm
      exact ⟨_, _, _, rfl, by omega, this.1, fun _ => this.2, fun h => absurd h h1⟩
    · rw [if_neg h2]
      have := draw_bd 0 (spec_l01Src_n.mix m) most (by omega) hm
      exact ⟨_, _, _, rfl, hp, this.1, fun _ => this.2, fun h => absurd h h1⟩
theorem one_ok (l : List Int) (p m z most : Int) (hl : l.length ≤ 140737488351232) (hp : 0 ≤ p ∧ p ≤ l.length) (hm : most ≤ 9223372036854775807) :
    ∃ (b : Bool) (p' m' : Int), spec_l01Src_one.f l p m z most = some (b, p', m', z) ∧ (0 ≤ p' ∧ p' ≤ l.length) := by
  obtain ⟨r, p', m', e, h, _⟩ := n_ok l p m z most hl hp hm
  unfold spec_l01Src_one.f
  rw [e]
  exact ⟨_, _, _, rfl, h⟩
theorem edge_ok (l : List Int) (p m z : Int) (hl : l.length ≤ 140737488351232) (hp : 0 ≤ p ∧ p ≤ l.length) :
    ∃ r p' m', spec_l01Src_edge.f l p m z = some (r, p', m', z) ∧ (0 ≤ p' ∧ p' ≤ l.length) := by
  obtain ⟨r, p', m', e, h, h0, h1, _⟩ := n_ok l p m z 14 hl hp (by omega)
  unfold spec_l01Src_edge.f
  simp only [Option.bind_some]
  rw [e]
  simp only [Option.bind_some]
  rw [if_pos h0, if_pos (by have := h1 (by omega); simp; omega)]
  exact ⟨_, _, _, rfl, h⟩
theorem src_ok (l : List Int) : ∃ m z, spec_l01Source.f l = some (l, 0, m, z) := ⟨_, _, rfl⟩
theorem wantOf_ok (l : List Int) (p m z : Int) (hl : l.length ≤ 140737488351232) (hp : 0 ≤ p ∧ p ≤ l.length) :
    ∃ r p' m', spec_l01Src_l02WantOf.f l p m z = some (r, p', m', z) ∧ (0 ≤ p' ∧ p' ≤ l.length) := by
  obtain ⟨r, p', m', e, h, _⟩ := n_ok l p m z 12 hl hp (by omega)
  unfold spec_l01Src_l02WantOf.f
  rw [e]
  simp only [Option.bind_some]
  split
  · exact ⟨_, _, _, rfl, h⟩
  · split
    · obtain ⟨r, p2, m2, e, h, _⟩ := n_ok l p' m' z 1125899906842624 hl h (by omega)
      rw [e]
      exact ⟨_, _, _, rfl, h⟩
    · split
      · exact ⟨_, _, _, rfl, h⟩
      · obtain ⟨r, p2, m2, e, h, _⟩ := n_ok l p' m' z 60 hl h (by omega)
        rw [e]
        exact ⟨_, _, _, rfl, h⟩
theorem smooth_j0 (l : List Int) (p m z a b c d e : Int) (k : Nat) (hl : l.length ≤ 140737488351232) (hp : 0 ≤ p ∧ p ≤ l.length) :
    ∃ a' b' c' d' e' p' m', spec_l01Src_l17Smooth.j0 (k + 1) l p m z a b c d e = some (a', b', c', d', e', p', m', z) ∧ (0 ≤ p' ∧ p' ≤ l.length) := by
  simp only [spec_l01Src_l17Smooth.j0]
  obtain ⟨q, p1, m1, e1, h1⟩ := one_ok l p m z 12 hl hp (by omega)
  rw [e1]
  simp only [Option.bind_some]
  cases q
  · exact ⟨_, _, _, _, _, _, _, rfl, h1⟩
  · rw [if_pos rfl]
    obtain ⟨r, p2, m2, e2, h2, _⟩ := n_ok l p1 m1 z 5 hl h1 (by omega)
    rw [e2]
    simp only [Option.bind_some]
    split
    · obtain ⟨r, p3, m3, e3, h3, h0, h4, _⟩ := n_ok l p2 m2 z 3 hl h2 (by omega)
      rw [e3]
      simp only [Option.bind_some]
      rw [if_pos h0, if_pos (by have := h4 (by omega); simp; omega)]
      exact ⟨_, _, _, _, _, _, _, rfl, h3⟩
    · split
      · obtain ⟨r, p3, m3, e3, h3, _⟩ := n_ok l p2 m2 z 2 hl h2 (by omega)
        rw [e3]
        exact ⟨_, _, _, _, _, _, _, rfl, h3⟩
      · split
        · exact ⟨_, _, _, _, _, _, _, rfl, h2⟩
        · split
          · obtain ⟨r, p3, m3, e3, h3, h0, h4, _⟩ := n_ok l p2 m2 z 3 hl h2 (by omega)
            rw [e3]
            simp only [Option.bind_some]
            rw [if_pos h0, if_pos (by have := h4 (by omega); simp; omega)]
            exact ⟨_, _, _, _, _, _, _, rfl, h3⟩
          · obtain ⟨r, p3, m3, e3, h3⟩ := edge_ok l p2 m2 z hl h2
            rw [e3]
            exact ⟨_, _, _, _, _, _, _, rfl, h3⟩
theorem smooth_ok (l : List Int) (p m z : Int) (k : Nat) (hl : l.length ≤ 140737488351232) (hp : 0 ≤ p ∧ p ≤ l.length) :
    ∃ a' b' c' d' e' p' m', spec_l01Src_l17Smooth.f (k + 1) l p m z = some (a', b', c', d', e', p', m', z) ∧ (0 ≤ p' ∧ p' ≤ l.length) := by
  unfold spec_l01Src_l17Smooth.f
  obtain ⟨r1, p1, m1, e1, h1, _⟩ := n_ok l p m z 20000 hl hp (by omega)
  rw [e1]; simp only [Option.bind_some]
  obtain ⟨r2, p2, m2, e2, h2, _⟩ := n_ok l p1 m1 z 6 hl h1 (by omega)
  rw [e2]; simp only [Option.bind_some]
  obtain ⟨r3, p3, m3, e3, h3, b1, b2, _⟩ := n_ok l p2 m2 z 5 hl h2 (by omega)
  rw [e3]; simp only [Option.bind_some]
  obtain ⟨r4, p4, m4, e4, h4, _⟩ := n_ok l p3 m3 z 60 hl h3 (by omega)
  rw [e4]; simp only [Option.bind_some]
  have b3 := b2 (by omega)
  obtain ⟨r5, p5, m5, e5, h5, _⟩ := n_ok l p4 m4 z (wrap64 (r3 + 1)) hl h4 (by rw [w64d (by omega)]; omega)
  rw [e5]; simp only [Option.bind_some]
  obtain ⟨q, p6, m6, e6, h6⟩ := one_ok l p5 m5 z 10 hl h5 (by omega)
  rw [e6]; simp only [Option.bind_some]
  cases q
  · exact smooth_j0 l p6 m6 z _ _ _ _ _ k hl h6
  · rw [if_pos rfl]
    obtain ⟨r7, p7, m7, e7, h7⟩ := wantOf_ok l p6 m6 z hl h6
    rw [e7]; simp only [Option.bind_some]
    exact smooth_j0 l p7 m7 z _ _ _ _ _ k hl h7
theorem in_eq (n l h : Int) : impl_in.f n l h = some (decide (l ≤ n ∧ n ≤ h)) := by
  unfold impl_in.f
  by_cases h1 : l ≤ n <;> simp [h1]
theorem ite_some_bool (p q : Bool) : (if p = true then some q else some false) = some (p && q) := by cases p <;> simp
theorem spec_right (a b c d e : Int) : spec_SmoothRight.f a b c d e = some (decide (0 ≤ a ∧ a ≤ 288230376151711744 ∧ 0 ≤ b ∧ b ≤ 16 ∧ 0 ≤ c ∧ c ≤ 1000 ∧ 0 ≤ e ∧ e ≤ c ∧ 0 ≤ d ∧ d ≤ 1125899906842624)) := by
  unfold spec_SmoothRight.f spec_l02Want.f
  repeat' split
  all_goals simp_all
  all_goals omega
theorem impl_right (a b c d e : Int) : impl_SmoothRight.f a b c d e = some (decide (0 ≤ a ∧ a ≤ 288230376151711744 ∧ 0 ≤ b ∧ b ≤ 16 ∧ 0 ≤ c ∧ c ≤ 1000 ∧ 0 ≤ e ∧ e ≤ c ∧ 0 ≤ d ∧ d ≤ 1125899906842624)) := by
  unfold impl_SmoothRight.f impl_isWant.f
  simp only [in_eq, Option.bind_some, ite_some_bool, Bool.decide_and, Bool.and_assoc]
theorem spec_want (a : Int) : spec_l02Want.f a = some (decide (0 ≤ a ∧ a ≤ 1125899906842624)) := by
  unfold spec_l02Want.f
  by_cases h1 : 0 ≤ a <;> simp [h1]
theorem impl_want (a : Int) : impl_isWant.f a = some (decide (0 ≤ a ∧ a ≤ 1125899906842624)) := by
  unfold impl_isWant.f
  simp only [in_eq, Option.bind_some]

/-- where a step moves a value -/
def mov (v s w : Int) : Int := v + (256 * w - v) / 2 ^ s.toNat

theorem w64 {z : Int} (h : -9223372036854775808 ≤ z ∧ z ≤ 9223372036854775807) : wrap64 z = z := by unfold wrap64; omega

theorem div_bd (d : Int) (n : Nat) : (0 ≤ d → 0 ≤ d / 2 ^ n ∧ d / 2 ^ n ≤ d) ∧ (d < 0 → d ≤ d / 2 ^ n ∧ d / 2 ^ n < 0) := by
  have hp : (0 : Int) < 2 ^ n := Int.pow_pos (by omega)
  constructor
  · intro h
    exact ⟨Int.ediv_nonneg h (by omega), Int.ediv_le_self _ h⟩
  · intro h
    refine ⟨?_, Int.ediv_neg_of_neg_of_pos h hp⟩
    rw [Int.le_ediv_iff_mul_le hp]
    have : d * 2 ^ n ≤ d * 1 := Int.mul_le_mul_of_nonpos_left (by omega) (by omega)
    omega

theorem mov_bd {v s w : Int} (hv : 0 ≤ v ∧ v ≤ 288230376151711744) (hw : 0 ≤ w ∧ w ≤ 1125899906842624) : 0 ≤ mov v s w ∧ mov v s w ≤ 288230376151711744 := by
  unfold mov
  obtain ⟨h1, h2⟩ := div_bd (256 * w - v) s.toNat
  by_cases h : 0 ≤ 256 * w - v
  · have := h1 h; omega
  · have := h2 (by omega); omega

theorem impl_moved (v s c d e w : Int) (hv : 0 ≤ v ∧ v ≤ 288230376151711744) (hw : 0 ≤ w ∧ w ≤ 1125899906842624) (hs : 0 ≤ s ∧ s ≤ 16) : impl_Smooth_moved.f v s c d e w = some (mov v s w) := by
  unfold impl_Smooth_moved.f
  rw [if_pos hs.1]
  have h0 : shr .i64 (wrap64 ((wrap64 (256 * w)) - v)) s = (256 * w - v) / 2 ^ s.toNat := by
    rw [w64 (z := 256 * w) (by omega), w64 (by omega)]
    unfold shr
    rw [Nat.min_eq_left]
    show s.toNat ≤ 64
    omega
  rw [h0]
  have := mov_bd (s := s) hv hw
  unfold mov at this ⊢
  rw [w64 (by omega)]
theorem tdiv_floor (d u : Int) (hu : 0 < u) : (d.tmod u < 0 → d.tdiv u - 1 = d / u) ∧ (¬ d.tmod u < 0 → d.tdiv u = d / u) := by
  rw [Int.tmod_eq_emod, Int.tdiv_eq_ediv, Int.sign_eq_one_of_pos hu]
  have b1 := Int.emod_nonneg d (show u ≠ 0 by omega)
  have b2 := Int.emod_lt_of_pos d hu
  have b3 : (u.natAbs : Int) = u := by omega
  split <;> constructor <;> intro h <;> omega

theorem moved_l0 (v s d : Int) (hs : 0 ≤ s ∧ s ≤ 16) (hd : -288230376151711744 ≤ d ∧ d ≤ 288230376151711744) (hv : 0 ≤ v ∧ v ≤ 288230376151711744) (hm : 0 ≤ v + d / 2 ^ s.toNat ∧ v + d / 2 ^ s.toNat ≤ 288230376151711744) (m : Nat) :
    ∀ (k : Nat) (i : Int), 0 ≤ i → i ≤ s → s - i = m → m < k → spec_l17Moved.l0 k v s d (2 ^ i.toNat) i = some (v + d / 2 ^ s.toNat) := by
  induction m with
  | zero =>
    intro k i h0 h1 hi hk
    obtain ⟨k, rfl⟩ : ∃ n, k = n + 1 := ⟨k - 1, by omega⟩
    obtain rfl : i = s := by omega
    have hp : (0 : Int) < 2 ^ i.toNat := Int.pow_pos (by omega)
    obtain ⟨t1, t2⟩ := tdiv_floor d (2 ^ i.toNat) hp
    obtain ⟨b1, b2⟩ := div_bd d i.toNat
    have b3 : -288230376151711744 ≤ d / 2 ^ i.toNat ∧ d / 2 ^ i.toNat ≤ 288230376151711744 := by
      by_cases h : 0 ≤ d
      · have := b1 h; omega
      · have := b2 (by omega); omega
    simp only [spec_l17Moved.l0]
    rw [if_neg (by omega), if_neg (by omega)]
    by_cases h : d.tmod (2 ^ i.toNat) < 0
    · have e := t1 h
      rw [if_pos h, w64 (z := d.tdiv _) (by omega), e, w64 (z := d / _) (by omega), w64 (by omega)]
    · have e := t2 h
      rw [if_neg h, e, w64 (z := d / _) (by omega), w64 (by omega)]
  | succ m ih =>
    intro k i h0 h1 hi hk
    obtain ⟨k, rfl⟩ : ∃ n, k = n + 1 := ⟨k - 1, by omega⟩
    have hlt : i < s := by omega
    simp only [spec_l17Moved.l0]
    rw [if_pos hlt]
    have e1 : (i + 1).toNat = i.toNat + 1 := by omega
    have e2 : wrap64 (2 * 2 ^ i.toNat) = 2 ^ (i + 1).toNat := by
      rw [e1, Int.pow_succ, Int.mul_comm]
      apply w64
      have hp : (0 : Int) < 2 ^ i.toNat := Int.pow_pos (by omega)
      have hq : (2 : Int) ^ i.toNat ≤ 2 ^ 16 := by exact_mod_cast Nat.pow_le_pow_right (show 0 < 2 by omega) (show i.toNat ≤ 16 by omega)
      omega
    rw [e2, w64 (z := i + 1) (by omega)]
    exact ih k (i + 1) (by omega) (by omega) (by omega) (by omega)

theorem spec_moved (v s w : Int) (hv : 0 ≤ v ∧ v ≤ 288230376151711744) (hw : 0 ≤ w ∧ w ≤ 1125899906842624) (hs : 0 ≤ s ∧ s ≤ 16) (k : Nat) (hk : 17 ≤ k) : spec_l17Moved.f k v s w = some (mov v s w) := by
  unfold spec_l17Moved.f
  rw [w64 (z := 256 * w) (by omega), w64 (by omega)]
  have := moved_l0 v s (256 * w - v) hs (by omega) hv (mov_bd hv hw) s.toNat k 0 (by omega) (by omega) (by omega) (by omega)
  exact this
def rightB (a b c d e : Int) : Prop := 0 ≤ a ∧ a ≤ 288230376151711744 ∧ 0 ≤ b ∧ b ≤ 16 ∧ 0 ≤ c ∧ c ≤ 1000 ∧ 0 ≤ e ∧ e ≤ c ∧ 0 ≤ d ∧ d ≤ 1125899906842624
theorem step_same (a b c d e w : Int) (h : rightB a b c d e) (hw : 0 ≤ w ∧ w ≤ 1125899906842624) :
    ∃ d' e', impl_Smooth_step.f a b c d e w = some (mov a b w, b, c, d', e') ∧ (∀ k, 18 ≤ k → spec_SmoothStep.f k a b c d e w = some (mov a b w, b, c, d', e')) ∧ rightB (mov a b w) b c d' e' ∧ w ≤ d' := by
  unfold rightB at h ⊢
  have hm := mov_bd (s := b) (v := a) (w := w) (by omega) hw
  unfold impl_Smooth_step.f spec_SmoothStep.f
  rw [impl_moved a b c d e w (by omega) hw (by omega), spec_right, spec_want]
  simp only [Option.bind_some]
  by_cases h1 : w ≥ d
  · refine ⟨w, 0, by simp [h1], fun k hk => ?_, by omega, by omega⟩
    rw [if_pos (decide_eq_true h), if_pos (decide_eq_true hw), spec_moved a b w (by omega) hw (by omega) k (by omega)]
    simp [h1]
  · by_cases h2 : e = c
    · refine ⟨w, 0, by simp [h1, h2], fun k hk => ?_, by omega, by omega⟩
      rw [if_pos (decide_eq_true h), if_pos (decide_eq_true hw), spec_moved a b w (by omega) hw (by omega) k (by omega)]
      simp [h1, h2]
    · refine ⟨d, e + 1, by simp [h1, h2, w64 (z := e + 1) (by omega)], fun k hk => ?_, by omega, by omega⟩
      rw [if_pos (decide_eq_true h), if_pos (decide_eq_true hw), spec_moved a b w (by omega) hw (by omega) k (by omega)]
      simp [h1, h2, w64 (z := e + 1) (by omega)]
theorem max_eq (a b : Int) : spec_l01Max.f a b = some (mx a b) := by
  unfold spec_l01Max.f mx
  split <;> split <;> first | rfl | (congr 1; omega)
theorem want_same (a b c d e : Int) (h : rightB a b c d e) : ∃ v, impl_Smooth_want.f a b c d e = some v ∧ spec_SmoothWant.f a b c d e = some v ∧ d ≤ v := by
  unfold rightB at h
  refine ⟨_, rfl, ?_, ?_⟩
  · unfold spec_SmoothWant.f
    rw [spec_right]
    simp only [Option.bind_some]
    rw [if_pos (decide_eq_true h), max_eq]
    rfl
  · unfold mx
    split <;> omega
theorem all_l0 (l : List Int) (hl : l.length ≤ 400) (m : Nat) : ∀ (k i : Nat), i ≤ l.length → l.length - i = m → m < k → spec_l01All.l0 k l 0 1125899906842624 (i : Int) = some (!((l.drop i).any impl_SmoothRun.bad)) := by
  induction m with
  | zero =>
    intro k i h1 h2 hk
    obtain ⟨k, rfl⟩ : ∃ n, k = n + 1 := ⟨k - 1, by omega⟩
    simp only [spec_l01All.l0]
    rw [if_neg (by omega), List.drop_of_length_le (by omega)]
    rfl
  | succ m ih =>
    intro k i h1 h2 hk
    obtain ⟨k, rfl⟩ : ∃ n, k = n + 1 := ⟨k - 1, by omega⟩
    have hlt : i < l.length := by omega
    simp only [spec_l01All.l0]
    rw [if_pos (by omega), if_pos (by omega), w64 (z := (i : Int) + 1) (by omega)]
    have := ih k (i + 1) (by omega) (by omega) (by omega)
    rw [show ((i : Int) + 1) = ((i + 1 : Nat) : Int) by omega, this]
    have hd : l.drop i = rd l i :: l.drop (i + 1) := by
      rw [List.drop_eq_getElem_cons hlt]
      simp [rd, List.getD_eq_getElem?_getD, hlt]
    rw [hd, List.any_cons]
    generalize rd l i = x
    unfold impl_SmoothRun.bad
    by_cases c1 : x < 0
    · have h3 : ¬ (0 ≤ x ∧ x ≤ 1125899906842624) := by omega
      rw [if_pos c1, decide_eq_false h3]
      rfl
    · rw [if_neg c1]
      by_cases c2 : x > 1125899906842624
      · have h3 : ¬ (0 ≤ x ∧ x ≤ 1125899906842624) := by omega
        rw [if_pos c2, decide_eq_false h3]
        rfl
      · have h3 : 0 ≤ x ∧ x ≤ 1125899906842624 := by omega
        rw [if_neg c2, decide_eq_true h3]
        rfl
theorem run_l0 (l : List Int) (hl : l.length ≤ 400) (hg : l.any impl_SmoothRun.bad = false) (m : Nat) : ∀ (i : Nat) (out : List Int) (a b c d e : Int), i ≤ l.length → l.length - i = m → out.length = i → rightB a b c d e →
    ∃ r, impl_SmoothRun.l (l.drop i) a b c d e out = some r ∧ (∀ k, m + 30 < k → spec_SmoothRun.l0 k l out (i : Int) a b c d e = some r) ∧ r.length = l.length ∧ out.IsPrefix r ∧ (∀ j, i ≤ j → j < l.length → ∃ v, r[j]? = some v ∧ rd l j ≤ v) := by
  induction m with
  | zero =>
    intro i out a b c d e h1 h2 ho hr
    refine ⟨out, ?_, fun k hk => ?_, by omega, List.prefix_refl _, fun j hj hj2 => by omega⟩
    · rw [List.drop_of_length_le (by omega)]
      rfl
    · obtain ⟨k, rfl⟩ : ∃ n, k = n + 1 := ⟨k - 1, by omega⟩
      simp only [spec_SmoothRun.l0]
      rw [if_neg (by omega)]
  | succ m ih =>
    intro i out a b c d e h1 h2 ho hr
    have hlt : i < l.length := by omega
    have hd : l.drop i = rd l i :: l.drop (i + 1) := by
      rw [List.drop_eq_getElem_cons hlt]
      simp [rd, List.getD_eq_getElem?_getD, hlt]
    have hx : 0 ≤ rd l i ∧ rd l i ≤ 1125899906842624 := by
      have hmem : rd l i ∈ l := by
        have : rd l i = l[i] := by simp [rd, List.getD_eq_getElem?_getD, hlt]
        rw [this]
        exact List.getElem_mem hlt
      have := (List.any_eq_false.1 hg) _ hmem
      unfold impl_SmoothRun.bad at this
      simpa using this
    obtain ⟨d', e', s1, s2, s3, s4⟩ := step_same a b c d e (rd l i) hr hx
    obtain ⟨v, v1, v2, v3⟩ := want_same _ _ _ _ _ s3
    obtain ⟨r, r1, r2, r3, r4, r5⟩ := ih (i + 1) (out ++ [v]) _ _ _ _ _ (by omega) (by omega) (by simp [ho]) s3
    refine ⟨r, ?_, fun k hk => ?_, r3, (List.prefix_append _ _).trans r4, fun j hj hj2 => ?_⟩
    · rw [hd]
      simp only [impl_SmoothRun.l]
      rw [s1]
      simp only [Option.bind_some]
      rw [v1]
      exact r1
    · obtain ⟨k, rfl⟩ : ∃ n, k = n + 1 := ⟨k - 1, by omega⟩
      simp only [spec_SmoothRun.l0]
      rw [if_pos (by omega), if_pos (by omega), s2 k (by omega)]
      simp only [Option.bind_some]
      rw [v2]
      simp only [Option.bind_some]
      rw [if_pos (by omega), w64 (z := (i : Int) + 1) (by omega), show ((i : Int) + 1) = ((i + 1 : Nat) : Int) by omega]
      exact r2 k (by omega)
    · by_cases hji : j = i
      · subst hji
        refine ⟨v, ?_, by omega⟩
        obtain ⟨t, ht⟩ := r4
        rw [← ht, List.getElem?_append_left (by simp [ho]), List.getElem?_append_right (by omega)]
        simp [ho]
      · exact r5 j (by omega) hj2
/-- both runs tell the same list; where there is one, it is as long as what came in, and nothing in it is below its want -/
theorem run_same (a b c d e : Int) (l : List Int) : ∃ r, impl_SmoothRun.f a b c d e l = some r ∧ (∀ k, 500 < k → spec_SmoothRun.f k a b c d e l = some r) ∧ r.length ≤ 400 ∧ (r.length ≤ l.length) ∧ ∀ (j : Nat) (v : Int), r[j]? = some v → rd l (j : Int) ≤ v := by
  unfold impl_SmoothRun.f spec_SmoothRun.f
  rw [impl_right, spec_right]
  simp only [Option.bind_some]
  by_cases h : rightB a b c d e
  · have h' := h
    unfold rightB at h'
    rw [if_pos (decide_eq_true h'), decide_eq_true h']
    by_cases hl : l.length ≤ 400
    · rw [if_pos hl]
      cases hg : l.any impl_SmoothRun.bad with
      | true =>
        refine ⟨[], by simp, fun k hk => ?_, by simp, by simp, by simp⟩
        obtain ⟨k, rfl⟩ : ∃ n, k = n + 1 := ⟨k - 1, by omega⟩
        have h3 := all_l0 l hl l.length (k + 1) 0 (by omega) (by omega) (by omega)
        rw [if_neg (by omega), if_pos rfl]
        unfold spec_l01All.f
        rw [Int.natCast_zero] at h3
        rw [h3, List.drop_zero, hg]
        simp [spec_SmoothRun.j0]
      | false =>
        obtain ⟨r, r1, r2, r3, r4, r5⟩ := run_l0 l hl hg l.length 0 [] a b c d e (by omega) (by omega) rfl h
        rw [List.drop_zero] at r1
        refine ⟨r, by rw [if_neg Bool.false_ne_true, r1], fun k hk => ?_, by omega, by omega, fun j v hj => ?_⟩
        · obtain ⟨k, rfl⟩ : ∃ n, k = n + 1 := ⟨k - 1, by omega⟩
          have h3 := all_l0 l hl l.length (k + 1) 0 (by omega) (by omega) (by omega)
          rw [if_neg (by omega), if_pos rfl]
          unfold spec_l01All.f
          rw [Int.natCast_zero] at h3
          rw [h3, List.drop_zero, hg]
          simp only [Bool.not_false, Option.bind_some, Bool.not_true, spec_SmoothRun.j0, Bool.false_eq_true, if_false]
          exact r2 k (by omega)
        · have hj2 : j < l.length := by have := (List.getElem?_eq_some_iff.1 hj).1; omega
          obtain ⟨v', e1, e2⟩ := r5 j (by omega) hj2
          rw [hj] at e1
          have := Option.some.inj e1
          omega
    · rw [if_neg hl]
      refine ⟨[], rfl, fun k hk => ?_, by simp, by simp, by simp⟩
      obtain ⟨k, rfl⟩ : ∃ n, k = n + 1 := ⟨k - 1, by omega⟩
      rw [if_pos (by omega)]
      simp [spec_SmoothRun.j0]
  · have h' := h
    unfold rightB at h'
    rw [if_neg (by simpa using h'), decide_eq_false h']
    refine ⟨[], rfl, fun k hk => ?_, by simp, by simp, by simp⟩
    obtain ⟨k, rfl⟩ : ∃ n, k = n + 1 := ⟨k - 1, by omega⟩
    simp [spec_SmoothRun.j0]
theorem size_ok (l : List Int) : ∃ m z, spec_l01Source.f l = some (l, 0, m, z) ∧ -9223372036854775808 ≤ z ∧ z ≤ 12 := by
  refine ⟨_, _, rfl, ?_⟩
  have : -9223372036854775808 ≤ wrap64 ((l.length : Int) / 20) := by unfold wrap64; omega
  split <;> omega
theorem between_ok (l : List Int) (p m z : Int) (hl : l.length ≤ 140737488351232) (hp : 0 ≤ p ∧ p ≤ l.length) :
    ∃ r p' m', spec_l01Src_between.f l p m z 0 60 = some (r, p', m', z) ∧ (0 ≤ p' ∧ p' ≤ l.length) := by
  obtain ⟨r, p', m', e, h, _⟩ := n_ok l p m z (wrap64 ((wrap64 (60 - 0)) + 1)) hl hp (by unfold wrap64; omega)
  unfold spec_l01Src_between.f
  rw [e]
  exact ⟨_, _, _, rfl, h⟩
theorem list_ok (l : List Int) (z : Int) (hl : l.length ≤ 140737488351232) (n : Nat) : ∀ (out : List Int) (p m : Int) (k : Nat), n < k → out.length + n ≤ 1000 → (0 ≤ p ∧ p ≤ l.length) →
    ∃ r p' m', spec_l01Src_list.l0 k (n : Int) 0 60 out l p m z = some (r, p', m', z) ∧ (0 ≤ p' ∧ p' ≤ l.length) ∧ r.length = out.length + n := by
  induction n with
  | zero =>
    intro out p m k hk hn hp
    obtain ⟨k, rfl⟩ : ∃ n, k = n + 1 := ⟨k - 1, by omega⟩
    simp only [spec_l01Src_list.l0]
    rw [if_neg (by omega)]
    exact ⟨_, _, _, rfl, hp, rfl⟩
  | succ n ih =>
    intro out p m k hk hn hp
    obtain ⟨k, rfl⟩ : ∃ n, k = n + 1 := ⟨k - 1, by omega⟩
    simp only [spec_l01Src_list.l0]
    rw [if_pos (by omega)]
    obtain ⟨r, p', m', e, h⟩ := between_ok l p m z hl hp
    rw [e]; simp only [Option.bind_some]
    rw [if_pos (by omega), w64d (z := (((n + 1 : Nat) : Int) - 1)) (by omega), show (((n + 1 : Nat) : Int) - 1) = (n : Int) by omega]
    obtain ⟨r, p2, m2, e2, h2, h3⟩ := ih (out ++ [r]) p' m' k (by omega) (by simp; omega) h
    rw [e2]
    exact ⟨_, _, _, rfl, h2, by rw [h3]; simp; omega⟩
theorem draw_j0 (l : List Int) (p m z a b c d e n : Int) (k : Nat) (hl : l.length ≤ 140737488351232) (hp : 0 ≤ p ∧ p ≤ l.length) (hn : 0 ≤ n ∧ n ≤ 401) (hk : 500 < k) :
    ∃ x : List Int, spec_DrawSmoothRun.j0 k n l p m z a b c d e = some (a, b, c, d, e, x) ∧ x.length ≤ 401 := by
  obtain ⟨k, rfl⟩ : ∃ n, k = n + 1 + 1 := ⟨k - 2, by omega⟩
  simp only [spec_DrawSmoothRun.j0]
  obtain ⟨x, p1, m1, e1, h1, hx⟩ := list_ok l z hl n.toNat [] p m (k + 1) (by omega) (by simp; omega) hp
  rw [show ((n.toNat : Nat) : Int) = n by omega] at e1
  have hx' : x.length = n.toNat := by simpa using hx
  unfold spec_l01Src_list.f
  rw [e1]; simp only [Option.bind_some]
  obtain ⟨q, p2, m2, e2, h2⟩ := one_ok l p1 m1 z 12 hl h1 (by omega)
  rw [e2]; simp only [Option.bind_some]
  cases q
  · simp only [Bool.false_eq_true, if_false, spec_DrawSmoothRun.j1]
    exact ⟨x, rfl, by omega⟩
  · rw [if_pos rfl]
    by_cases h0 : n > 0
    · rw [decide_eq_true h0]
      simp only [if_true, spec_DrawSmoothRun.j1]
      obtain ⟨r, p3, m3, e3, h3, b0, b1, b2⟩ := n_ok l p2 m2 z n hl h2 (by omega)
      rw [e3]; simp only [Option.bind_some]
      obtain ⟨v, p4, m4, e4, h4⟩ := edge_ok l p3 m3 z hl h3
      rw [e4]; simp only [Option.bind_some]
      have hr : r < (x.length : Int) := by
        by_cases h5 : 1 < n
        · have := b1 h5
          omega
        · have := b2 (by omega)
          omega
      rw [if_pos b0, if_pos hr]
      exact ⟨_, rfl, by rw [List.length_set]; omega⟩
    · rw [decide_eq_false h0]
      simp only [Bool.false_eq_true, if_false, spec_DrawSmoothRun.j1]
      exact ⟨x, rfl, by omega⟩
theorem draw_ok (l : List Int) (k : Nat) (hl : l.length ≤ 140737488351232) (hk : 600 < k) : ∃ a b c d e x, spec_DrawSmoothRun.f k l = some (a, b, c, d, e, x) ∧ x.length ≤ 401 := by
  obtain ⟨k, rfl⟩ : ∃ n, k = n + 1 := ⟨k - 1, by omega⟩
  unfold spec_DrawSmoothRun.f
  obtain ⟨m, z, e0, z1, z2⟩ := size_ok l
  rw [e0]; simp only [Option.bind_some]
  obtain ⟨a, b, c, d, e, p1, m1, e1, h1⟩ := smooth_ok l 0 m z k hl (by omega)
  rw [e1]; simp only [Option.bind_some]
  have hz : wrap64 (8 + z) = 8 + z := w64d (by omega)
  obtain ⟨n, p2, m2, e2, h2, n0, n1, n2⟩ := n_ok l p1 m1 z (wrap64 (8 + z)) hl h1 (by omega)
  rw [e2]; simp only [Option.bind_some]
  have hn : n ≤ 20 := by
    by_cases h5 : 1 < wrap64 (8 + z)
    · have := n1 h5
      omega
    · have := n2 (by omega)
      omega
  obtain ⟨q, p3, m3, e3, h3⟩ := one_ok l p2 m2 z 40 hl h2 (by omega)
  rw [e3]; simp only [Option.bind_some]
  cases q
  · simp only [Bool.false_eq_true, if_false]
    obtain ⟨x, ex, hx⟩ := draw_j0 l p3 m3 z a b c d e n (k + 1) hl h3 (by omega) (by omega)
    rw [ex]
    exact ⟨_, _, _, _, _, _, rfl, hx⟩
  · rw [if_pos rfl]
    obtain ⟨n', p4, m4, e4, h4, n3, n4, n5⟩ := n_ok l p3 m3 z 3 hl h3 (by omega)
    rw [e4]; simp only [Option.bind_some]
    have := n4 (by omega)
    rw [w64d (z := 399 + n') (by omega)]
    obtain ⟨x, ex, hx⟩ := draw_j0 l p4 m4 z a b c d e (399 + n') (k + 1) hl h4 (by omega) (by omega)
    rw [ex]
    exact ⟨_, _, _, _, _, _, rfl, hx⟩
theorem check_ok (l r : List Int) (hl : l.length ≤ 401) (hr : r.length ≤ l.length) (h : ∀ (j : Nat) (v : Int), r[j]? = some v → rd l (j : Int) ≤ v) (m : Nat) : ∀ (i k : Nat), i ≤ r.length → r.length - i = m → m < k → laws_FnSmoothHolds.l0 k l r r (i : Int) = some true := by
  induction m with
  | zero =>
    intro i k h1 h2 hk
    obtain ⟨k, rfl⟩ : ∃ n, k = n + 1 := ⟨k - 1, by omega⟩
    simp only [laws_FnSmoothHolds.l0]
    rw [if_neg (by omega)]
  | succ m ih =>
    intro i k h1 h2 hk
    obtain ⟨k, rfl⟩ : ∃ n, k = n + 1 := ⟨k - 1, by omega⟩
    simp only [laws_FnSmoothHolds.l0]
    have h3 := h i (rd r i) (by
      have h4 : i < r.length := by omega
      simp [rd, List.getD_eq_getElem?_getD, h4])
    rw [if_pos (by omega), if_pos (by omega), if_pos (by omega), if_neg (by omega), if_pos (by omega)]
    simp only [if_true]
    rw [w64d (z := (i : Int) + 1) (by omega), show ((i : Int) + 1) = ((i + 1 : Nat) : Int) by omega]
    exact ih (i + 1) k (by omega) (by omega) (by omega)
end SmoH
open SmoH
theorem FnSmoothHolds : laws_FnSmoothHolds.Pure := by
  intro l _ hl _
  refine ⟨1000, ?_⟩
  unfold laws_FnSmoothHolds.f
  by_cases hs : (l.length : Int) > 1048576
  · rw [if_pos hs]
  · rw [if_neg hs]
    obtain ⟨a, b, c, d, e, x, ed, hx⟩ := draw_ok l 1000 (by omega) (by omega)
    rw [ed]
    simp only [Option.bind_some]
    obtain ⟨r, r1, r2, r3, r4, r5⟩ := run_same a b c d e x
    rw [r2 1000 (by omega)]
    simp only [Option.bind_some]
    rw [if_pos (by simp; omega), List.nil_append, r1]
    simp only [Option.bind_some, if_true]
    have := check_ok x r hx r4 r5 r.length 0 1000 (by omega) (by omega) (by omega)
    rw [Int.natCast_zero] at this
    exact this
end Go.Proofs.Ytppbocpmahhciaa.Pure
