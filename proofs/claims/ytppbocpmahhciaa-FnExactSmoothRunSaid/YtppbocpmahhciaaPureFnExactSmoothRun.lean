/- SmoothRun: the program's list of smooth wants is the reference's, for any smooth value and any list, and it is new memory. No condition. -/
import Derived.Test.YtppbocpmahhciaaPFnExactSmoothRunx
set_option linter.unusedVariables false
set_option linter.unusedSimpArgs false
namespace Go.Proofs.Ytppbocpmahhciaa.Pure
open Go.RowKit Go.Proofs.Ytppbocpmahhciaa.PFnExactSmoothRun Go.Proofs.YtppbocpmahhciaaW.PrintWords Go.Proofs.YtppbocpmahhciaaW.PrintLast Go.Proofs.YtppbocpmahhciaaW.PrintMore
namespace SmRun
theorem in_eq (n l h : Int) : impl_in.f n l h = some (decide (l ≤ n ∧ n ≤ h)) := by
  unfold impl_in.f
  by_cases h1 : l ≤ n <;> simp [h1]
theorem ite_some_bool (p q : Bool) : (if p = true then some q else some false) = some (p && q) := by cases p <;> simp
theorem spec_right (a b c d e : Int) : spec_SmoothRight.f a b c d e = some (decide (0 ≤ a ∧ a ≤ 288230376151711744 ∧ 0 ≤ b ∧ b ≤ 16 ∧ 0 ≤ c ∧ c ≤ 1000 ∧ 0 ≤ e ∧ e ≤ c ∧ 0 ≤ d ∧ d ≤ 1125899906842624)) := by
  unfold spec_SmoothRight.f spec_l02Want.f
  repeat' split
  all_goals simp_all
  all_goals omega
theorem impl_right (a b c d e : Int) : impl_SmoothRight.f a b c d e = some (decide (0 ≤ a ∧ a ≤ 288230376151711744 ∧ 0 ≤ b ∧ b ≤ 16 ∧ 0 ≤ c ∧ c ≤ 1000 ∧ 0 ≤ e ∧ e ≤ c ∧ 0 ≤ d ∧ d ≤ 1125899906842624)) := by
  unfold impl_SmoothRight.f impl_isWant.f
  simp only [in_eq, Option.bind_some, ite_some_bool, Bool.decide_and, Bool.and_assoc]
theorem spec_want (a : Int) : spec_l02Want.f a = some (decide (0 ≤ a ∧ a ≤ 1125899906842624)) := by
  unfold spec_l02Want.f
  by_cases h1 : 0 ≤ a <;> simp [h1]
theorem impl_want (a : Int) : impl_isWant.f a = some (decide (0 ≤ a ∧ a ≤ 1125899906842624)) := by
  unfold impl_isWant.f
  simp only [in_eq, Option.bind_some]

/-- where a step moves a value -/
def mov (v s w : Int) : Int := v + (256 * w - v) / 2 ^ s.toNat

theorem w64 {z : Int} (h : -9223372036854775808 ≤ z ∧ z ≤ 9223372036854775807) : wrap64 z = z := by unfold wrap64; omega

theorem div_bd (d : Int) (n : Nat) : (0 ≤ d → 0 ≤ d / 2 ^ n ∧ d / 2 ^ n ≤ d) ∧ (d < 0 → d ≤ d / 2 ^ n ∧ d / 2 ^ n < 0) := by
  have hp : (0 : Int) < 2 ^ n := Int.pow_pos (by omega)
  constructor
  · intro h
    exact ⟨Int.ediv_nonneg h (by omega), Int.ediv_le_self _ h⟩
  · intro h
    refine ⟨?_, Int.ediv_neg_of_neg_of_pos h hp⟩
    rw [Int.le_ediv_iff_mul_le hp]
    have : d * 2 ^ n ≤ d * 1 := Int.mul_le_mul_of_nonpos_left (by omega) (by omega)
    omega

theorem mov_bd {v s w : Int} (hv : 0 ≤ v ∧ v ≤ 288230376151711744) (hw : 0 ≤ w ∧ w ≤ 1125899906842624) : 0 ≤ mov v s w ∧ mov v s w ≤ 288230376151711744 := by
  unfold mov
  obtain ⟨h1, h2⟩ := div_bd (256 * w - v) s.toNat
  by_cases h : 0 ≤ 256 * w - v
  · have := h1 h; omega
  · have := h2 (by omega); omega

theorem impl_moved (v s c d e w : Int) (hv : 0 ≤ v ∧ v ≤ 288230376151711744) (hw : 0 ≤ w ∧ w ≤ 1125899906842624) (hs : 0 ≤ s ∧ s ≤ 16) : impl_Smooth_moved.f v s c d e w = some (mov v s w) := by
  unfold impl_Smooth_moved.f
  rw [if_pos hs.1]
  have h0 : shr .i64 (wrap64 ((wrap64 (256 * w)) - v)) s = (256 * w - v) / 2 ^ s.toNat := by
    rw [w64 (z := 256 * w) (by omega), w64 (by omega)]
    unfold shr
    rw [Nat.min_eq_left]
    show s.toNat ≤ 64
    omega
  rw [h0]
  have := mov_bd (s := s) hv hw
  unfold mov at this ⊢
  rw [w64 (by omega)]
theorem tdiv_floor (d u : Int) (hu : 0 < u) : (d.tmod u < 0 → d.tdiv u - 1 = d / u) ∧ (¬ d.tmod u < 0 → d.tdiv u = d / u) := by
  rw [Int.tmod_eq_emod, Int.tdiv_eq_ediv, Int.sign_eq_one_of_pos hu]
  have b1 := Int.emod_nonneg d (show u ≠ 0 by omega)
  have b2 := Int.emod_lt_of_pos d hu
  have b3 : (u.natAbs : Int) = u := by omega
  split <;> constructor <;> intro h <;> omega

theorem moved_l0 (v s d : Int) (hs : 0 ≤ s ∧ s ≤ 16) (hd : -288230376151711744 ≤ d ∧ d ≤ 288230376151711744) (hv : 0 ≤ v ∧ v ≤ 288230376151711744) (hm : 0 ≤ v + d / 2 ^ s.toNat ∧ v + d / 2 ^ s.toNat ≤ 288230376151711744) (m : Nat) :
    ∀ (k : Nat) (i : Int), 0 ≤ i → i ≤ s → s - i = m → m < k → spec_l17Moved.l0 k v s d (2 ^ i.toNat) i = some (v + d / 2 ^ s.toNat) := by
  induction m with
  | zero =>
    intro k i h0 h1 hi hk
    obtain ⟨k, rfl⟩ : ∃ n, k = n + 1 := ⟨k - 1, by omega⟩
    obtain rfl : i = s := by omega
    have hp : (0 : Int) < 2 ^ i.toNat := Int.pow_pos (by omega)
    obtain ⟨t1, t2⟩ := tdiv_floor d (2 ^ i.toNat) hp
    obtain ⟨b1, b2⟩ := div_bd d i.toNat
    have b3 : -288230376151711744 ≤ d / 2 ^ i.toNat ∧ d / 2 ^ i.toNat ≤ 288230376151711744 := by
      by_cases h : 0 ≤ d
      · have := b1 h; omega
      · have := b2 (by omega); omega
    simp only [spec_l17Moved.l0]
    rw [if_neg (by omega), if_neg (by omega)]
    by_cases h : d.tmod (2 ^ i.toNat) < 0
    · have e := t1 h
      rw [if_pos h, w64 (z := d.tdiv _) (by omega), e, w64 (z := d / _) (by omega), w64 (by omega)]
    · have e := t2 h
      rw [if_neg h, e, w64 (z := d / _) (by omega), w64 (by omega)]
  | succ m ih =>
    intro k i h0 h1 hi hk
    obtain ⟨k, rfl⟩ : ∃ n, k = n + 1 := ⟨k - 1, by omega⟩
    have hlt : i < s := by omega
    simp only [spec_l17Moved.l0]
    rw [if_pos hlt]
    have e1 : (i + 1).toNat = i.toNat + 1 := by omega
    have e2 : wrap64 (2 * 2 ^ i.toNat) = 2 ^ (i + 1).toNat := by
      rw [e1, Int.pow_succ, Int.mul_comm]
      apply w64
      have hp : (0 : Int) < 2 ^ i.toNat := Int.pow_pos (by omega)
      have hq : (2 : Int) ^ i.toNat ≤ 2 ^ 16 := by exact_mod_cast Nat.pow_le_pow_right (show 0 < 2 by omega) (show i.toNat ≤ 16 by omega)
      omega
    rw [e2, w64 (z := i + 1) (by omega)]
    exact ih k (i + 1) (by omega) (by omega) (by omega) (by omega)

theorem spec_moved (v s w : Int) (hv : 0 ≤ v ∧ v ≤ 288230376151711744) (hw : 0 ≤ w ∧ w ≤ 1125899906842624) (hs : 0 ≤ s ∧ s ≤ 16) (k : Nat) (hk : 17 ≤ k) : spec_l17Moved.f k v s w = some (mov v s w) := by
  unfold spec_l17Moved.f
  rw [w64 (z := 256 * w) (by omega), w64 (by omega)]
  have := moved_l0 v s (256 * w - v) hs (by omega) hv (mov_bd hv hw) s.toNat k 0 (by omega) (by omega) (by omega) (by omega)
  exact this
theorem w64i {z : Int} (h : -9223372036854775808 ≤ z ∧ z ≤ 9223372036854775807) : wrap64 z = z := by unfold wrap64; omega
theorem take_set_lt {α : Type} (x : List α) (i : Nat) (v : α) (h : i < x.length) : (x.set i v).take (i + 1) = x.take i ++ [v] := by
  rw [List.take_succ_eq_append_getElem (by simpa using h)]
  simp [List.take_set_of_le]
theorem toInt64_l0 (l : List Int) (hl : l.length ≤ 1048576) (m : Nat) : ∀ (k : Nat) (x3 : List Int) (i : Nat), x3.length = l.length → i ≤ l.length → l.length - i = m → x3.take i = l.take i → m < k → laws_toInt64S.l0 k l x3 (i : Int) = some l := by
  induction m with
  | zero =>
    intro k x3 i hx h1 h2 ht hk
    obtain ⟨k, rfl⟩ : ∃ n, k = n + 1 := ⟨k - 1, by omega⟩
    simp only [laws_toInt64S.l0]
    rw [if_neg (by omega)]
    have : i = l.length := by omega
    subst this
    rw [List.take_length, List.take_of_length_le (by omega)] at ht
    rw [ht]
  | succ m ih =>
    intro k x3 i hx h1 h2 ht hk
    obtain ⟨k, rfl⟩ : ∃ n, k = n + 1 := ⟨k - 1, by omega⟩
    simp only [laws_toInt64S.l0, Int.toNat_natCast]
    rw [if_pos (by omega), if_pos (by omega), if_pos (by omega), w64i (z := (i : Int) + 1) (by omega)]
    refine ih k _ (i + 1) (by simpa using hx) (by omega) (by omega) ?_ (by omega)
    rw [take_set_lt _ _ _ (by omega), ht, List.take_succ_eq_append_getElem (by omega)]
    simp [rd, List.getD_eq_getElem?_getD, show i < l.length by omega]
theorem toInt64_ok (l : List Int) (hl : l.length ≤ 1048576) (k : Nat) (hk : l.length < k) : laws_toInt64S.f k l = some l := by
  unfold laws_toInt64S.f
  rw [if_pos (by omega), if_pos (by rw [Int.toNat_natCast]; omega), Int.toNat_natCast]
  exact toInt64_l0 l hl l.length k _ 0 (by simp) (by omega) (by omega) (by simp) hk
theorem eqInt64_l0 (l : List Int) (hl : l.length ≤ 1048576) (m : Nat) : ∀ (k i : Nat), i ≤ l.length → l.length - i = m → m < k → laws_eqInt64S.l0 k l l (i : Int) = some true := by
  induction m with
  | zero =>
    intro k i h1 h2 hk
    obtain ⟨k, rfl⟩ : ∃ n, k = n + 1 := ⟨k - 1, by omega⟩
    simp only [laws_eqInt64S.l0]
    rw [if_neg (by omega)]
  | succ m ih =>
    intro k i h1 h2 hk
    obtain ⟨k, rfl⟩ : ∃ n, k = n + 1 := ⟨k - 1, by omega⟩
    simp only [laws_eqInt64S.l0, if_true]
    have h3 : (i : Int) < (l.length : Int) := by omega
    simp only [h3, if_true]
    rw [if_pos (by omega), w64i (z := (i : Int) + 1) (by omega)]
    exact ih k (i + 1) (by omega) (by omega) (by omega)
theorem eqInt64_ok (l : List Int) (hl : l.length ≤ 1048576) (k : Nat) (hk : l.length < k) : laws_eqInt64S.f k l l = some true := by
  unfold laws_eqInt64S.f
  rw [if_pos rfl]
  exact eqInt64_l0 l hl l.length k 0 (by omega) (by omega) hk
def marks (n : Nat) : List Int := (List.range n).map fun (j : Nat) => (j : Int) + 1
theorem marks_len (n : Nat) : (marks n).length = n := by simp [marks]
theorem marks_get (n i : Nat) (h : i < n) : (marks n)[i]? = some ((i : Int) + 1) := by simp [marks, h]
theorem markInt64_l0 (n : Nat) (hn : n ≤ 1048576) (m : Nat) : ∀ (k : Nat) (x0 : List Int) (i : Nat), x0.length = n → i ≤ n → n - i = m → x0.take i = (marks n).take i → m < k → laws_markInt64S.l0 k x0 ((i : Int) + 1) (i : Int) = some ((n : Int) + 1, marks n) := by
  induction m with
  | zero =>
    intro k x0 i hx h1 h2 ht hk
    obtain ⟨k, rfl⟩ : ∃ n, k = n + 1 := ⟨k - 1, by omega⟩
    simp only [laws_markInt64S.l0]
    have : i = n := by omega
    subst this
    rw [if_neg (by omega)]
    rw [List.take_of_length_le (by omega), List.take_of_length_le (by rw [marks_len]; omega)] at ht
    rw [ht]
  | succ m ih =>
    intro k x0 i hx h1 h2 ht hk
    obtain ⟨k, rfl⟩ : ∃ n, k = n + 1 := ⟨k - 1, by omega⟩
    simp only [laws_markInt64S.l0, Int.toNat_natCast]
    rw [if_pos (by omega), if_pos (by omega), w64i (z := (i : Int) + 1) (by omega), w64i (z := (i : Int) + 1 + 1) (by omega)]
    refine ih k _ (i + 1) (by simpa using hx) (by omega) (by omega) ?_ (by omega)
    rw [take_set_lt _ _ _ (by omega), ht, List.take_succ_eq_append_getElem (by rw [marks_len]; omega)]
    congr 1
    have := marks_get n i (by omega)
    rw [List.getElem?_eq_getElem (by rw [marks_len]; omega)] at this
    rw [Option.some.inj this]
theorem markInt64_ok (l : List Int) (hl : l.length ≤ 1048576) (k : Nat) (hk : l.length < k) : laws_markInt64S.f k l 1 = some ((l.length : Int) + 1, marks l.length) := by
  unfold laws_markInt64S.f
  exact markInt64_l0 l.length hl l.length k l 0 rfl (by omega) (by omega) (by simp) hk
theorem heldInt64_l0 (n : Nat) (hn : n ≤ 1048576) (m : Nat) : ∀ (k i : Nat), i ≤ n → n - i = m → m < k → laws_heldInt64S.l0 k (marks n) ((i : Int) + 1) (i : Int) = some ((n : Int) + 1) := by
  induction m with
  | zero =>
    intro k i h1 h2 hk
    obtain ⟨k, rfl⟩ : ∃ n, k = n + 1 := ⟨k - 1, by omega⟩
    simp only [laws_heldInt64S.l0]
    rw [marks_len, if_neg (by omega)]
    have : i = n := by omega
    rw [this]
  | succ m ih =>
    intro k i h1 h2 hk
    obtain ⟨k, rfl⟩ : ∃ n, k = n + 1 := ⟨k - 1, by omega⟩
    have h3 : rd (marks n) (i : Int) = (i : Int) + 1 := by
      simp [rd, List.getD_eq_getElem?_getD, marks_get n i (by omega)]
    simp only [laws_heldInt64S.l0]
    rw [marks_len, if_pos (by omega), if_pos (by omega), if_pos h3, w64i (z := (i : Int) + 1) (by omega), w64i (z := (i : Int) + 1 + 1) (by omega)]
    exact ih k (i + 1) (by omega) (by omega) (by omega)
theorem heldInt64_ok (n : Nat) (hn : n ≤ 1048576) (k : Nat) (hk : n < k) : laws_heldInt64S.f k (marks n) 1 = some ((n : Int) + 1) := by
  unfold laws_heldInt64S.f
  exact heldInt64_l0 n hn n k 0 (by omega) (by omega) hk
def rightB (a b c d e : Int) : Prop := 0 ≤ a ∧ a ≤ 288230376151711744 ∧ 0 ≤ b ∧ b ≤ 16 ∧ 0 ≤ c ∧ c ≤ 1000 ∧ 0 ≤ e ∧ e ≤ c ∧ 0 ≤ d ∧ d ≤ 1125899906842624
theorem step_same (a b c d e w : Int) (h : rightB a b c d e) (hw : 0 ≤ w ∧ w ≤ 1125899906842624) :
    ∃ d' e', impl_Smooth_step.f a b c d e w = some (mov a b w, b, c, d', e') ∧ (∀ k, 18 ≤ k → spec_SmoothStep.f k a b c d e w = some (mov a b w, b, c, d', e')) ∧ rightB (mov a b w) b c d' e' ∧ w ≤ d' := by
  unfold rightB at h ⊢
  have hm := mov_bd (s := b) (v := a) (w := w) (by omega) hw
  unfold impl_Smooth_step.f spec_SmoothStep.f
  rw [impl_moved a b c d e w (by omega) hw (by omega), spec_right, spec_want]
  simp only [Option.bind_some]
  by_cases h1 : w ≥ d
  · refine ⟨w, 0, by simp [h1], fun k hk => ?_, by omega, by omega⟩
    rw [if_pos (decide_eq_true h), if_pos (decide_eq_true hw), spec_moved a b w (by omega) hw (by omega) k (by omega)]
    simp [h1]
  · by_cases h2 : e = c
    · refine ⟨w, 0, by simp [h1, h2], fun k hk => ?_, by omega, by omega⟩
      rw [if_pos (decide_eq_true h), if_pos (decide_eq_true hw), spec_moved a b w (by omega) hw (by omega) k (by omega)]
      simp [h1, h2]
    · refine ⟨d, e + 1, by simp [h1, h2, w64 (z := e + 1) (by omega)], fun k hk => ?_, by omega, by omega⟩
      rw [if_pos (decide_eq_true h), if_pos (decide_eq_true hw), spec_moved a b w (by omega) hw (by omega) k (by omega)]
      simp [h1, h2, w64 (z := e + 1) (by omega)]
theorem max_eq (a b : Int) : spec_l01Max.f a b = some (mx a b) := by
  unfold spec_l01Max.f mx
  split <;> split <;> first | rfl | (congr 1; omega)
theorem want_same (a b c d e : Int) (h : rightB a b c d e) : ∃ v, impl_Smooth_want.f a b c d e = some v ∧ spec_SmoothWant.f a b c d e = some v ∧ d ≤ v := by
  unfold rightB at h
  refine ⟨_, rfl, ?_, ?_⟩
  · unfold spec_SmoothWant.f
    rw [spec_right]
    simp only [Option.bind_some]
    rw [if_pos (decide_eq_true h), max_eq]
    rfl
  · unfold mx
    split <;> omega
theorem all_l0 (l : List Int) (hl : l.length ≤ 400) (m : Nat) : ∀ (k i : Nat), i ≤ l.length → l.length - i = m → m < k → spec_l01All.l0 k l 0 1125899906842624 (i : Int) = some (!((l.drop i).any impl_SmoothRun.bad)) := by
  induction m with
  | zero =>
    intro k i h1 h2 hk
    obtain ⟨k, rfl⟩ : ∃ n, k = n + 1 := ⟨k - 1, by omega⟩
    simp only [spec_l01All.l0]
    rw [if_neg (by omega), List.drop_of_length_le (by omega)]
    rfl
  | succ m ih =>
    intro k i h1 h2 hk
    obtain ⟨k, rfl⟩ : ∃ n, k = n + 1 := ⟨k - 1, by omega⟩
    have hlt : i < l.length := by omega
    simp only [spec_l01All.l0]
    rw [if_pos (by omega), if_pos (by omega), w64 (z := (i : Int) + 1) (by omega)]
    have := ih k (i + 1) (by omega) (by omega) (by omega)
    rw [show ((i : Int) + 1) = ((i + 1 : Nat) : Int) by omega, this]
    have hd : l.drop i = rd l i :: l.drop (i + 1) := by
      rw [List.drop_eq_getElem_cons hlt]
      simp [rd, List.getD_eq_getElem?_getD, hlt]
    rw [hd, List.any_cons]
    generalize rd l i = x
    unfold impl_SmoothRun.bad
    by_cases c1 : x < 0
    · have h3 : ¬ (0 ≤ x ∧ x ≤ 1125899906842624) := by omega
      rw [if_pos c1, decide_eq_false h3]
      rfl
    · rw [if_neg c1]
      by_cases c2 : x > 1125899906842624
      · have h3 : ¬ (0 ≤ x ∧ x ≤ 1125899906842624) := by omega
        rw [if_pos c2, decide_eq_false h3]
        rfl
      · have h3 : 0 ≤ x ∧ x ≤ 1125899906842624 := by omega
        rw [if_neg c2, decide_eq_true h3]
        rfl
theorem run_l0 (l : List Int) (hl : l.length ≤ 400) (hg : l.any impl_SmoothRun.bad = false) (m : Nat) : ∀ (i : Nat) (out : List Int) (a b c d e : Int), i ≤ l.length → l.length - i = m → out.length = i → rightB a b c d e →
    ∃ r, impl_SmoothRun.l (l.drop i) a b c d e out = some r ∧ (∀ k, m + 30 < k → spec_SmoothRun.l0 k l out (i : Int) a b c d e = some r) ∧ r.length = l.length ∧ out.IsPrefix r ∧ (∀ j, i ≤ j → j < l.length → ∃ v, r[j]? = some v ∧ rd l j ≤ v) := by
  induction m with
  | zero =>
    intro i out a b c d e h1 h2 ho hr
    refine ⟨out, ?_, fun k hk => ?_, by omega, List.prefix_refl _, fun j hj hj2 => by omega⟩
    · rw [List.drop_of_length_le (by omega)]
      rfl
    · obtain ⟨k, rfl⟩ : ∃ n, k = n + 1 := ⟨k - 1, by omega⟩
      simp only [spec_SmoothRun.l0]
      rw [if_neg (by omega)]
  | succ m ih =>
    intro i out a b c d e h1 h2 ho hr
    have hlt : i < l.length := by omega
    have hd : l.drop i = rd l i :: l.drop (i + 1) := by
      rw [List.drop_eq_getElem_cons hlt]
      simp [rd, List.getD_eq_getElem?_getD, hlt]
    have hx : 0 ≤ rd l i ∧ rd l i ≤ 1125899906842624 := by
      have hmem : rd l i ∈ l := by
        have : rd l i = l[i] := by simp [rd, List.getD_eq_getElem?_getD, hlt]
        rw [this]
        exact List.getElem_mem hlt
      have := (List.any_eq_false.1 hg) _ hmem
      unfold impl_SmoothRun.bad at this
      simpa using this
    obtain ⟨d', e', s1, s2, s3, s4⟩ := step_same a b c d e (rd l i) hr hx
    obtain ⟨v, v1, v2, v3⟩ := want_same _ _ _ _ _ s3
    obtain ⟨r, r1, r2, r3, r4, r5⟩ := ih (i + 1) (out ++ [v]) _ _ _ _ _ (by omega) (by omega) (by simp [ho]) s3
    refine ⟨r, ?_, fun k hk => ?_, r3, (List.prefix_append _ _).trans r4, fun j hj hj2 => ?_⟩
    · rw [hd]
      simp only [impl_SmoothRun.l]
      rw [s1]
      simp only [Option.bind_some]
      rw [v1]
      exact r1
    · obtain ⟨k, rfl⟩ : ∃ n, k = n + 1 := ⟨k - 1, by omega⟩
      simp only [spec_SmoothRun.l0]
      rw [if_pos (by omega), if_pos (by omega), s2 k (by omega)]
      simp only [Option.bind_some]
      rw [v2]
      simp only [Option.bind_some]
      rw [if_pos (by omega), w64 (z := (i : Int) + 1) (by omega), show ((i : Int) + 1) = ((i + 1 : Nat) : Int) by omega]
      exact r2 k (by omega)
    · by_cases hji : j = i
      · subst hji
        refine ⟨v, ?_, by omega⟩
        obtain ⟨t, ht⟩ := r4
        rw [← ht, List.getElem?_append_left (by simp [ho]), List.getElem?_append_right (by omega)]
        simp [ho]
      · exact r5 j (by omega) hj2
/-- both runs tell the same list; where there is one, it is as long as what came in, and nothing in it is below its want -/
theorem run_same (a b c d e : Int) (l : List Int) : ∃ r, impl_SmoothRun.f a b c d e l = some r ∧ (∀ k, 500 < k → spec_SmoothRun.f k a b c d e l = some r) ∧ r.length ≤ 400 ∧ (r.length ≤ l.length) ∧ ∀ (j : Nat) (v : Int), r[j]? = some v → rd l (j : Int) ≤ v := by
  unfold impl_SmoothRun.f spec_SmoothRun.f
  rw [impl_right, spec_right]
  simp only [Option.bind_some]
  by_cases h : rightB a b c d e
  · have h' := h
    unfold rightB at h'
    rw [if_pos (decide_eq_true h'), decide_eq_true h']
    by_cases hl : l.length ≤ 400
    · rw [if_pos hl]
      cases hg : l.any impl_SmoothRun.bad with
      | true =>
        refine ⟨[], by simp, fun k hk => ?_, by simp, by simp, by simp⟩
        obtain ⟨k, rfl⟩ : ∃ n, k = n + 1 := ⟨k - 1, by omega⟩
        have h3 := all_l0 l hl l.length (k + 1) 0 (by omega) (by omega) (by omega)
        rw [if_neg (by omega), if_pos rfl]
        unfold spec_l01All.f
        rw [Int.natCast_zero] at h3
        rw [h3, List.drop_zero, hg]
        simp [spec_SmoothRun.j0]
      | false =>
        obtain ⟨r, r1, r2, r3, r4, r5⟩ := run_l0 l hl hg l.length 0 [] a b c d e (by omega) (by omega) rfl h
        rw [List.drop_zero] at r1
        refine ⟨r, by rw [if_neg Bool.false_ne_true, r1], fun k hk => ?_, by omega, by omega, fun j v hj => ?_⟩
        · obtain ⟨k, rfl⟩ : ∃ n, k = n + 1 := ⟨k - 1, by omega⟩
          have h3 := all_l0 l hl l.length (k + 1) 0 (by omega) (by omega) (by omega)
          rw [if_neg (by omega), if_pos rfl]
          unfold spec_l01All.f
          rw [Int.natCast_zero] at h3
          rw [h3, List.drop_zero, hg]
          simp only [Bool.not_false, Option.bind_some, Bool.not_true, spec_SmoothRun.j0, Bool.false_eq_true, if_false]
          exact r2 k (by omega)
        · have hj2 : j < l.length := by have := (List.getElem?_eq_some_iff.1 hj).1; omega
          obtain ⟨v', e1, e2⟩ := r5 j (by omega) hj2
          rw [hj] at e1
          have := Option.some.inj e1
          omega
    · rw [if_neg hl]
      refine ⟨[], rfl, fun k hk => ?_, by simp, by simp, by simp⟩
      obtain ⟨k, rfl⟩ : ∃ n, k = n + 1 := ⟨k - 1, by omega⟩
      rw [if_pos (by omega)]
      simp [spec_SmoothRun.j0]
  · have h' := h
    unfold rightB at h'
    rw [if_neg (by simpa using h'), decide_eq_false h']
    refine ⟨[], rfl, fun k hk => ?_, by simp, by simp, by simp⟩
    obtain ⟨k, rfl⟩ : ∃ n, k = n + 1 := ⟨k - 1, by omega⟩
    simp [spec_SmoothRun.j0]
end SmRun
open SmRun
theorem FnExactSmoothRun (a b c d e : Int) (l : List Int) (_ : -9223372036854775808 ≤ a ∧ a ≤ 9223372036854775807) (_ : -9223372036854775808 ≤ b ∧ b ≤ 9223372036854775807) (_ : -9223372036854775808 ≤ c ∧ c ≤ 9223372036854775807)
    (_ : -9223372036854775808 ≤ d ∧ d ≤ 9223372036854775807) (_ : -9223372036854775808 ≤ e ∧ e ≤ 9223372036854775807) (_ : l.length ≤ 9223372036854775807) (_ : ∀ z ∈ l, (Lit.int .i64 z).wf = true) : ∃ k, laws_FnExactSmoothRun.f k a b c d e l = some true := by
  refine ⟨l.length + 1000, ?_⟩
  unfold laws_FnExactSmoothRun.f
  by_cases hl : (l.length : Int) > 1048576
  · rw [if_pos hl]
  · rw [if_neg hl]
    obtain ⟨r, r1, r2, r3, _, _⟩ := run_same a b c d e l
    have tk : ∀ k, l.length < k → laws_toInt64S.f k l = some l := toInt64_ok l (by omega)
    have ek : ∀ k, l.length < k → laws_eqInt64S.f k l l = some true := eqInt64_ok l (by omega)
    have er : ∀ k, 400 < k → laws_eqInt64S.f k r r = some true := fun k hk => eqInt64_ok r (by omega) k (by omega)
    simp only [laws_toSmooth.f, Option.bind_some]
    rw [tk _ (by omega)]
    simp only [Option.bind_some]
    rw [r2 _ (by omega), r1]
    simp only [Option.bind_some]
    rw [er _ (by omega)]
    simp only [Option.bind_some, if_true]
    rw [ek _ (by omega), markInt64_ok l (by omega) _ (by omega)]
    simp only [Option.bind_some, if_true]
    rw [if_neg (by omega)]
    obtain ⟨k, hk⟩ : ∃ k, l.length + 1000 = k + 1 := ⟨l.length + 999, rfl⟩
    rw [hk]
    simp only [laws_FnExactSmoothRun.j0, Bool.not_true, Bool.false_eq_true, if_false]
    rw [markInt64_ok r (by omega) k (by omega)]
    simp only [Option.bind_some]
    rw [heldInt64_ok _ (by omega) k (by omega)]
    simp only [Option.bind_some, laws_toSmooth.f]
    rw [if_neg (by omega)]
    simp only [if_true]
    rw [tk k (by omega)]
    simp only [Option.bind_some]
    rw [r1]
    simp only [Option.bind_some]
    rw [er k (by omega)]
    simp only [Option.bind_some, if_true]
    rw [if_neg (by omega)]
end Go.Proofs.Ytppbocpmahhciaa.Pure
