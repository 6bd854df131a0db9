/- Plain facts: stable4. -/
import Derived.Test.YtipgjgcpfppeeaaM04
set_option linter.unusedVariables false
set_option linter.unusedSimpArgs false
set_option linter.unusedSectionVars false
namespace Go.Rv
/-! ### the merge of two sorted parts in place -/
abbrev RC := List W6 × Int × Int × Int × Unit → Option (List W6 × Unit)
theorem rt_ok (rc : RC) (R : Type) (k0 : Nat) (hx : List W6 → Option R) (x : W6) : ∀ (k : Nat) (v P T : List W6) (i kx : Nat), v.length < k → P.length = kx → i = kx + 1 + v.length → P.length + v.length + T.length ≤ 400 → slices_symMergeCmpFunc_impl_Row_at_impl_ReportTop_1.G3 rc k0 hx k (i : Int) (kx : Int) (P ++ x :: (v ++ T)) = hx (P ++ (v ++ x :: T)) := by
  intro k
  induction k with
  | zero => intro v P T i kx h; omega
  | succ k ih =>
    intro v P T i kx hk hp hi hl
    rw [slices_symMergeCmpFunc_impl_Row_at_impl_ReportTop_1.G3, slices_symMergeCmpFunc_impl_Row_at_impl_ReportTop_1.R3]
    rw [w64_in ((i : Int) - 1) (by omega)]
    cases v with
    | nil =>
      simp only [List.length_nil] at hi
      rw [decide_eq_false (by omega), cond_false]
      rfl
    | cons y v =>
      simp only [List.length_cons] at hk hi hl
      rw [w64_in _ (by omega), show ((kx : Int) + 1) = ((kx + 1 : Nat) : Int) by omega]
      simp only [Int.toNat_natCast, List.cons_append]
      rw [nx1 P (v ++ T) x y _ _ (by omega), at1 P _ x _ _ hp.symm, sx P (v ++ T) x y _ _ hp.symm (by omega), List.length_set]
      have hlen : (P ++ x :: y :: (v ++ T)).length = kx + v.length + T.length + 2 := by simp only [List.length_append, List.length_cons]; omega
      rw [hlen, decide_eq_true (by omega), cond_true, if_pos (by omega), if_pos (by omega), if_pos (by omega), if_pos (by omega)]
      have := ih v (P ++ [y]) T i (kx + 1) (by omega) (by rw [List.length_append, hp]; rfl) (by omega) (by rw [List.length_append]; simp only [List.length_cons, List.length_nil]; omega)
      simp only [List.append_assoc, List.cons_append, List.nil_append] at this
      exact this
theorem lf_ok (rc : RC) (R : Type) (k0 : Nat) (hx : List W6 → Option R) (x : W6) : ∀ (k : Nat) (u P T : List W6) (i kx : Nat), u.length < k → P.length = i → kx = i + u.length → P.length + u.length + T.length ≤ 400 → slices_symMergeCmpFunc_impl_Row_at_impl_ReportTop_1.G4 rc k0 hx k (i : Int) (kx : Int) (P ++ (u ++ x :: T)) = hx (P ++ x :: (u ++ T)) := by
  intro k
  induction k with
  | zero => intro v P T i kx h; omega
  | succ k ih =>
    intro u P T i kx hk hp hi hl
    rw [slices_symMergeCmpFunc_impl_Row_at_impl_ReportTop_1.G4, slices_symMergeCmpFunc_impl_Row_at_impl_ReportTop_1.R4]
    rcases List.eq_nil_or_concat u with rfl | ⟨u, y, rfl⟩
    · simp only [List.length_nil] at hi
      rw [decide_eq_false (by omega), cond_false]
      rfl
    · simp only [List.concat_eq_append, List.length_append, List.length_singleton] at hk hi hl ⊢
      have hpl : (P ++ u).length = kx - 1 := by rw [List.length_append]; omega
      rw [w64_in _ (by omega), show ((kx : Int) - 1) = ((kx - 1 : Nat) : Int) by omega, show P ++ (u ++ [y] ++ x :: T) = (P ++ u) ++ y :: x :: T by simp]
      simp only [Int.toNat_natCast]
      rw [nx1 (P ++ u) T y x _ kx (by omega), at1 (P ++ u) _ y _ (kx - 1) hpl.symm, sx' (P ++ u) T y x _ _ hpl.symm (by omega)]
      simp only [List.length_set, List.length_append, List.length_cons]
      rw [decide_eq_true (by omega), cond_true, if_pos (by omega), if_pos (by omega), if_pos (by omega), if_pos (by omega)]
      have := ih u P (y :: T) i (kx - 1) (by omega) hp (by omega) (by simp only [List.length_cons]; omega)
      rw [List.append_assoc P, this]
      simp
theorem a2_eq (rc : RC) (d : List W6) (a0 m0 b0 a m b mid n s : Int) (D : List W6) : slices_symMergeCmpFunc_impl_Row_at_impl_ReportTop_1.A2 rc d a0 m0 b0 a m b mid n s D =
    ((if s < m ∧ m < w64 (n - s) then F_slices_rotateCmpFunc_impl_Row_at_impl_ReportTop_1 (D, s, m, w64 (n - s), ()) else some (D, ())).bind fun y => (if a < s ∧ s < mid then rc (y.1, a, s, mid, ()) else some (y.1, ())).bind fun y => (if mid < w64 (n - s) ∧ w64 (n - s) < b then rc (y.1, mid, w64 (n - s), b, ()) else some (y.1, ())).bind fun y => some (y.1, ())) := by
  unfold slices_symMergeCmpFunc_impl_Row_at_impl_ReportTop_1.A2
  generalize w64 (n - s) = e
  by_cases h1 : s < m <;> by_cases h2 : m < e <;> by_cases h3 : a < s <;> by_cases h4 : s < mid <;> by_cases h5 : mid < e <;> by_cases h6 : e < b <;>
    simp only [h1, h2, h3, h4, h5, h6, decide_true, decide_false, cond_true, cond_false, and_self, and_true, and_false, true_and, false_and, if_true, if_false, Option.bind_some]
/-- a merge that is asked for only where both parts hold something -/
theorem mrg {rc : RC} {N : Nat} (hrc : ∀ (p u v r : List W6) (a m b : Nat), u.length + v.length < N → 0 < u.length → 0 < v.length → Srt u → Srt v → p.length = a → m = a + u.length → b = m + v.length → p.length + u.length + v.length + r.length ≤ 400 →
      ∃ w, Srt w ∧ Same keyR w (u ++ v) ∧ w.length = u.length + v.length ∧ rc (p ++ (u ++ (v ++ r)), (a : Int), (m : Int), (b : Int), ()) = some (p ++ (w ++ r), ()))
    (p u v r : List W6) (a m b : Nat) (hN : u.length + v.length < N) (hu : Srt u) (hv : Srt v) (hp : p.length = a) (hm : m = a + u.length) (hb : b = m + v.length) (hl : p.length + u.length + v.length + r.length ≤ 400) :
    ∃ w, Srt w ∧ Same keyR w (u ++ v) ∧ w.length = u.length + v.length ∧ (if (a : Int) < m ∧ (m : Int) < b then rc (p ++ (u ++ (v ++ r)), (a : Int), (m : Int), (b : Int), ()) else some (p ++ (u ++ (v ++ r)), ())) = some (p ++ (w ++ r), ()) := by
  by_cases h : 0 < u.length ∧ 0 < v.length
  · rw [if_pos (by omega)]
    exact hrc p u v r a m b hN h.1 h.2 hu hv hp hm hb hl
  · rw [if_neg (by omega)]
    refine ⟨u ++ v, ?_, Same.refl _, by simp, by simp⟩
    by_cases h0 : u.length = 0
    · rw [List.length_eq_zero_iff] at h0; subst h0; exact hv
    · have : v.length = 0 := by omega
      rw [List.length_eq_zero_iff] at this; subst this; rw [List.append_nil]; exact hu
theorem fin_ok {rc : RC} {N : Nat} (hrc : ∀ (p u v r : List W6) (a m b : Nat), u.length + v.length < N → 0 < u.length → 0 < v.length → Srt u → Srt v → p.length = a → m = a + u.length → b = m + v.length → p.length + u.length + v.length + r.length ≤ 400 →
      ∃ w, Srt w ∧ Same keyR w (u ++ v) ∧ w.length = u.length + v.length ∧ rc (p ++ (u ++ (v ++ r)), (a : Int), (m : Int), (b : Int), ()) = some (p ++ (w ++ r), ()))
    (d p a1 a2 b1 b2 r : List W6) (a m b mid s : Nat) (a0 m0 b0 : Int) (h1N : a1.length + b1.length < N) (h2N : a2.length + b2.length < N) (hu : Srt (a1 ++ a2)) (hv : Srt (b1 ++ b2)) (hp : p.length = a) (hs : s = a + a1.length) (hm : m = s + a2.length) (hmid : mid = s + b1.length) (hb : b = m + (b1.length + b2.length)) (hl : b + r.length ≤ 400)
    (h1 : ∀ x y, a1.getLast? = some x → b2.head? = some y → ¬ ltK (keyR y) (keyR x)) (h2 : ∀ x y, a2.head? = some x → b1.getLast? = some y → ltK (keyR y) (keyR x)) :
    ∃ w, Srt w ∧ Same keyR w (a1 ++ a2 ++ (b1 ++ b2)) ∧ w.length = a1.length + a2.length + (b1.length + b2.length) ∧ slices_symMergeCmpFunc_impl_Row_at_impl_ReportTop_1.A2 rc d a0 m0 b0 (a : Int) (m : Int) (b : Int) (mid : Int) ((mid + m : Nat) : Int) (s : Int) (p ++ ((a1 ++ a2) ++ ((b1 ++ b2) ++ r))) = some (p ++ (w ++ r), ()) := by
  obtain ⟨q1, q2⟩ := merge_parts ltK_irr ltK_tr ltK_tri hu hv h1 h2
  obtain ⟨su1, su2, _⟩ := List.pairwise_append.1 hu
  obtain ⟨sv1, sv2, _⟩ := List.pairwise_append.1 hv
  rw [a2_eq]
  have we : w64 (((mid + m : Nat) : Int) - s) = ((m + b1.length : Nat) : Int) := (w64_in _ (by omega)).trans (by omega)
  rw [we]
  have e1 : (if (s : Int) < m ∧ (m : Int) < ((m + b1.length : Nat) : Int) then F_slices_rotateCmpFunc_impl_Row_at_impl_ReportTop_1 (p ++ ((a1 ++ a2) ++ ((b1 ++ b2) ++ r)), (s : Int), (m : Int), ((m + b1.length : Nat) : Int), ()) else some (p ++ ((a1 ++ a2) ++ ((b1 ++ b2) ++ r)), ())) = some (p ++ (a1 ++ (b1 ++ (a2 ++ (b2 ++ r)))), ()) := by
    by_cases h : 0 < a2.length ∧ 0 < b1.length
    · rw [if_pos (by omega)]
      have := ro_ok (p ++ a1) a2 b1 (b2 ++ r) s m (m + b1.length) (by simp only [List.length_append]; omega) (by rw [List.length_append]; omega) (by omega) rfl h.1 h.2
      simp only [List.append_assoc] at this ⊢
      exact this
    · rw [if_neg (by omega)]
      by_cases h0 : a2.length = 0
      · rw [List.length_eq_zero_iff] at h0; subst h0; simp
      · have : b1.length = 0 := by omega
        rw [List.length_eq_zero_iff] at this; subst this; simp
  rw [e1, Option.bind_some]
  obtain ⟨w1, x1, x2, x3, x4⟩ := mrg hrc p a1 b1 (a2 ++ (b2 ++ r)) a s mid h1N su1 sv1 hp hs hmid (by simp only [List.length_append]; omega)
  rw [x4, Option.bind_some]
  obtain ⟨w2, y1, y2, y3, y4⟩ := mrg hrc (p ++ w1) a2 b2 r mid (m + b1.length) b h2N su2 sv2 (by rw [List.length_append]; omega) (by omega) (by omega) (by simp only [List.length_append]; omega)
  simp only [List.append_assoc] at y4
  rw [y4, Option.bind_some]
  refine ⟨w1 ++ w2, sorted_app x1 y1 fun x hx y hy => ?_, ?_, by rw [List.length_append]; omega, by simp only [List.append_assoc]⟩
  · exact q1 x (x2.mem hx) y (y2.mem hy)
  · exact (x2.app y2).trans q2.symm
end Go.Rv
