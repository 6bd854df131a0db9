/- Plain facts: sums0. -/
import Derived.Test.YtnebddbibpbloaaM16
set_option linter.unusedVariables false
set_option linter.unusedSimpArgs false
set_option linter.unusedSectionVars false
namespace Go.Rv
/-! ### what is filled in is all there is, or all that is wanted -/
theorem sumTo_add (f g : Nat → Int) : ∀ n, sumTo n (fun p => f p + g p) = sumTo n f + sumTo n g
  | 0 => by simp [sumTo]
  | n + 1 => by simp only [sumTo]; rw [sumTo_add f g n]; omega
theorem sumTo_mul (c : Int) (f : Nat → Int) : ∀ n, sumTo n (fun p => c * f p) = c * sumTo n f
  | 0 => by simp [sumTo]
  | n + 1 => by simp only [sumTo]; rw [sumTo_mul c f n, Int.mul_add]
theorem sumTo_le (f g : Nat → Int) : ∀ n, (∀ p, p < n → f p ≤ g p) → sumTo n f ≤ sumTo n g
  | 0, _ => by simp [sumTo]
  | n + 1, h => by
    have h1 := sumTo_le f g n fun p hp => h p (by omega)
    have h2 := h n (by omega)
    simp only [sumTo]; omega
section
variable {l : List ITm} {a : Int} (h : goodI l) (hn : l.length ≤ 100) (ha : 0 ≤ a ∧ a ≤ 72057594037927936)
include h
theorem sum_part (f : ITm → Int) (T : Nat) (hT : T ≤ l.length) : sumTo l.length (fun p => if rkA l p < T then f (itA l p) else 0) = sumTo T fun t => f (oA l t) := by
  have h1 : sumTo l.length (fun p => if rkA l p < T then f (itA l p) else 0) = sumTo l.length (fun p => (fun t => if t < T then f (oA l t) else 0) (rkA l p)) :=
    sumTo_congr _ _ _ fun p hp => by
      show _ = if rkA l p < T then f (oA l (rkA l p)) else 0
      rw [show oA l (rkA l p) = itA l p from rk_at hp]
  refine (h1.trans (sumTo_rk l h (fun t => if t < T then f (oA l t) else 0))).trans ?_
  have h2 := sumTo_split (fun t => if t < T then f (oA l t) else 0) T (l.length - T)
  rw [show T + (l.length - T) = l.length by omega] at h2
  rw [h2, sumTo_zero _ (l.length - T) (fun q _ => if_neg (by omega)), Int.add_zero]
  exact sumTo_congr _ _ _ fun t ht => if_pos ht
theorem bse_sum (T : Nat) (hT : T ≤ l.length) : sumTo l.length (bseA l a T) = a - leftA l a T := by
  have h1 : sumTo l.length (bseA l a T) = sumTo l.length (fun p => (if rkA l p < T then (itA l p).2.1 else 0) + (if rkA l p < T then 0 else shrA l a T p)) :=
    sumTo_congr _ _ _ fun p _ => by
      unfold bseA
      split <;> omega
  rw [h1, sumTo_add, sum_part h (fun x => x.2.1) T hT]
  unfold leftA restAt
  omega
omit h in
theorem one_sum (T : Nat) : ∀ k, sumTo k (fun p => if T ≤ rkA l p ∧ 0 < lfA l a T p then (1 : Int) else 0) = leftA l a T - lfA l a T k
  | 0 => by simp only [sumTo, lfA]; omega
  | k + 1 => by
    simp only [sumTo, lfA]
    rw [one_sum T k]
    split <;> omega
theorem amt_left (T : Nat) (hT : T ≤ l.length) : sumTo l.length (amtA l a T) = a - lfA l a T l.length := by
  have h1 : sumTo l.length (amtA l a T) = sumTo l.length (fun p => bseA l a T p + (if T ≤ rkA l p ∧ 0 < lfA l a T p then (1 : Int) else 0)) :=
    sumTo_congr _ _ _ fun p _ => by
      unfold amtA
      split <;> omega
  rw [h1, sumTo_add, bse_sum h T hT, one_sum]
  omega
omit h in
theorem lf_max (T : Nat) (h0 : 0 ≤ leftA l a T) : ∀ k, lfA l a T k = mx (leftA l a T - sumTo k fun p => if T ≤ rkA l p then (1 : Int) else 0) 0
  | 0 => by
    rw [show (sumTo 0 fun p => if T ≤ rkA l p then (1 : Int) else 0) = 0 from rfl]
    unfold mx
    show leftA l a T = _
    split <;> omega
  | k + 1 => by
    have ih := lf_max T h0 k
    simp only [lfA, sumTo]
    rw [ih]
    unfold mx
    by_cases hr : T ≤ rkA l k
    · simp only [hr, true_and, if_true]
      split <;> split <;> split <;> omega
    · rw [if_neg (fun hh => hr hh.1), if_neg hr]
      split <;> split <;> omega
theorem poor_w (T : Nat) (hT : T ≤ l.length) : sumTo l.length (fun p => if rkA l p < T then 0 else (itA l p).2.2.1) = allAt l T := by
  have h1 : sumTo l.length (fun p => (itA l p).2.2.1) = sumTo l.length (fun p => (if rkA l p < T then (itA l p).2.2.1 else 0) + (if rkA l p < T then 0 else (itA l p).2.2.1)) :=
    sumTo_congr _ _ _ fun p _ => by split <;> omega
  rw [sumTo_add, sum_part h (fun x => x.2.2.1) T hT] at h1
  unfold allAt
  omega
include hn ha
theorem left_cnt (T : Nat) (hT : stopT l a T) (hTl : T < l.length) : 0 ≤ leftA l a T ∧ leftA l a T ≤ sumTo l.length fun p => if T ≤ rkA l p then (1 : Int) else 0 := by
  have hA : 0 < allAt l T := by have := all_ge h T hTl; have := w_bd h T hTl; omega
  have e1 : allAt l T * leftA l a T = sumTo l.length fun p => if rkA l p < T then 0 else restAt l a T * (itA l p).2.2.1 % allAt l T := by
    unfold leftA
    rw [Int.mul_sub, ← sumTo_mul]
    have e2 : allAt l T * restAt l a T = sumTo l.length fun p => if rkA l p < T then 0 else restAt l a T * (itA l p).2.2.1 := by
      conv => lhs; rw [Int.mul_comm, ← poor_w h T hT.1, ← sumTo_mul]
      exact sumTo_congr _ _ _ fun p _ => by split <;> simp
    have e3 : sumTo l.length (fun p => if rkA l p < T then 0 else restAt l a T * (itA l p).2.2.1) = sumTo l.length (fun p => allAt l T * (if rkA l p < T then 0 else shrA l a T p)) + sumTo l.length (fun p => if rkA l p < T then 0 else restAt l a T * (itA l p).2.2.1 % allAt l T) := by
      rw [← sumTo_add]
      refine sumTo_congr _ _ _ fun p _ => ?_
      split
      · simp
      · unfold shrA
        exact (Int.mul_ediv_add_emod _ _).symm
    rw [e2, e3]
    omega
  have e4 := sumTo_le (fun _ => 0) (fun p => if rkA l p < T then 0 else restAt l a T * (itA l p).2.2.1 % allAt l T) l.length fun p _ => by
    show (0 : Int) ≤ if _ then _ else _
    split
    · exact Int.le_refl _
    · exact Int.emod_nonneg _ (by omega)
  have e5 := sumTo_le (fun p => if rkA l p < T then 0 else restAt l a T * (itA l p).2.2.1 % allAt l T) (fun p => allAt l T * (if T ≤ rkA l p then (1 : Int) else 0)) l.length fun p _ => by
    show (if _ then _ else _) ≤ allAt l T * (if _ then _ else _)
    by_cases hr : rkA l p < T
    · rw [if_pos hr, if_neg (by omega)]; simp
    · rw [if_neg hr, if_pos (by omega), Int.mul_one]
      exact Int.le_of_lt (Int.emod_lt_of_pos _ hA)
  rw [sumTo_mul] at e5
  rw [sumTo_zero _ _ (fun _ _ => rfl), ← e1] at e4
  rw [← e1] at e5
  refine ⟨Int.le_of_mul_le_mul_left (a := allAt l T) (by rw [Int.mul_zero]; exact e4) hA, Int.le_of_mul_le_mul_left e5 hA⟩
theorem amt_sum (T : Nat) (hT : stopT l a T) : sumTo l.length (amtA l a T) = mn a (sumTo l.length fun p => (itA l p).2.1) := by
  by_cases hTl : T = l.length
  · have h1 : sumTo l.length (amtA l a T) = sumTo l.length (fun p => (itA l p).2.1) := sumTo_congr _ _ _ fun p hp => by
      have := rk_lt hp
      unfold amtA bseA
      rw [if_neg (by omega), if_pos (by omega)]
    have h2 := (rest_bd h ha T hT.1 hT.2.1).1
    unfold restAt at h2
    have h3 : sumTo l.length (fun p => (itA l p).2.1) = sumTo l.length (fun s => (oA l s).2.1) := sumTo_srt (fun x => x.2.1) l
    rw [h1]
    subst hTl
    unfold mn
    split <;> omega
  · have hTl : T < l.length := by have := hT.1; omega
    obtain ⟨b1, b2⟩ := left_cnt h hn ha T hT hTl
    have e := amt_left (a := a) h T hT.1
    have hl := lf_max T b1 l.length
    have h0 : lfA l a T l.length = 0 := by
      rw [hl]; unfold mx; split <;> omega
    have hle := sumTo_le (amtA l a T) (fun p => (itA l p).2.1) l.length fun p hp => (amt_bd h hn ha T p hT hp).2
    unfold mn
    split <;> omega
end
end Go.Rv
