/- Plain facts: stable2. -/
import Derived.Test.YtipgjgcpfppeeaaM02
set_option linter.unusedVariables false
set_option linter.unusedSimpArgs false
set_option linter.unusedSectionVars false
namespace Go.Rv
/-! ### rows in order: the greatest lease first, then the least id -/
abbrev W6 := Int × Int × Int × Int × Int × Int × Unit
abbrev z6 : W6 := (0, 0, 0, 0, 0, 0, ())
def keyR (x : W6) : Int × Int := (x.2.2.2.2.1, x.1)
def ltK (a b : Int × Int) : Prop := a.1 > b.1 ∨ (a.1 = b.1 ∧ a.2 < b.2)
theorem ltK_irr (a : Int × Int) : ¬ ltK a a := by unfold ltK; omega
theorem ltK_tr (a b c : Int × Int) : ltK a b → ltK b c → ltK a c := by unfold ltK; omega
theorem ltK_tri (a b : Int × Int) : ¬ ltK a b → ¬ ltK b a → a = b := by
  obtain ⟨a1, a2⟩ := a
  obtain ⟨b1, b2⟩ := b
  unfold ltK
  simp only [Prod.mk.injEq]
  omega
def ltR (x y : W6) : Prop := ltK (keyR x) (keyR y)
abbrev Srt (l : List W6) : Prop := SortedK keyR ltK l
theorem cmpI (x y : Int) : F_cmp_Compare_int64 (x, y, ()) = some (if x < y then -1 else if x > y then 1 else 0, ()) := by
  simp only [F_cmp_Compare_int64, cmp_Compare_int64.T, F_cmp_isNaN_int64, cmp_isNaN_int64.T, Option.bind_some, bne_self_eq_false, cond_false]
  by_cases h : x < y
  · rw [decide_eq_true h, if_pos h]; rfl
  · rw [decide_eq_false h, if_neg h]
    by_cases g : x > y
    · rw [decide_eq_true g, if_pos g]; rfl
    · rw [decide_eq_false g, if_neg g]; rfl
theorem orI (a b : Int) : F_cmp_Or_int ([(a, ()), (b, ())], ()) = some (if a = 0 then b else a, ()) := by
  have key : ∀ k0 k, cmp_Or_int.G0 k0 (fun t2x zero => cmp_Or_int.A0 [(a, ()), (b, ())] t2x zero) (fun zero => cmp_Or_int.A1 [(a, ()), (b, ())] zero) (k + 3) 0 [(a, ()), (b, ())] 2 0 = some (if a = 0 then b else a, ()) := by
    intro k0 k
    rw [cmp_Or_int.G0, cmp_Or_int.R0, w64_in _ (by omega)]
    rw [if_pos (by simp)]
    by_cases ha : a = 0
    · subst ha
      rw [if_pos rfl, show decide ((0 : Int) < 2) = true from rfl, cond_true, show ((rd (0, ()) [((0 : Int), ()), (b, ())] 0).1 != 0) = false from rfl, cond_false, show (0 : Int) + 1 = 1 from rfl]
      rw [cmp_Or_int.G0, cmp_Or_int.R0, w64_in _ (by omega), if_pos (by simp)]
      by_cases hb : b = 0
      · subst hb
        rw [show decide ((1 : Int) < 2) = true from rfl, cond_true, show ((rd (0, ()) [((0 : Int), ()), ((0 : Int), ())] 1).1 != 0) = false from rfl, cond_false, show (1 : Int) + 1 = 2 from rfl]
        rw [cmp_Or_int.G0, cmp_Or_int.R0]
        rfl
      · have : ((rd (0, ()) [((0 : Int), ()), (b, ())] 1).1 != 0) = true := by simpa [rd] using hb
        rw [this]
        rfl
    · rw [if_neg ha]
      have : ((rd (0, ()) [(a, ()), (b, ())] 0).1 != 0) = true := by simpa [rd] using ha
      rw [this]
      rfl
  exact key _ 299
theorem cmpR (x y : W6) : ∃ c, F_impl_ReportTop_1 (x.1, x.2.1, x.2.2.1, x.2.2.2.1, x.2.2.2.2.1, x.2.2.2.2.2.1, y.1, y.2.1, y.2.2.1, y.2.2.2.1, y.2.2.2.2.1, y.2.2.2.2.2.1, ()) = some (c, ()) ∧ decide (c < 0) = bb (ltR x y) := by
  simp only [F_impl_ReportTop_1, impl_ReportTop_1.T, cmpI, orI, Option.bind_some]
  refine ⟨_, rfl, ?_⟩
  rw [← bb_dec]
  apply bb_congr
  unfold ltR ltK keyR
  repeat' split
  all_goals (simp only; omega)
/-! ### two places of a row change what they hold -/
theorem at1 {α : Type} (P R : List α) (x z : α) (n : Nat) (hn : n = P.length) : (P ++ x :: R).getD n z = x := by subst hn; simp [List.getD_eq_getElem?_getD]
theorem at2 {α : Type} (P M R : List α) (x y z : α) (n : Nat) (hn : n = P.length + (M.length + 1)) : (P ++ x :: (M ++ y :: R)).getD n z = y := by
  subst hn
  rw [List.getD_eq_getElem?_getD, List.getElem?_append_right (by omega), Nat.add_sub_cancel_left, List.getElem?_cons_succ, List.getElem?_append_right (by omega), Nat.sub_self]
  rfl
theorem swp {α : Type} (P M R : List α) (x y : α) (n m : Nat) (hn : n = P.length) (hm : m = P.length + (M.length + 1)) : ((P ++ x :: (M ++ y :: R)).set n y).set m x = P ++ y :: (M ++ x :: R) := by
  subst hn hm
  rw [List.set_append_right _ _ (Nat.le_refl _), Nat.sub_self, List.set_cons_zero, List.set_append_right _ _ (by omega), Nat.add_sub_cancel_left, List.set_cons_succ, List.set_append_right _ _ (by omega), Nat.sub_self, List.set_cons_zero]
theorem swp' {α : Type} (P M R : List α) (x y : α) (n m : Nat) (hn : n = P.length) (hm : m = P.length + (M.length + 1)) : ((P ++ x :: (M ++ y :: R)).set m x).set n y = P ++ y :: (M ++ x :: R) := by
  rw [List.set_comm _ _ (by omega), swp P M R x y n m hn hm]
theorem sw_ok (P U Q V R : List W6) (a b n : Nat) (hL : P.length + U.length + Q.length + V.length + R.length ≤ 400) (huv : U.length = V.length) (ha : P.length = a) (hb : P.length + U.length + Q.length = b) (hn : n = U.length) :
    F_slices_swapRangeCmpFunc_impl_Row_at_impl_ReportTop_1 (P ++ (U ++ (Q ++ (V ++ R))), (a : Int), (b : Int), (n : Int), ()) = some (P ++ (V ++ (Q ++ (U ++ R))), ()) := by
  have key : ∀ (k0 k : Nat) (U V P Q : List W6) (i : Nat), U.length < k → P.length + U.length + Q.length + V.length + R.length ≤ 400 → U.length = V.length → P.length = a + i → P.length + U.length + Q.length = b + i → n = i + U.length →
      slices_swapRangeCmpFunc_impl_Row_at_impl_ReportTop_1.G0 k0 (fun o => some (o, ())) k (a : Int) (b : Int) (n : Int) (i : Int) (P ++ (U ++ (Q ++ (V ++ R)))) = some (P ++ (V ++ (Q ++ (U ++ R))), ()) := by
    intro k0 k
    induction k with
    | zero => intro U V P Q i h; omega
    | succ k ih =>
      intro U V P Q i hk hl huv hp hq hn
      rw [slices_swapRangeCmpFunc_impl_Row_at_impl_ReportTop_1.G0, slices_swapRangeCmpFunc_impl_Row_at_impl_ReportTop_1.R0]
      cases U with
      | nil =>
        cases V with
        | nil =>
          simp only [List.length_nil] at *
          rw [decide_eq_false (by omega), cond_false]
        | cons y V => simp at huv
      | cons x U =>
        cases V with
        | nil => simp at huv
        | cons y V =>
          simp only [List.length_cons] at *
          have e : P ++ (x :: U ++ (Q ++ (y :: V ++ R))) = P ++ x :: ((U ++ Q) ++ y :: (V ++ R)) := by simp
          have w1 : w64 ((b : Int) + i) = ((b + i : Nat) : Int) := w64_in _ (by omega)
          have w2 : w64 ((a : Int) + i) = ((a + i : Nat) : Int) := w64_in _ (by omega)
          have w3 : w64 ((i : Int) + 1) = ((i + 1 : Nat) : Int) := w64_in _ (by omega)
          rw [e, w1, w2, w3]
          simp only [Int.toNat_natCast]
          have hm : b + i = P.length + ((U ++ Q).length + 1) := by simp only [List.length_append]; omega
          have hlen : (P ++ x :: ((U ++ Q) ++ y :: (V ++ R))).length = P.length + U.length + Q.length + V.length + R.length + 2 := by simp only [List.length_append, List.length_cons]; omega
          rw [at2 P (U ++ Q) (V ++ R) x y _ (b + i) hm, at1 P _ x _ (a + i) hp.symm, swp P (U ++ Q) (V ++ R) x y _ _ hp.symm hm]
          rw [List.length_set, hlen]
          rw [decide_eq_true (by omega), cond_true, if_pos (by omega), if_pos (by omega), if_pos (by omega), if_pos (by omega)]
          have e2 : P ++ y :: ((U ++ Q) ++ x :: (V ++ R)) = (P ++ [y]) ++ (U ++ ((Q ++ [x]) ++ (V ++ R))) := by simp
          rw [e2, ih U V (P ++ [y]) (Q ++ [x]) (i + 1) (by omega) (by simp only [List.length_append, List.length_singleton]; omega) (by omega) (by simp only [List.length_append, List.length_singleton]; omega) (by simp only [List.length_append, List.length_singleton]; omega) (by omega)]
          simp
  refine key _ _ U V P Q 0 ?_ hL huv (by omega) (by omega) (by omega)
  simp only [List.length_append]
  omega
/-! ### two parts change places -/
theorem ro_ok (P U V S : List W6) (a m b : Nat) (hL : P.length + U.length + V.length + S.length ≤ 400) (ha : P.length = a) (hm : m = a + U.length) (hb : b = m + V.length) (hu : 0 < U.length) (hv : 0 < V.length) :
    F_slices_rotateCmpFunc_impl_Row_at_impl_ReportTop_1 (P ++ (U ++ (V ++ S)), (a : Int), (m : Int), (b : Int), ()) = some (P ++ (V ++ (U ++ S)), ()) := by
  have key : ∀ (k0 k : Nat) (U V P S : List W6) (i j : Nat), U.length + V.length < k → P.length + U.length + V.length + S.length ≤ 400 → 0 < U.length → 0 < V.length → U.length = i → V.length = j → P.length + i = m →
      slices_rotateCmpFunc_impl_Row_at_impl_ReportTop_1.G0 k0 (slices_rotateCmpFunc_impl_Row_at_impl_ReportTop_1.A0 (P ++ (U ++ (V ++ S))) (a : Int) (m : Int) (b : Int)) k (m : Int) (i : Int) (j : Int) (P ++ (U ++ (V ++ S))) = some (P ++ (V ++ (U ++ S)), ()) := by
    intro k0 k
    have hA : ∀ d1 d2 : List W6, slices_rotateCmpFunc_impl_Row_at_impl_ReportTop_1.A0 d1 (a : Int) (m : Int) (b : Int) = slices_rotateCmpFunc_impl_Row_at_impl_ReportTop_1.A0 d2 a m b := fun _ _ => rfl
    induction k with
    | zero => intro U V P S i j h; omega
    | succ k ih =>
      intro U V P S i j hk hl hu hv hi hj hp
      rw [slices_rotateCmpFunc_impl_Row_at_impl_ReportTop_1.G0, slices_rotateCmpFunc_impl_Row_at_impl_ReportTop_1.R0]
      have w1 : w64 ((m : Int) - i) = ((P.length : Nat) : Int) := (w64_in _ (by omega)).trans (by omega)
      have w2 : w64 ((m : Int) + j) = ((m + j : Nat) : Int) := w64_in _ (by omega)
      rw [w1, w2]
      by_cases hij : i = j
      · subst hij
        rw [show ((i : Int) != (i : Int)) = false by simp, cond_false, slices_rotateCmpFunc_impl_Row_at_impl_ReportTop_1.A0, w1]
        have := sw_ok P U [] V S P.length m i (by simp only [List.length_nil]; omega) (by omega) rfl (by simp only [List.length_nil]; omega) (by omega)
        simp only [List.nil_append] at this
        rw [this]
        rfl
      · rw [show ((i : Int) != (j : Int)) = true by simpa using fun h => hij (by omega), cond_true]
        by_cases hgt : j < i
        · rw [decide_eq_true (by omega), cond_true, w64_in ((i : Int) - j) (by omega)]
          have e := sw_ok P (U.take j) (U.drop j) V S P.length m j (by rw [List.length_take, List.length_drop]; omega) (by rw [List.length_take]; omega) rfl (by rw [List.length_take, List.length_drop]; omega) (by rw [List.length_take]; omega)
          rw [← List.append_assoc (U.take j), List.take_append_drop] at e
          rw [e, Option.bind_some, show ((i : Int) - j) = ((i - j : Nat) : Int) by omega]
          have := ih (U.drop j) (U.take j) (P ++ V) S (i - j) j (by rw [List.length_take, List.length_drop]; omega) (by rw [List.length_take, List.length_drop, List.length_append]; omega) (by rw [List.length_drop]; omega) (by rw [List.length_take]; omega) (by rw [List.length_drop]; omega) (by rw [List.length_take]; omega) (by rw [List.length_append]; omega)
          simp only [List.append_assoc] at this
          rw [hA (P ++ (U ++ (V ++ S))), this, ← List.append_assoc (U.take j), List.take_append_drop]
        · rw [decide_eq_false (by omega), cond_false, w64_in ((j : Int) - i) (by omega)]
          have w3 : w64 (((m + j : Nat) : Int) - i) = ((m + j - i : Nat) : Int) := (w64_in _ (by omega)).trans (by omega)
          have e := sw_ok P U (V.take (j - i)) (V.drop (j - i)) S P.length (m + j - i) i (by rw [List.length_take, List.length_drop]; omega) (by rw [List.length_drop]; omega) rfl (by rw [List.length_take]; omega) (by omega)
          rw [← List.append_assoc (V.take (j - i)), List.take_append_drop] at e
          rw [w3, e, Option.bind_some, show ((j : Int) - i) = ((j - i : Nat) : Int) by omega]
          have := ih (V.drop (j - i)) (V.take (j - i)) P (U ++ S) i (j - i) (by rw [List.length_take, List.length_drop]; omega) (by rw [List.length_take, List.length_drop, List.length_append]; omega) (by rw [List.length_drop]; omega) (by rw [List.length_take]; omega) (by rw [List.length_drop]; omega) (by rw [List.length_take]; omega) (by omega)
          rw [hA (P ++ (U ++ (V ++ S))), this, ← List.append_assoc (V.take (j - i)), List.take_append_drop]
  have w1 : w64 ((m : Int) - a) = ((U.length : Nat) : Int) := (w64_in _ (by omega)).trans (by omega)
  have w2 : w64 ((b : Int) - m) = ((V.length : Nat) : Int) := (w64_in _ (by omega)).trans (by omega)
  simp only [F_slices_rotateCmpFunc_impl_Row_at_impl_ReportTop_1, slices_rotateCmpFunc_impl_Row_at_impl_ReportTop_1.FF, slices_rotateCmpFunc_impl_Row_at_impl_ReportTop_1.T, w1, w2]
  refine key _ _ U V P S _ _ ?_ hL hu hv rfl rfl (by omega)
  simp only [List.length_append]
  omega
end Go.Rv
