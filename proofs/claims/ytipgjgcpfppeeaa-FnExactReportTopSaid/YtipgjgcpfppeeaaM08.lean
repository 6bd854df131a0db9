/- Plain facts: stable7. -/
import Derived.Test.YtipgjgcpfppeeaaM07
set_option linter.unusedVariables false
set_option linter.unusedSimpArgs false
set_option linter.unusedSectionVars false
namespace Go.Rv
/-! ### the whole sort: short blocks, then merges of twice the length -/
inductive Blks (b : Nat) : List W6 → Prop where
  | last (xs : List W6) : Srt xs → xs.length ≤ b → Blks b xs
  | more (u xs : List W6) : u.length = b → Srt u → Blks b xs → Blks b (u ++ xs)
theorem Blks.cut {b : Nat} {T : List W6} (h : Blks b T) (hb : b ≤ T.length) : ∃ u T', T = u ++ T' ∧ u.length = b ∧ Srt u ∧ Blks b T' := by
  cases h with
  | last xs h1 h2 => exact ⟨T, [], by simp, by omega, h1, .last _ srt_nil (by simp)⟩
  | more u xs h1 h2 h3 => exact ⟨u, xs, rfl, h1, h2, h3⟩
theorem Blks.short {b : Nat} {T : List W6} (h : Blks b T) (hb : T.length ≤ b) : Srt T := by
  cases h with
  | last xs h1 h2 => exact h1
  | more u xs h1 h2 h3 =>
    rw [List.length_append] at hb
    have : xs = [] := List.length_eq_zero_iff.1 (by omega)
    subst this
    rw [List.append_nil]
    exact h2
theorem smF (p u v r : List W6) (a m b : Nat) (h1 : 0 < u.length) (h2 : 0 < v.length) (hu : Srt u) (hv : Srt v) (ha : p.length = a) (hm : m = a + u.length) (hb : b = m + v.length) (hl : p.length + u.length + v.length + r.length ≤ 400) :
    ∃ w, Srt w ∧ Same keyR w (u ++ v) ∧ w.length = u.length + v.length ∧ F_slices_symMergeCmpFunc_impl_Row_at_impl_ReportTop_1 (p ++ (u ++ (v ++ r)), (a : Int), (m : Int), (b : Int), ()) = some (p ++ (w ++ r), ()) :=
  sm_ok (300 + (p ++ (u ++ (v ++ r))).length) p u v r a m b (by simp only [List.length_append]; omega) h1 h2 hu hv ha hm hb hl
theorem st0 (R : Type) (hx : Int → Int → Int → List W6 → Option R) (k0 n : Nat) (hn : n ≤ 400) : ∀ (k : Nat) (T D : List W6) (a : Nat), T.length < k → D.length = a → n = a + T.length →
    ∃ E T2, T2.length < 20 ∧ (E ++ T2).length = T.length ∧ Same keyR (E ++ T2) T ∧ (∀ T', Srt T' → T'.length = T2.length → Blks 20 (E ++ T')) ∧ slices_stableCmpFunc_impl_Row_at_impl_ReportTop_1.G0 k0 hx k (n : Int) 20 (a : Int) ((a + 20 : Nat) : Int) (D ++ T) = hx n 20 ((a + E.length : Nat) : Int) (D ++ (E ++ T2)) := by
  intro k
  induction k with
  | zero => intro T D a h; omega
  | succ k ih =>
    intro T D a hk hD hnT
    rw [slices_stableCmpFunc_impl_Row_at_impl_ReportTop_1.G0, slices_stableCmpFunc_impl_Row_at_impl_ReportTop_1.R0]
    by_cases h : 20 ≤ T.length
    · rw [decide_eq_true (by omega), cond_true]
      have hl : (T.take 20).length = 20 := by rw [List.length_take]; omega
      have hl2 : (T.drop 20).length = T.length - 20 := List.length_drop
      obtain ⟨w, w1, w2, w3, w4⟩ := is_ok D (T.take 20) (T.drop 20) a (a + 20) (by omega) hD (by omega)
      rw [List.take_append_drop] at w4
      rw [w4, Option.bind_some, w64_in _ (by omega), show ((a + 20 : Nat) : Int) + 20 = ((a + 20 + 20 : Nat) : Int) by omega, ← List.append_assoc]
      obtain ⟨E, T2, e1, e2, e3, e4, e5⟩ := ih (T.drop 20) (D ++ w) (a + 20) (by omega) (by rw [List.length_append]; omega) (by omega)
      refine ⟨w ++ E, T2, e1, by rw [List.append_assoc, List.length_append, e2]; omega, ?_, fun T' t1 t2 => ?_, ?_⟩
      · have := w2.app e3
        rw [List.take_append_drop] at this
        simpa using this
      · rw [List.append_assoc]
        exact .more w _ (by omega) w1 (e4 T' t1 t2)
      · rw [e5, List.length_append]
        simp only [List.append_assoc]
        congr 2
        omega
    · rw [decide_eq_false (by omega), cond_false]
      exact ⟨[], T, by omega, rfl, Same.refl _, fun T' t1 t2 => .last _ t1 (by simp only [List.nil_append]; omega), rfl⟩
theorem st2 (R : Type) (hx : Int → Int → Int → List W6 → Option R) (k0 n bs : Nat) (hn : n ≤ 400) (hbs : 0 < bs) (hbn : bs ≤ 400) : ∀ (k : Nat) (T D : List W6) (a : Nat), T.length < k → D.length = a → n = a + T.length → Blks bs T →
    ∃ E T2, T2.length < 2 * bs ∧ Blks bs T2 ∧ (E ++ T2).length = T.length ∧ Same keyR (E ++ T2) T ∧ (∀ T', Srt T' → T'.length = T2.length → Blks (2 * bs) (E ++ T')) ∧ slices_stableCmpFunc_impl_Row_at_impl_ReportTop_1.G2 k0 hx k (n : Int) (bs : Int) (a : Int) ((a + 2 * bs : Nat) : Int) (D ++ T) = hx n bs ((a + E.length : Nat) : Int) (D ++ (E ++ T2)) := by
  intro k
  induction k with
  | zero => intro T D a h; omega
  | succ k ih =>
    intro T D a hk hD hnT hB
    rw [slices_stableCmpFunc_impl_Row_at_impl_ReportTop_1.G2, slices_stableCmpFunc_impl_Row_at_impl_ReportTop_1.R2]
    by_cases h : 2 * bs ≤ T.length
    · rw [decide_eq_true (by omega), cond_true]
      obtain ⟨u, T1, rfl, hu, su, hB1⟩ := hB.cut (by omega)
      rw [List.length_append] at h hk hnT
      obtain ⟨v, T2, rfl, hv, sv, hB2⟩ := hB1.cut (by omega)
      rw [List.length_append] at h hk hnT
      obtain ⟨w, w1, w2, w3, w4⟩ := smF D u v T2 a (a + bs) (a + 2 * bs) (by omega) (by omega) su sv hD (by omega) (by omega) (by omega)
      rw [w64_in ((a : Int) + bs) (by omega), show ((a : Int) + bs) = ((a + bs : Nat) : Int) by omega, w4, Option.bind_some, w64_in (2 * (bs : Int)) (by omega), w64_in _ (by omega), show (((a + 2 * bs : Nat) : Int) + 2 * (bs : Int)) = ((a + 2 * bs + 2 * bs : Nat) : Int) by omega]
      obtain ⟨E, T3, e1, e0, e2, e3, e4, e5⟩ := ih T2 (D ++ w) (a + 2 * bs) (by omega) (by rw [List.length_append]; omega) (by omega) hB2
      refine ⟨w ++ E, T3, e1, e0, by rw [List.append_assoc, List.length_append, e2]; simp only [List.length_append]; omega, ?_, fun T' t1 t2 => ?_, ?_⟩
      · have := w2.app e3
        simpa using this
      · rw [List.append_assoc]
        exact .more w _ (by omega) w1 (e4 T' t1 t2)
      · rw [List.append_assoc D w T2] at e5
        refine Eq.trans e5 ?_
        rw [List.length_append]
        simp only [List.append_assoc]
        congr 2
        omega
    · rw [decide_eq_false (by omega), cond_false]
      exact ⟨[], T, by omega, hB, rfl, Same.refl _, fun T' t1 t2 => .last _ t1 (by simp only [List.nil_append]; omega), rfl⟩
theorem st1 (R : Type) (hx : List W6 → Option R) (k0 n : Nat) (hn : n ≤ 400) (hk0 : n < k0) : ∀ (k bs : Nat) (T : List W6), n - bs < k → 0 < bs → T.length = n → Blks bs T → ∃ w, Srt w ∧ Same keyR w T ∧ w.length = n ∧ slices_stableCmpFunc_impl_Row_at_impl_ReportTop_1.G1 k0 hx k (n : Int) (bs : Int) T = hx w := by
  intro k
  induction k with
  | zero => intro bs T h; omega
  | succ k ih =>
    intro bs T hk hbs hT hB
    rw [slices_stableCmpFunc_impl_Row_at_impl_ReportTop_1.G1, slices_stableCmpFunc_impl_Row_at_impl_ReportTop_1.R1]
    by_cases h : bs < n
    · rw [decide_eq_true (by omega), cond_true, w64_in _ (by omega)]
      obtain ⟨E, T2, e1, e0, e2, e3, e4, e5⟩ := st2 R (slices_stableCmpFunc_impl_Row_at_impl_ReportTop_1.A2 (slices_stableCmpFunc_impl_Row_at_impl_ReportTop_1.G1 k0 hx k)) k0 n bs hn hbs (by omega) k0 T [] 0 (by omega) rfl (by omega) hB
      rw [List.nil_append, List.nil_append, Nat.zero_add, Nat.zero_add] at e5
      rw [show ((2 : Int) * (bs : Int)) = ((2 * bs : Nat) : Int) by omega, show (0 : Int) = ((0 : Nat) : Int) from rfl, e5, slices_stableCmpFunc_impl_Row_at_impl_ReportTop_1.A2]
      rw [List.length_append] at e2
      rw [w64_in ((E.length : Int) + bs) (by omega), w64_in ((bs : Int) * 2) (by omega), show ((bs : Int) * 2) = ((2 * bs : Nat) : Int) by omega, show ((E.length : Int) + bs) = ((E.length + bs : Nat) : Int) by omega]
      by_cases h2 : bs < T2.length
      · rw [decide_eq_true (by omega), cond_true]
        obtain ⟨u, v, rfl, hu, su, hB2⟩ := e0.cut (by omega)
        rw [List.length_append] at h2 e1 e2
        obtain ⟨w, w1, w2, w3, w4⟩ := smF E u v [] E.length (E.length + bs) n (by omega) (by omega) su (hB2.short (by omega)) rfl (by omega) (by omega) (by simp only [List.length_nil]; omega)
        rw [List.append_nil, List.append_nil] at w4
        rw [w4, Option.bind_some]
        obtain ⟨z, z1, z2, z3, z4⟩ := ih (2 * bs) (E ++ w) (by omega) (by omega) (by rw [List.length_append]; omega) (e4 w w1 (by rw [List.length_append]; omega))
        exact ⟨z, z1, z2.trans (((Same.refl _).app w2).trans e3), z3, z4⟩
      · rw [decide_eq_false (by omega), cond_false]
        obtain ⟨z, z1, z2, z3, z4⟩ := ih (2 * bs) (E ++ T2) (by omega) (by omega) (by rw [List.length_append]; omega) (e4 T2 (e0.short (by omega)) rfl)
        exact ⟨z, z1, z2.trans e3, z3, z4⟩
    · rw [decide_eq_false (by omega), cond_false]
      exact ⟨T, hB.short (by omega), Same.refl _, hT, rfl⟩
theorem st_ok (T : List W6) (hn : T.length ≤ 400) : ∃ w, Srt w ∧ Same keyR w T ∧ w.length = T.length ∧ F_slices_stableCmpFunc_impl_Row_at_impl_ReportTop_1 (T, (T.length : Int), ()) = some (w, ()) := by
  show ∃ w, Srt w ∧ Same keyR w T ∧ w.length = T.length ∧ slices_stableCmpFunc_impl_Row_at_impl_ReportTop_1.FF (300 + T.length) T (T.length : Int) = some (w, ())
  rw [slices_stableCmpFunc_impl_Row_at_impl_ReportTop_1.FF, slices_stableCmpFunc_impl_Row_at_impl_ReportTop_1.T]
  obtain ⟨E, T2, e1, e2, e3, e4, e5⟩ := st0 _ (slices_stableCmpFunc_impl_Row_at_impl_ReportTop_1.A0 (slices_stableCmpFunc_impl_Row_at_impl_ReportTop_1.G1 (300 + T.length) (slices_stableCmpFunc_impl_Row_at_impl_ReportTop_1.A1 T (T.length : Int)) (300 + T.length)) T (T.length : Int)) (300 + T.length) T.length hn (300 + T.length) T [] 0 (by omega) rfl (by omega)
  rw [List.nil_append, List.nil_append, Nat.zero_add, Nat.zero_add] at e5
  rw [List.length_append] at e2
  rw [show (0 : Int) = ((0 : Nat) : Int) from rfl, show (20 : Int) = ((20 : Nat) : Int) from rfl] at *
  rw [e5, slices_stableCmpFunc_impl_Row_at_impl_ReportTop_1.A0]
  obtain ⟨w, w1, w2, w3, w4⟩ := is_ok E T2 [] E.length T.length (by simp only [List.length_nil]; omega) rfl (by omega)
  rw [List.append_nil, List.append_nil] at w4
  rw [w4, Option.bind_some]
  obtain ⟨z, z1, z2, z3, z4⟩ := st1 _ (slices_stableCmpFunc_impl_Row_at_impl_ReportTop_1.A1 T (T.length : Int)) (300 + T.length) T.length hn (by omega) (300 + T.length) 20 (E ++ w) (by omega) (by omega) (by rw [List.length_append]; omega) (e4 w w1 w3)
  exact ⟨z, z1, z2.trans (((Same.refl _).app w2).trans e3), z3, z4⟩
end Go.Rv
