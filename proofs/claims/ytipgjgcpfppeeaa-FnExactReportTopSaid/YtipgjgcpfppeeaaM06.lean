/- Plain facts: stable5. -/
import Derived.Test.YtipgjgcpfppeeaaM05
set_option linter.unusedVariables false
set_option linter.unusedSimpArgs false
set_option linter.unusedSectionVars false
namespace Go.Rv
theorem G2_ok (rc : RC) (R : Type) (k0 : Nat) (hx : Int → Int → Int → Int → Int → Int → List W6 → Option R) (a m b mid n : Int) (D : List W6) (N lo hi : Nat) (hN : N ≤ 900) (hD : D.length ≤ 400) (hlh : lo ≤ hi) (hb : ∀ c, lo ≤ c → c < hi → c ≤ N ∧ N - c < D.length ∧ c < D.length) (k : Nat) (hk : hi - lo < k) :
    ∃ s, lo ≤ s ∧ s ≤ hi ∧ (s = lo ∨ ¬ ltR (D.getD (N - (s - 1)) z6) (D.getD (s - 1) z6)) ∧ (s = hi ∨ ltR (D.getD (N - s) z6) (D.getD s z6)) ∧ slices_symMergeCmpFunc_impl_Row_at_impl_ReportTop_1.G2 rc k0 hx k a m b mid n (lo : Int) (hi : Int) (N : Int) D = hx a m b mid n s D := by
  obtain ⟨s, h1, h2, h3, h4, h5⟩ := bsearch lo hi (fun c => ¬ ltR (D.getD (N - c) z6) (D.getD c z6)) (fun k i j => slices_symMergeCmpFunc_impl_Row_at_impl_ReportTop_1.G2 rc k0 hx k a m b mid n (i : Int) (j : Int) (N : Int) D) (fun s => hx a m b mid n (s : Int) D) (fun k i j hi hij hj => by
      obtain ⟨g1, g2, g3⟩ := hb ((i + j) / 2) (by omega) (by omega)
      have hw : w64 ((N : Int) - (((i + j) / 2 : Nat) : Int)) = ((N - (i + j) / 2 : Nat) : Int) := (w64_in _ (by omega)).trans (by omega)
      obtain ⟨c, hc1, hc2⟩ := cmpR (D.getD (N - (i + j) / 2) z6) (D.getD ((i + j) / 2) z6)
      have e : slices_symMergeCmpFunc_impl_Row_at_impl_ReportTop_1.G2 rc k0 hx (k + 1) a m b mid n (i : Int) (j : Int) (N : Int) D = cond (!(bb (ltR (D.getD (N - (i + j) / 2) z6) (D.getD ((i + j) / 2) z6)))) (slices_symMergeCmpFunc_impl_Row_at_impl_ReportTop_1.G2 rc k0 hx k a m b mid n (((i + j) / 2 + 1 : Nat) : Int) (j : Int) (N : Int) D) (slices_symMergeCmpFunc_impl_Row_at_impl_ReportTop_1.G2 rc k0 hx k a m b mid n (i : Int) (((i + j) / 2 : Nat) : Int) (N : Int) D) := by
        rw [slices_symMergeCmpFunc_impl_Row_at_impl_ReportTop_1.G2, slices_symMergeCmpFunc_impl_Row_at_impl_ReportTop_1.R2, halfI i j (by omega), hw]
        simp only [Int.toNat_natCast]
        rw [hc1, Option.bind_some, hc2, w64_in _ (by omega), decide_eq_true (by omega), cond_true, if_pos (by omega), if_pos (by omega)]
        rfl
      constructor
      · intro hp
        show slices_symMergeCmpFunc_impl_Row_at_impl_ReportTop_1.G2 rc k0 hx (k + 1) a m b mid n (i : Int) (j : Int) (N : Int) D = _
        rw [e, bb_neg hp]; rfl
      · intro hp
        show slices_symMergeCmpFunc_impl_Row_at_impl_ReportTop_1.G2 rc k0 hx (k + 1) a m b mid n (i : Int) (j : Int) (N : Int) D = _
        rw [e, bb_true (Classical.not_not.1 hp)]; rfl) (fun k i _ _ => by
      show slices_symMergeCmpFunc_impl_Row_at_impl_ReportTop_1.G2 rc k0 hx (k + 1) a m b mid n (i : Int) (i : Int) (N : Int) D = _
      rw [slices_symMergeCmpFunc_impl_Row_at_impl_ReportTop_1.G2, slices_symMergeCmpFunc_impl_Row_at_impl_ReportTop_1.R2, decide_eq_false (by omega), cond_false]) k lo hi hlh (Nat.le_refl _) (Nat.le_refl _) hk (Or.inl rfl) (Or.inl rfl)
  exact ⟨s, h1, h2, h3, h4.imp id Classical.not_not.1, h5⟩
theorem G0_ok (rc : RC) (R : Type) (k0 : Nat) (hx : Int → Int → List W6 → Option R) (a : Nat) (D : List W6) (lo hi : Nat) (hD : D.length ≤ 400) (hlh : lo ≤ hi) (hh : hi ≤ D.length) (ha : a < D.length) (k : Nat) (hk : hi - lo < k) :
    ∃ s, lo ≤ s ∧ s ≤ hi ∧ (s = lo ∨ ltR (D.getD (s - 1) z6) (D.getD a z6)) ∧ (s = hi ∨ ¬ ltR (D.getD s z6) (D.getD a z6)) ∧ slices_symMergeCmpFunc_impl_Row_at_impl_ReportTop_1.G0 rc k0 hx k (a : Int) (lo : Int) (hi : Int) D = hx a s D :=
  bsearch lo hi (fun c => ltR (D.getD c z6) (D.getD a z6)) (fun k i j => slices_symMergeCmpFunc_impl_Row_at_impl_ReportTop_1.G0 rc k0 hx k (a : Int) (i : Int) (j : Int) D) (fun s => hx (a : Int) (s : Int) D) (fun k i j hi hij hj => by
      obtain ⟨c, hc1, hc2⟩ := cmpR (D.getD ((i + j) / 2) z6) (D.getD a z6)
      have e : slices_symMergeCmpFunc_impl_Row_at_impl_ReportTop_1.G0 rc k0 hx (k + 1) (a : Int) (i : Int) (j : Int) D = cond (bb (ltR (D.getD ((i + j) / 2) z6) (D.getD a z6))) (slices_symMergeCmpFunc_impl_Row_at_impl_ReportTop_1.G0 rc k0 hx k (a : Int) (((i + j) / 2 + 1 : Nat) : Int) (j : Int) D) (slices_symMergeCmpFunc_impl_Row_at_impl_ReportTop_1.G0 rc k0 hx k (a : Int) (i : Int) (((i + j) / 2 : Nat) : Int) D) := by
        rw [slices_symMergeCmpFunc_impl_Row_at_impl_ReportTop_1.G0, slices_symMergeCmpFunc_impl_Row_at_impl_ReportTop_1.R0, halfI i j (by omega)]
        simp only [Int.toNat_natCast]
        rw [hc1, Option.bind_some, hc2, w64_in _ (by omega), decide_eq_true (by omega), cond_true, if_pos (by omega), if_pos (by omega)]
        rfl
      constructor
      · intro hp
        show slices_symMergeCmpFunc_impl_Row_at_impl_ReportTop_1.G0 rc k0 hx (k + 1) (a : Int) (i : Int) (j : Int) D = _
        rw [e, bb_true hp]; rfl
      · intro hp
        show slices_symMergeCmpFunc_impl_Row_at_impl_ReportTop_1.G0 rc k0 hx (k + 1) (a : Int) (i : Int) (j : Int) D = _
        rw [e, bb_neg hp]; rfl) (fun k i _ _ => by
      show slices_symMergeCmpFunc_impl_Row_at_impl_ReportTop_1.G0 rc k0 hx (k + 1) (a : Int) (i : Int) (i : Int) D = _
      rw [slices_symMergeCmpFunc_impl_Row_at_impl_ReportTop_1.G0, slices_symMergeCmpFunc_impl_Row_at_impl_ReportTop_1.R0, decide_eq_false (by omega), cond_false]) k lo hi hlh (Nat.le_refl _) (Nat.le_refl _) hk (Or.inl rfl) (Or.inl rfl)
theorem G1_ok (rc : RC) (R : Type) (k0 : Nat) (hx : Int → Int → List W6 → Option R) (m : Nat) (D : List W6) (lo hi : Nat) (hD : D.length ≤ 400) (hlh : lo ≤ hi) (hh : hi ≤ D.length) (ha : m < D.length) (k : Nat) (hk : hi - lo < k) :
    ∃ s, lo ≤ s ∧ s ≤ hi ∧ (s = lo ∨ ¬ ltR (D.getD m z6) (D.getD (s - 1) z6)) ∧ (s = hi ∨ ltR (D.getD m z6) (D.getD s z6)) ∧ slices_symMergeCmpFunc_impl_Row_at_impl_ReportTop_1.G1 rc k0 hx k (m : Int) (lo : Int) (hi : Int) D = hx m s D := by
  obtain ⟨s, h1, h2, h3, h4, h5⟩ := bsearch lo hi (fun c => ¬ ltR (D.getD m z6) (D.getD c z6)) (fun k i j => slices_symMergeCmpFunc_impl_Row_at_impl_ReportTop_1.G1 rc k0 hx k (m : Int) (i : Int) (j : Int) D) (fun s => hx (m : Int) (s : Int) D) (fun k i j hi hij hj => by
      obtain ⟨c, hc1, hc2⟩ := cmpR (D.getD m z6) (D.getD ((i + j) / 2) z6)
      have e : slices_symMergeCmpFunc_impl_Row_at_impl_ReportTop_1.G1 rc k0 hx (k + 1) (m : Int) (i : Int) (j : Int) D = cond (!(bb (ltR (D.getD m z6) (D.getD ((i + j) / 2) z6)))) (slices_symMergeCmpFunc_impl_Row_at_impl_ReportTop_1.G1 rc k0 hx k (m : Int) (((i + j) / 2 + 1 : Nat) : Int) (j : Int) D) (slices_symMergeCmpFunc_impl_Row_at_impl_ReportTop_1.G1 rc k0 hx k (m : Int) (i : Int) (((i + j) / 2 : Nat) : Int) D) := by
        rw [slices_symMergeCmpFunc_impl_Row_at_impl_ReportTop_1.G1, slices_symMergeCmpFunc_impl_Row_at_impl_ReportTop_1.R1, halfI i j (by omega)]
        simp only [Int.toNat_natCast]
        rw [hc1, Option.bind_some, hc2, w64_in _ (by omega), decide_eq_true (by omega), cond_true, if_pos (by omega), if_pos (by omega)]
        rfl
      constructor
      · intro hp
        show slices_symMergeCmpFunc_impl_Row_at_impl_ReportTop_1.G1 rc k0 hx (k + 1) (m : Int) (i : Int) (j : Int) D = _
        rw [e, bb_neg hp]; rfl
      · intro hp
        show slices_symMergeCmpFunc_impl_Row_at_impl_ReportTop_1.G1 rc k0 hx (k + 1) (m : Int) (i : Int) (j : Int) D = _
        rw [e, bb_true (Classical.not_not.1 hp)]; rfl) (fun k i _ _ => by
      show slices_symMergeCmpFunc_impl_Row_at_impl_ReportTop_1.G1 rc k0 hx (k + 1) (m : Int) (i : Int) (i : Int) D = _
      rw [slices_symMergeCmpFunc_impl_Row_at_impl_ReportTop_1.G1, slices_symMergeCmpFunc_impl_Row_at_impl_ReportTop_1.R1, decide_eq_false (by omega), cond_false]) k lo hi hlh (Nat.le_refl _) (Nat.le_refl _) hk (Or.inl rfl) (Or.inl rfl)
  exact ⟨s, h1, h2, h3, h4.imp id Classical.not_not.1, h5⟩
end Go.Rv
