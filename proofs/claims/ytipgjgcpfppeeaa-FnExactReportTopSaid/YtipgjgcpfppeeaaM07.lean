/- Plain facts: stable6. -/
import Derived.Test.YtipgjgcpfppeeaaM06
set_option linter.unusedVariables false
set_option linter.unusedSimpArgs false
set_option linter.unusedSectionVars false
namespace Go.Rv
theorem take_drop_app {α : Type} (P U T : List α) (k : Nat) : P ++ (U ++ T) = P ++ (U.take k ++ (U.drop k ++ T)) := by rw [← List.append_assoc (U.take k), List.take_append_drop]
theorem sm_ok : ∀ (N : Nat) (p u v r : List W6) (a m b : Nat), u.length + v.length < N → 0 < u.length → 0 < v.length → Srt u → Srt v → p.length = a → m = a + u.length → b = m + v.length → p.length + u.length + v.length + r.length ≤ 400 →
      ∃ w, Srt w ∧ Same keyR w (u ++ v) ∧ w.length = u.length + v.length ∧ FR_slices_symMergeCmpFunc_impl_Row_at_impl_ReportTop_1 N (p ++ (u ++ (v ++ r)), (a : Int), (m : Int), (b : Int), ()) = some (p ++ (w ++ r), ()) := by
  intro N
  induction N with
  | zero => intro p u v r a m b h; omega
  | succ N ih =>
    intro p u v r a m b hN hu0 hv0 hu hv hp hm hb hl
    have hD : (p ++ (u ++ (v ++ r))).length ≤ 400 := by simp only [List.length_append]; omega
    have hDe : (p ++ (u ++ (v ++ r))).length = b + r.length := by simp only [List.length_append]; omega
    show ∃ w, Srt w ∧ Same keyR w (u ++ v) ∧ w.length = u.length + v.length ∧ slices_symMergeCmpFunc_impl_Row_at_impl_ReportTop_1.FF (FR_slices_symMergeCmpFunc_impl_Row_at_impl_ReportTop_1 N) (300 + (p ++ (u ++ (v ++ r))).length) (p ++ (u ++ (v ++ r))) (a : Int) (m : Int) (b : Int) = some (p ++ (w ++ r), ())
    rw [slices_symMergeCmpFunc_impl_Row_at_impl_ReportTop_1.FF, slices_symMergeCmpFunc_impl_Row_at_impl_ReportTop_1.T]
    by_cases h1 : u.length = 1
    · rw [show (w64 ((m : Int) - a) == 1) = true by rw [w64_in _ (by omega)]; simp; omega, cond_true]
      obtain ⟨x, rfl⟩ : ∃ x, u = [x] := List.length_eq_one_iff.1 h1
      obtain ⟨s, k1, k2, k3, k4, k5⟩ := G0_ok (FR_slices_symMergeCmpFunc_impl_Row_at_impl_ReportTop_1 N) _ (300 + (p ++ ([x] ++ (v ++ r))).length) (slices_symMergeCmpFunc_impl_Row_at_impl_ReportTop_1.A0 (FR_slices_symMergeCmpFunc_impl_Row_at_impl_ReportTop_1 N) (slices_symMergeCmpFunc_impl_Row_at_impl_ReportTop_1.G3 (FR_slices_symMergeCmpFunc_impl_Row_at_impl_ReportTop_1 N) (300 + (p ++ ([x] ++ (v ++ r))).length) (slices_symMergeCmpFunc_impl_Row_at_impl_ReportTop_1.A3 (FR_slices_symMergeCmpFunc_impl_Row_at_impl_ReportTop_1 N) (p ++ ([x] ++ (v ++ r))) (a : Int) (m : Int) (b : Int)) (300 + (p ++ ([x] ++ (v ++ r))).length)) (p ++ ([x] ++ (v ++ r))) (a : Int) (m : Int) (b : Int)) a (p ++ ([x] ++ (v ++ r))) m b hD (by omega) (by omega) (by omega) (300 + (p ++ ([x] ++ (v ++ r))).length) (by omega)
      rw [k5, slices_symMergeCmpFunc_impl_Row_at_impl_ReportTop_1.A0]
      have hx : (p ++ ([x] ++ (v ++ r))).getD a z6 = x := at1 p _ x _ _ hp.symm
      rw [hx] at k3 k4
      have rd : ∀ i, i < v.length → (p ++ ([x] ++ (v ++ r))).getD (m + i) z6 = v.getD i z6 := fun i hi => at_mid2 p [x] v r z6 (m + i) i (by omega) hi
      have hlt : (v.take (s - m)).length = s - m := by rw [List.length_take]; omega
      have eD : p ++ ([x] ++ (v ++ r)) = p ++ x :: (v.take (s - m) ++ (v.drop (s - m) ++ r)) := by rw [← List.append_assoc (v.take _), List.take_append_drop]; rfl
      have hDe2 : (p ++ x :: (v.take (s - m) ++ (v.drop (s - m) ++ r))).length = b + r.length := by rw [← eD]; exact hDe
      rw [eD]
      rw [rt_ok (FR_slices_symMergeCmpFunc_impl_Row_at_impl_ReportTop_1 N) _ _ _ x _ (v.take (s - m)) p (v.drop (s - m) ++ r) s a (by omega) hp (by omega) (by rw [List.length_append, List.length_drop, hlt]; omega)]
      have hsv : Srt (v.take (s - m) ++ v.drop (s - m)) := by rw [List.take_append_drop]; exact hv
      obtain ⟨q1, q2⟩ := merge_parts (a1 := []) (a2 := [x]) ltK_irr ltK_tr ltK_tri (srt_one x) hsv (fun x' y h => by cases h) (fun x' y h1 h2 => by
        cases h1
        obtain ⟨g1, g2⟩ := last_take z6 (by omega) h2
        rcases k3 with k3 | k3
        · omega
        · rw [show s - 1 = m + (s - m - 1) by omega, rd _ (by omega), ← g2] at k3
          exact k3)
      obtain ⟨_, sv2, _⟩ := List.pairwise_append.1 hsv
      refine ⟨v.take (s - m) ++ x :: v.drop (s - m), sorted_app (List.pairwise_append.1 hsv).1 (List.pairwise_cons.2 ⟨fun y hy => ?_, sv2⟩) q1, ?_, by simp; omega, by simp [slices_symMergeCmpFunc_impl_Row_at_impl_ReportTop_1.A3]⟩
      · rcases hh : (v.drop (s - m)).head? with _ | y0
        · rw [List.head?_eq_none_iff] at hh; rw [hh] at hy; cases hy
        · obtain ⟨g1, g2⟩ := head_drop z6 hh
          have hy0 : ¬ ltR y0 x := by
            rcases k4 with k4 | k4
            · omega
            · rw [show s = m + (s - m) by omega, rd _ (by omega), ← g2] at k4
              exact k4
          cases hdd : v.drop (s - m) with
          | nil => rw [hdd] at hh; cases hh
          | cons y1 t =>
            rw [hdd] at hh hy sv2
            cases hh
            rcases List.mem_cons.1 hy with rfl | hy
            · exact hy0
            · exact le_trans' _ _ _ hy0 ((List.pairwise_cons.1 sv2).1 y hy)
      · have := q2.symm
        simpa using this
    · rw [show (w64 ((m : Int) - a) == 1) = false by rw [w64_in _ (by omega)]; simp; omega, cond_false]
      by_cases h2 : v.length = 1
      · rw [show (w64 ((b : Int) - m) == 1) = true by rw [w64_in _ (by omega)]; simp; omega, cond_true]
        obtain ⟨x, rfl⟩ : ∃ x, v = [x] := List.length_eq_one_iff.1 h2
        obtain ⟨s, k1, k2, k3, k4, k5⟩ := G1_ok (FR_slices_symMergeCmpFunc_impl_Row_at_impl_ReportTop_1 N) _ (300 + (p ++ (u ++ ([x] ++ r))).length) (slices_symMergeCmpFunc_impl_Row_at_impl_ReportTop_1.A1 (FR_slices_symMergeCmpFunc_impl_Row_at_impl_ReportTop_1 N) (slices_symMergeCmpFunc_impl_Row_at_impl_ReportTop_1.G4 (FR_slices_symMergeCmpFunc_impl_Row_at_impl_ReportTop_1 N) (300 + (p ++ (u ++ ([x] ++ r))).length) (slices_symMergeCmpFunc_impl_Row_at_impl_ReportTop_1.A4 (FR_slices_symMergeCmpFunc_impl_Row_at_impl_ReportTop_1 N) (p ++ (u ++ ([x] ++ r))) (a : Int) (m : Int) (b : Int)) (300 + (p ++ (u ++ ([x] ++ r))).length)) (p ++ (u ++ ([x] ++ r))) (a : Int) (m : Int) (b : Int)) m (p ++ (u ++ ([x] ++ r))) a m hD (by omega) (by omega) (by omega) (300 + (p ++ (u ++ ([x] ++ r))).length) (by omega)
        rw [k5, slices_symMergeCmpFunc_impl_Row_at_impl_ReportTop_1.A1]
        have hx : (p ++ (u ++ ([x] ++ r))).getD m z6 = x := by rw [← List.append_assoc]; exact at1 (p ++ u) _ x _ _ (by rw [List.length_append]; omega)
        rw [hx] at k3 k4
        have rd : ∀ i, i < u.length → (p ++ (u ++ ([x] ++ r))).getD (a + i) z6 = u.getD i z6 := fun i hi => at_mid p u _ z6 (a + i) i (by omega) hi
        have hlt : (u.take (s - a)).length = s - a := by rw [List.length_take]; omega
        have eD : p ++ (u ++ ([x] ++ r)) = (p ++ u.take (s - a)) ++ (u.drop (s - a) ++ x :: r) := by rw [List.append_assoc, ← List.append_assoc (u.take _), List.take_append_drop]; rfl
        have hDe2 : ((p ++ u.take (s - a)) ++ (u.drop (s - a) ++ x :: r)).length = b + r.length := by rw [← eD]; exact hDe
        rw [eD]
        rw [lf_ok (FR_slices_symMergeCmpFunc_impl_Row_at_impl_ReportTop_1 N) _ _ _ x _ (u.drop (s - a)) (p ++ u.take (s - a)) r s m (by rw [List.length_drop]; omega) (by rw [List.length_append]; omega) (by rw [List.length_drop]; omega) (by rw [List.length_append, List.length_drop, hlt]; omega)]
        have hu' : Srt (u.take (s - a) ++ u.drop (s - a)) := by rw [List.take_append_drop]; exact hu
        have hins := ins_ok (x := x) (p := s - a) ltK_irr ltK_tr ltK_tri hu (fun y hy => by
          rcases h1 : (u.take (s - a)).getLast? with _ | z
          · rw [List.getLast?_eq_none_iff] at h1; rw [h1] at hy; cases hy
          · obtain ⟨g1, g2⟩ := last_take z6 (by omega) h1
            refine le_trans' _ _ _ (srt_le (List.pairwise_append.1 hu').1 h1 hy) ?_
            rcases k3 with k3 | k3
            · omega
            · rw [show s - 1 = a + (s - a - 1) by omega, rd _ (by omega), ← g2] at k3
              exact k3) (fun y hy => by
          obtain ⟨g1, g2⟩ := head_drop z6 hy
          rcases k4 with k4 | k4
          · omega
          · rw [show s = a + (s - a) by omega, rd _ (by omega), ← g2] at k4
            exact k4)
        exact ⟨u.take (s - a) ++ x :: u.drop (s - a), hins.1, hins.2, by simp; omega, by simp [slices_symMergeCmpFunc_impl_Row_at_impl_ReportTop_1.A4]⟩
      · rw [show (w64 ((b : Int) - m) == 1) = false by rw [w64_in _ (by omega)]; simp; omega, cond_false]
        have hD' := hD
        rw [halfI a b (by omega)]
        have hmid1 : a < (a + b) / 2 := by omega
        have hmid2 : (a + b) / 2 < b := by omega
        have hmid3 : 2 * ((a + b) / 2) ≤ a + b := by omega
        have hmid4 : a + b ≤ 2 * ((a + b) / 2) + 1 := by omega
        generalize (a + b) / 2 = mid at hmid1 hmid2 hmid3 hmid4
        have w1 : w64 ((mid : Int) + m) = ((mid + m : Nat) : Int) := w64_in _ (by omega)
        have w2 : w64 (((mid + m : Nat) : Int) - 1) = ((mid + m - 1 : Nat) : Int) := (w64_in _ (by omega)).trans (by omega)
        rw [w1, w2]
        have go : ∀ lo hi : Nat, a ≤ lo → lo ≤ hi → hi ≤ mid → hi ≤ m → mid + m ≤ lo + b → (lo = a ∨ mid + m = lo + b) → (hi = m ∨ hi = mid) → 
            ∃ w, Srt w ∧ Same keyR w (u ++ v) ∧ w.length = u.length + v.length ∧ slices_symMergeCmpFunc_impl_Row_at_impl_ReportTop_1.G2 (FR_slices_symMergeCmpFunc_impl_Row_at_impl_ReportTop_1 N) (300 + (p ++ (u ++ (v ++ r))).length) (slices_symMergeCmpFunc_impl_Row_at_impl_ReportTop_1.A2 (FR_slices_symMergeCmpFunc_impl_Row_at_impl_ReportTop_1 N) (p ++ (u ++ (v ++ r))) (a : Int) (m : Int) (b : Int)) (300 + (p ++ (u ++ (v ++ r))).length) (a : Int) (m : Int) (b : Int) (mid : Int) ((mid + m : Nat) : Int) (lo : Int) (hi : Int) ((mid + m - 1 : Nat) : Int) (p ++ (u ++ (v ++ r))) = some (p ++ (w ++ r), ()) := by
          intro lo hi ha hlh h1 h2 h3 h4 h5
          obtain ⟨s, k1, k2, k3, k4, k5⟩ := G2_ok (FR_slices_symMergeCmpFunc_impl_Row_at_impl_ReportTop_1 N) _ (300 + (p ++ (u ++ (v ++ r))).length) (slices_symMergeCmpFunc_impl_Row_at_impl_ReportTop_1.A2 (FR_slices_symMergeCmpFunc_impl_Row_at_impl_ReportTop_1 N) (p ++ (u ++ (v ++ r))) (a : Int) (m : Int) (b : Int)) (a : Int) (m : Int) (b : Int) (mid : Int) ((mid + m : Nat) : Int) (p ++ (u ++ (v ++ r))) (mid + m - 1) lo hi (by omega) hD hlh (fun c g1 g2 => by omega) (300 + (p ++ (u ++ (v ++ r))).length) (by omega)
          rw [k5]
          have hsu : Srt (u.take (s - a) ++ u.drop (s - a)) := by rw [List.take_append_drop]; exact hu
          have hsv : Srt (v.take (mid - s) ++ v.drop (mid - s)) := by rw [List.take_append_drop]; exact hv
          have l1 : (u.take (s - a)).length = s - a := by rw [List.length_take]; omega
          have l2 : (u.drop (s - a)).length = m - s := by rw [List.length_drop]; omega
          have l3 : (v.take (mid - s)).length = mid - s := by rw [List.length_take]; omega
          have l4 : (v.drop (mid - s)).length = b - m - (mid - s) := by rw [List.length_drop]; omega
          have ru : ∀ i, i < u.length → (p ++ (u ++ (v ++ r))).getD (a + i) z6 = u.getD i z6 := fun i hi => at_mid p u _ z6 (a + i) i (by omega) hi
          have rv : ∀ i, i < v.length → (p ++ (u ++ (v ++ r))).getD (m + i) z6 = v.getD i z6 := fun i hi => at_mid2 p u v r z6 (m + i) i (by omega) hi
          obtain ⟨w, x1, x2, x3, x4⟩ := fin_ok ih (p ++ (u ++ (v ++ r))) p (u.take (s - a)) (u.drop (s - a)) (v.take (mid - s)) (v.drop (mid - s)) r a m b mid s (a : Int) (m : Int) (b : Int) (by omega) (by omega) hsu hsv hp (by omega) (by omega) (by omega) (by omega) (by omega) (fun x y g1 g2 => by
            obtain ⟨f1, f2⟩ := last_take z6 (by omega) g1
            obtain ⟨f3, f4⟩ := head_drop z6 g2
            rcases k3 with k3 | k3
            · omega
            · rw [show mid + m - 1 - (s - 1) = m + (mid - s) by omega, show s - 1 = a + (s - a - 1) by omega, rv _ (by omega), ru _ (by omega), ← f2, ← f4] at k3
              exact k3) (fun x y g1 g2 => by
            obtain ⟨f1, f2⟩ := last_take z6 (by omega) g2
            obtain ⟨f3, f4⟩ := head_drop z6 g1
            rcases k4 with k4 | k4
            · omega
            · rw [show mid + m - 1 - s = m + (mid - s - 1) by omega, rv _ (by omega), ← f2, show (p ++ (u ++ (v ++ r))).getD s z6 = u.getD (s - a) z6 by rw [← ru _ f3]; congr 1; omega, ← f4] at k4
              exact k4)
          rw [List.take_append_drop, List.take_append_drop] at x2 x4
          exact ⟨w, x1, x2, by rw [x3, l1, l2, l3, l4]; omega, x4⟩
        by_cases hmm : mid < m
        · rw [decide_eq_true (by omega), cond_true, show w64 (((mid + m : Nat) : Int) - b) = ((mid + m - b : Nat) : Int) from (w64_in _ (by omega)).trans (by omega)]
          exact go (mid + m - b) mid (by omega) (by omega) (by omega) (by omega) (by omega) (by omega) (by omega)
        · rw [decide_eq_false (by omega), cond_false]
          exact go a m (by omega) (by omega) (by omega) (by omega) (by omega) (by omega) (by omega)
end Go.Rv
