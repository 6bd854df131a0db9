/- Plain facts: FarmShares. -/
import Derived.Test.YtnebddbibpbloaaGreatM19
set_option linter.unusedVariables false
set_option linter.unusedSimpArgs false
set_option linter.unusedSectionVars false
namespace Go.Rv
theorem pr_range (l : List I4) (A : List (Int × Unit)) : pr l A = (List.range A.length).map fun j => ((g4 l j).1, fI A j, ()) := by
  apply List.ext_getElem
  · simp [pr]
  · intro i h1 h2
    have hi : i < A.length := by simpa [pr] using h1
    simp [pr, fI, List.getD_eq_getElem?_getD, hi]
theorem sharesEq (c : Int) (l m : List I4) (hl : l.length ≤ 1048576) (hm : m.length ≤ 1048576) :
    ∃ Y, F_spec_FarmShares (c, l, m, ()) = some (Y, ()) ∧ F_impl_FarmShares (c, l, m, ()) = some (Y, ()) ∧ Y.length ≤ 1048576 := by
  simp only [F_spec_FarmShares, spec_FarmShares.FF, spec_FarmShares.T, F_impl_FarmShares, impl_FarmShares.T, specFarm c l m hl hm, implFarm c l m hl hm, Option.bind_some]
  by_cases h : farmP c l m
  · rw [bb_true h]
    simp only [Bool.not_true, cond_false]
    obtain ⟨F, hF, hW, hA⟩ := specAll h
    obtain ⟨h1, h2, h3⟩ := stA_ok h F hF l.length
    rw [hA, implShares h F hF hW]
    simp only [Option.bind_some]
    refine ⟨pr m (stA c l m F l.length).2, ?_, rfl, by rw [pr_len, h2]; exact hm⟩
    have hm2 := h.2.2.1
    rw [pr_range, h2]
    refine run 0 m.length (fun k i => spec_FarmShares.G0 (300 + l.length + m.length) (spec_FarmShares.A0 c l m) k (i : Nat) c l m ((List.range i).map fun j => ((g4 m j).1, fI (stA c l m F l.length).2 j, ())) (stA c l m F l.length).2) _ (fun k i _ hi => ?_) (fun k => ?_) _ (by omega) (by omega)
    · show spec_FarmShares.G0 _ _ (k + 1) (i : Nat) c l m _ _ = spec_FarmShares.G0 _ _ k ((i + 1 : Nat) : Int) c l m ((List.range (i + 1)).map _) _
      simp only [spec_FarmShares.G0, spec_FarmShares.R0, rd_cast, Int.toNat_natCast]
      rw [decide_eq_true (by omega), cond_true, if_pos (by omega), if_pos (by omega), if_pos (by simp only [List.length_map, List.length_range, List.length_cons, List.length_nil, maxRow]; omega), w64_in _ (by omega), List.range_succ, List.map_append]
      rfl
    · simp only [spec_FarmShares.G0, spec_FarmShares.R0]
      rw [decide_eq_false (by omega), cond_false]
      rfl
  · rw [bb_neg h]
    exact ⟨[], rfl, rfl, by simp⟩
theorem groupsEq (c : Int) (l m : List I4) (hl : l.length ≤ 1048576) (hm : m.length ≤ 1048576) :
    ∃ Y, F_spec_FarmGroups (c, l, m, ()) = some (Y, ()) ∧ F_impl_FarmGroups (c, l, m, ()) = some (Y, ()) ∧ Y.length ≤ 1048576 := by
  simp only [F_spec_FarmGroups, spec_FarmGroups.FF, spec_FarmGroups.T, F_impl_FarmGroups, impl_FarmGroups.T, specFarm c l m hl hm, implFarm c l m hl hm, Option.bind_some]
  by_cases h : farmP c l m
  · rw [bb_true h]
    simp only [Bool.not_true, cond_false]
    obtain ⟨F, hF, hW, hA⟩ := specAll h
    obtain ⟨h1, h2, h3⟩ := stA_ok h F hF l.length
    rw [hA, implShares h F hF hW]
    simp only [Option.bind_some]
    refine ⟨pr l (stA c l m F l.length).1, ?_, rfl, by rw [pr_len, h1]; exact hl⟩
    have hl2 := h.2.1
    rw [pr_range, h1]
    refine run 0 l.length (fun k i => spec_FarmGroups.G0 (300 + l.length + m.length) (spec_FarmGroups.A0 c l m) k (i : Nat) c l m ((List.range i).map fun j => ((g4 l j).1, fI (stA c l m F l.length).1 j, ())) (stA c l m F l.length).1) _ (fun k i _ hi => ?_) (fun k => ?_) _ (by omega) (by omega)
    · show spec_FarmGroups.G0 _ _ (k + 1) (i : Nat) c l m _ _ = spec_FarmGroups.G0 _ _ k ((i + 1 : Nat) : Int) c l m ((List.range (i + 1)).map _) _
      simp only [spec_FarmGroups.G0, spec_FarmGroups.R0, rd_cast, Int.toNat_natCast]
      rw [decide_eq_true (by omega), cond_true, if_pos (by omega), if_pos (by omega), if_pos (by simp only [List.length_map, List.length_range, List.length_cons, List.length_nil, maxRow]; omega), w64_in _ (by omega), List.range_succ, List.map_append]
      rfl
    · simp only [spec_FarmGroups.G0, spec_FarmGroups.R0]
      rw [decide_eq_false (by omega), cond_false]
      rfl
  · rw [bb_neg h]
    exact ⟨[], rfl, rfl, by simp⟩
theorem lawFarmShares (c : Int) (l m : List I4) (hl : l.length ≤ 140737488355328) (hm : m.length ≤ 140737488355328) : F_laws_FnExactFarmShares (c, l, m, ()) = some (true, ()) := by
  obtain ⟨z, hz, h2, h3⟩ := szFarm c l m 1048576 (by omega) (by omega) hl hm
  simp only [F_laws_FnExactFarmShares, laws_FnExactFarmShares.T, hz, Option.bind_some]
  simp only [List.mem_cons, List.not_mem_nil, or_false, forall_eq_or_imp, forall_eq] at h3
  by_cases h : z < 0
  · rw [decide_eq_true h]; rfl
  · rw [decide_eq_false h]
    obtain ⟨k4, k5⟩ := h3 (by omega)
    have k4' : l.length ≤ 1048576 := by omega
    have k5' : m.length ≤ 1048576 := by omega
    obtain ⟨Y, e1, e2, e3⟩ := sharesEq c l m k4' k5'
    obtain ⟨y1, y2, hmo⟩ := moFarm c l m 1 (by omega) (by omega) k4' k5'
    obtain ⟨y3, hm1, hm2⟩ := mhPartS Y 1 (by omega) (by omega) e3
    have n1 : decide (1 + 4 * (l.length : Int) + 4 * (m.length : Int) < 0) = false := decide_eq_false (by omega)
    have n2 : decide (1 + 2 * (Y.length : Int) < 0) = false := decide_eq_false (by omega)
    simp only [toFarm c l m k4' k5', e1, e2, eqPartS Y e3, eqFarm c l m k4' k5', hmo, hm1, hm2, n1, n2, Option.bind_some, cond_false, Bool.not_true, bne_self_eq_false]
theorem pureFarmShares : ∀ x : CTs.V (insC ins_laws_FnExactFarmShares), CTs.ok (insC ins_laws_FnExactFarmShares) x → F_laws_FnExactFarmShares x = some (true, ()) := by
  rintro ⟨c, l, m, ⟨⟩⟩ h
  obtain ⟨-, ⟨h4, -⟩, ⟨h5, -⟩, -⟩ := h
  exact lawFarmShares c l m (len_of (α := I4) 32 (by omega) h4) (len_of (α := I4) 32 (by omega) h5)
theorem lawFarmGroups (c : Int) (l m : List I4) (hl : l.length ≤ 140737488355328) (hm : m.length ≤ 140737488355328) : F_laws_FnExactFarmGroups (c, l, m, ()) = some (true, ()) := by
  obtain ⟨z, hz, h2, h3⟩ := szFarm c l m 1048576 (by omega) (by omega) hl hm
  simp only [F_laws_FnExactFarmGroups, laws_FnExactFarmGroups.T, hz, Option.bind_some]
  simp only [List.mem_cons, List.not_mem_nil, or_false, forall_eq_or_imp, forall_eq] at h3
  by_cases h : z < 0
  · rw [decide_eq_true h]; rfl
  · rw [decide_eq_false h]
    obtain ⟨k4, k5⟩ := h3 (by omega)
    have k4' : l.length ≤ 1048576 := by omega
    have k5' : m.length ≤ 1048576 := by omega
    obtain ⟨Y, e1, e2, e3⟩ := groupsEq c l m k4' k5'
    obtain ⟨y1, y2, hmo⟩ := moFarm c l m 1 (by omega) (by omega) k4' k5'
    obtain ⟨y3, hm1, hm2⟩ := mhPartS Y 1 (by omega) (by omega) e3
    have n1 : decide (1 + 4 * (l.length : Int) + 4 * (m.length : Int) < 0) = false := decide_eq_false (by omega)
    have n2 : decide (1 + 2 * (Y.length : Int) < 0) = false := decide_eq_false (by omega)
    simp only [toFarm c l m k4' k5', e1, e2, eqPartS Y e3, eqFarm c l m k4' k5', hmo, hm1, hm2, n1, n2, Option.bind_some, cond_false, Bool.not_true, bne_self_eq_false]
theorem pureFarmGroups : ∀ x : CTs.V (insC ins_laws_FnExactFarmGroups), CTs.ok (insC ins_laws_FnExactFarmGroups) x → F_laws_FnExactFarmGroups x = some (true, ()) := by
  rintro ⟨c, l, m, ⟨⟩⟩ h
  obtain ⟨-, ⟨h4, -⟩, ⟨h5, -⟩, -⟩ := h
  exact lawFarmGroups c l m (len_of (α := I4) 32 (by omega) h4) (len_of (α := I4) 32 (by omega) h5)
end Go.Rv
