/- Plain facts: ReportRows. -/
import Derived.Test.YtipgjgcpfppeeaaGreatM21
set_option linter.unusedVariables false
set_option linter.unusedSimpArgs false
set_option linter.unusedSectionVars false
namespace Go.Rv
theorem specShares {c : Int} {l m : List I4} (h : farmP c l m) (F : Nat → Int) (hF : smallF F) (hA : F_spec_l05All (c, l, m, ()) = some ((stA c l m F l.length).1, (stA c l m F l.length).2, ())) :
    F_spec_FarmShares (c, l, m, ()) = some (pr m (stA c l m F l.length).2, ()) := by
  have hl := h.2.1
  have hm2 := h.2.2.1
  obtain ⟨h1, h2, h3⟩ := stA_ok h F hF l.length
  simp only [F_spec_FarmShares, spec_FarmShares.FF, spec_FarmShares.T, specFarm c l m (by omega) (by omega), Option.bind_some]
  rw [bb_true h]
  simp only [Bool.not_true, cond_false]
  rw [hA]
  simp only [Option.bind_some]
  rw [pr_range, h2]
  refine run 0 m.length (fun k i => spec_FarmShares.G0 (300 + l.length + m.length) (spec_FarmShares.A0 c l m) k (i : Nat) c l m ((List.range i).map fun j => ((g4 m j).1, fI (stA c l m F l.length).2 j, ())) (stA c l m F l.length).2) _ (fun k i _ hi => ?_) (fun k => ?_) _ (by omega) (by omega)
  · show spec_FarmShares.G0 _ _ (k + 1) (i : Nat) c l m _ _ = spec_FarmShares.G0 _ _ k ((i + 1 : Nat) : Int) c l m ((List.range (i + 1)).map _) _
    simp only [spec_FarmShares.G0, spec_FarmShares.R0, rd_cast, Int.toNat_natCast]
    rw [decide_eq_true (by omega), cond_true, if_pos (by omega), if_pos (by omega), if_pos (by simp only [List.length_map, List.length_range, List.length_cons, List.length_nil, maxRow]; omega), w64_in _ (by omega), List.range_succ, List.map_append]
    rfl
  · simp only [spec_FarmShares.G0, spec_FarmShares.R0]
    rw [decide_eq_false (by omega), cond_false]
    rfl
abbrev LRow := List (Int × Int × Int × Int × Int × Int × Unit)
def rowAt (s2 : Int) (s5 : List I4) (s6 : List I3) (P : List (Int × Int × Unit)) (i : Nat) : Int × Int × Int × Int × Int × Int × Unit :=
  ((g4 s5 i).1, (g4 s5 i).2.1, (g4 s5 i).2.2.1, (P.getD i (0, 0, ())).2.1, (g3 s6 i).2.1, w64 ((g3 s6 i).2.2.1 - s2), ())
theorem rowsEq (s0 s1 s2 s3 : Int) (s4 s5 : List I4) (s6 : List I3) (h4 : s4.length ≤ 1048576) (h5 : s5.length ≤ 1048576) (h6 : s6.length ≤ 1048576) :
    ∃ Y : LRow, F_spec_ReportRows (s0, s1, s2, s3, s4, s5, s6, ()) = some (Y, ()) ∧ F_impl_ReportRows (s0, s1, s2, s3, s4, s5, s6, ()) = some (Y, ()) ∧ Y.length ≤ 1048576 := by
  simp only [F_spec_ReportRows, spec_ReportRows.FF, spec_ReportRows.T, F_impl_ReportRows, impl_ReportRows.T, specServer s0 s1 s2 s3 s4 s5 s6 h4 h5 h6, implServer s0 s1 s2 s3 s4 s5 s6 h4 h5 h6, Option.bind_some]
  by_cases h : serverP s0 s1 s2 s3 s4 s5 s6
  · rw [bb_true h]
    obtain ⟨_, _, _, _, hf, hls, h65, _⟩ := h
    have hm60 := hf.2.2.1
    obtain ⟨F, hF, hW, hA⟩ := specAll hf
    obtain ⟨k1, k2, k3⟩ := stA_ok hf F hF s4.length
    obtain ⟨P, e1, e2⟩ : ∃ P : List (Int × Int × Unit), F_spec_FarmShares (s3, s4, s5, ()) = some (P, ()) ∧ P = pr s5 (stA s3 s4 s5 F s4.length).2 := ⟨_, specShares hf F hF hA, rfl⟩
    have hP : P.length = s5.length := by rw [e2, pr_len, k2]
    simp only [Bool.not_true, cond_false, e1, Option.bind_some, F_impl_Server_rows, impl_Server_rows.FF, impl_Server_rows.T, implShares hf F hF hW]
    rw [← e2]
    have hc : ∀ i, (List.range i).length = i := fun i => List.length_range
    refine ⟨(List.range s5.length).map (rowAt s2 s5 s6 P), ?_, ?_, by simp; exact h5⟩
    · refine run 0 s6.length (fun k i => spec_ReportRows.G0 (300 + s4.length + s5.length + s6.length) (spec_ReportRows.A0 s0 s1 s2 s3 s4 s5 s6) k (i : Nat) s0 s1 s2 s3 s4 s5 s6 ((List.range i).map (rowAt s2 s5 s6 P)) P) _ (fun k i _ hi => ?_) (fun k => ?_) _ (by omega) (by omega)
      · show spec_ReportRows.G0 _ _ (k + 1) (i : Nat) s0 s1 s2 s3 s4 s5 s6 _ _ = spec_ReportRows.G0 _ _ k ((i + 1 : Nat) : Int) s0 s1 s2 s3 s4 s5 s6 ((List.range (i + 1)).map _) _
        simp only [spec_ReportRows.G0, spec_ReportRows.R0, rd_cast, Int.toNat_natCast]
        rw [decide_eq_true (by omega), cond_true, if_pos (by omega), if_pos (by omega), if_pos (by omega), if_pos (by omega), if_pos (by simp only [List.length_map, List.length_range, List.length_cons, List.length_nil, maxRow]; omega), w64_in _ (by omega), List.range_succ, List.map_append]
        rfl
      · simp only [spec_ReportRows.G0, spec_ReportRows.R0]
        rw [decide_eq_false (by omega), cond_false, h65]
        rfl
    · have := run 0 s5.length (fun k i => impl_Server_rows.G0 (300 + s4.length + s5.length + s6.length) (impl_Server_rows.A0 s0 s1 s2 s3 s4 s5 s6) k s5 (s5.length : Int) (i : Nat) s0 s1 s2 s3 s4 s5 s6 P ((List.range i).map (rowAt s2 s5 s6 P))) (some ((List.range s5.length).map (rowAt s2 s5 s6 P), ())) (fun k i _ hi => by
        show impl_Server_rows.G0 _ _ (k + 1) s5 _ (i : Nat) s0 s1 s2 s3 s4 s5 s6 _ _ = impl_Server_rows.G0 _ _ k s5 _ ((i + 1 : Nat) : Int) s0 s1 s2 s3 s4 s5 s6 _ ((List.range (i + 1)).map _)
        simp only [impl_Server_rows.G0, impl_Server_rows.R0, rd_cast, Int.toNat_natCast]
        rw [decide_eq_true (by omega), cond_true, if_pos (by omega), if_pos (by omega), if_pos (by omega), if_pos (by omega), if_pos (by simp only [List.length_map, List.length_range, List.length_cons, List.length_nil, maxRow]; omega), w64_in _ (by omega), List.range_succ, List.map_append]
        rfl) (fun k => by
        simp only [impl_Server_rows.G0, impl_Server_rows.R0]
        rw [decide_eq_false (by omega), cond_false]
        rfl) (300 + s4.length + s5.length + s6.length) (by omega) (by omega)
      rw [show impl_Server_rows.G0 (300 + s4.length + s5.length + s6.length) (impl_Server_rows.A0 s0 s1 s2 s3 s4 s5 s6) (300 + s4.length + s5.length + s6.length) s5 (s5.length : Int) 0 s0 s1 s2 s3 s4 s5 s6 P [] = _ from this]
      rfl
  · rw [bb_neg h]
    exact ⟨[], rfl, rfl, by simp⟩
theorem lawReportRows (s0 s1 s2 s3 : Int) (s4 s5 : List I4) (s6 : List I3) (h4 : s4.length ≤ 140737488355328) (h5 : s5.length ≤ 140737488355328) (h6 : s6.length ≤ 140737488355328) : F_laws_FnExactReportRows (s0, s1, s2, s3, s4, s5, s6, ()) = some (true, ()) := by
  obtain ⟨z, hz, h2, h3⟩ := szServer s0 s1 s2 s3 s4 s5 s6 1048576 (by omega) (by omega) h4 h5 h6
  simp only [F_laws_FnExactReportRows, laws_FnExactReportRows.T, hz, Option.bind_some]
  simp only [List.mem_cons, List.not_mem_nil, or_false, forall_eq_or_imp, forall_eq] at h3
  by_cases h : z < 0
  · rw [decide_eq_true h]; rfl
  · rw [decide_eq_false h]
    obtain ⟨k4, k5, k6⟩ := h3 (by omega)
    have k4' : s4.length ≤ 1048576 := by omega
    have k5' : s5.length ≤ 1048576 := by omega
    have k6' : s6.length ≤ 1048576 := by omega
    obtain ⟨Y, e1, e2, e3⟩ := rowsEq s0 s1 s2 s3 s4 s5 s6 k4' k5' k6'
    obtain ⟨y1, y2, y3, hmo⟩ := moServer s0 s1 s2 s3 s4 s5 s6 1 (by omega) (by omega) k4' k5' k6'
    obtain ⟨y4, hm1, hm2⟩ := mhRowS Y 1 (by omega) (by omega) e3
    have n2 : decide (1 + 6 * (Y.length : Int) < 0) = false := decide_eq_false (by omega)
    simp only [toServer s0 s1 s2 s3 s4 s5 s6 k4' k5' k6', e1, e2, eqRowS Y e3, eqServer s0 s1 s2 s3 s4 s5 s6 k4' k5' k6', hmo, hm1, hm2, n2, Option.bind_some, cond_false, Bool.not_true, bne_self_eq_false]
    rw [decide_eq_false (by omega), cond_false]
theorem pureReportRows : ∀ x : CTs.V (insC ins_laws_FnExactReportRows), CTs.ok (insC ins_laws_FnExactReportRows) x → F_laws_FnExactReportRows x = some (true, ()) := by
  rintro ⟨s0, s1, s2, s3, s4, s5, s6, ⟨⟩⟩ h
  obtain ⟨-, -, -, -, ⟨h4, -⟩, ⟨h5, -⟩, ⟨h6, -⟩, -⟩ := h
  exact lawReportRows s0 s1 s2 s3 s4 s5 s6 (len_of (α := I4) 32 (by omega) h4) (len_of (α := I4) 32 (by omega) h5) (len_of (α := I3) 24 (by omega) h6)
end Go.Rv
