/- Plain facts: ReportRows-law. -/
import Derived.Test.YtnoanpohmppnaaaGreatDoorM22
set_option linter.unusedVariables false
set_option linter.unusedSimpArgs false
set_option linter.unusedSectionVars false
namespace Go.Rv
theorem specShares {c : Int} {l m : List I4} (h : farmP c l m) (F : Nat → Int) (hF : smallF F) (hA : F_spec_l05All (c, l, m, ()) = some ((stA c l m F l.length).1, (stA c l m F l.length).2, ())) :
  F_spec_FarmShares (c, l, m, ()) = some (pr m (stA c l m F l.length).2, ()) := by
 have hl := h.2.1
 have hm2 := h.2.2.1
 obtain ⟨h1, h2, h3⟩ := stA_ok h F hF l.length
 simp only [F_spec_FarmShares, spec_FarmShares.FF, spec_FarmShares.T, specFarm c l m (by omega) (by omega), Option.bind_some]
 rw [bb_true h]
 simp only [Bool.not_true, cond_false]
 rw [hA]
 simp only [Option.bind_some]
 rw [pr_range, h2]
 refine run 0 m.length (fun k i => spec_FarmShares.G0 (300 + l.length + m.length) (spec_FarmShares.A0 c l m) k (i : Nat) c l m ((List.range i).map fun j => ((g4 m j).1, fI (stA c l m F l.length).2 j, ())) (stA c l m F l.length).2) _ (fun k i _ hi => ?_) (fun k => ?_) _ (by omega) (by omega)
 ·show spec_FarmShares.G0 _ _ (k + 1) (i : Nat) c l m _ _ = spec_FarmShares.G0 _ _ k ((i + 1 : Nat) : Int) c l m ((List.range (i + 1)).map _) _
  simp only [spec_FarmShares.G0, spec_FarmShares.R0, rd_cast, Int.toNat_natCast]
  rw [decide_eq_true (by omega), cond_true, if_pos (by omega), if_pos (by omega), if_pos (by simp only [List.length_map, List.length_range, List.length_cons, List.length_nil, maxRow]; omega), w64_in _ (by omega), List.range_succ, List.map_append]
  rfl
 ·simp only [spec_FarmShares.G0, spec_FarmShares.R0]
  rw [decide_eq_false (by omega), cond_false]
  rfl
abbrev LRow := List (Int × Int × Int × Int × Int × Int × Unit)
def rowAt (s2 : Int) (s5 : List I4) (s6 : List I3) (P : List (Int × Int × Unit)) (i : Nat) : Int × Int × Int × Int × Int × Int × Unit :=
 ((g4 s5 i).1, (g4 s5 i).2.1, (g4 s5 i).2.2.1, (P.getD i (0, 0, ())).2.1, (g3 s6 i).2.1, w64 ((g3 s6 i).2.2.1 - s2), ())
/-- what a row may hold -/
def rowR (r : Int × Int × Int × Int × Int × Int × Unit) : Prop := (0 ≤ r.1 ∧ r.1 ≤ 1125899906842624) ∧ (0 ≤ r.2.1 ∧ r.2.1 ≤ 1125899906842624) ∧ (0 ≤ r.2.2.1 ∧ r.2.2.1 ≤ 1125899906842624) ∧ (0 ≤ r.2.2.2.1 ∧ r.2.2.2.1 ≤ 1125899906842624) ∧ (0 ≤ r.2.2.2.2.1 ∧ r.2.2.2.2.1 ≤ 1125899906842624) ∧ (0 ≤ r.2.2.2.2.2.1 ∧ r.2.2.2.2.2.1 ≤ 1125899906842624)
theorem stM_ok {c : Int} {l m : List I4} (h : farmP c l m) (F : Nat → Int) (hF : smallF F) : ∀ k q, 0 ≤ fI (stA c l m F k).2 q ∧ fI (stA c l m F k).2 q ≤ 1125899906842624
 | 0, q => by
  have hc := h.1
  unfold wantP at hc
  exact updA_bd _ _ _ (fun q => by rw [fI_rg0]; omega) _ (fun i hi => fA_bd h F hF 0 c (by omega) _ (by rw [its_len h]; show (gp l 0).length + i < (gp l 0).length + (gp m 0).length; omega)) q
 | k + 1, q => by
  have h3 := (stA_ok h F hF k).2.2 k
  exact updA_bd _ _ _ (stM_ok h F hF k) _ (fun i hi => fA_bd h F hF _ _ (by omega) _ (by rw [its_len h]; show (gp l (g4 l k).1).length + i < (gp l (g4 l k).1).length + (gp m (g4 l k).1).length; omega)) q
theorem rowsCore (s0 s1 s2 s3 : Int) (s4 s5 : List I4) (s6 : List I3) (h4 : s4.length ≤ 1048576) (h5 : s5.length ≤ 1048576) (h6 : s6.length ≤ 1048576) :
  ∃ Y : LRow, F_spec_ReportRows (s0, s1, s2, s3, s4, s5, s6, ()) = some (Y, ()) ∧ Y.length ≤ 1048576 ∧ (serverP s0 s1 s2 s3 s4 s5 s6 → F_impl_Server_rows (s0, s1, s2, s3, s4, s5, s6, ()) = some (Y, ()) ∧ Y.length ≤ 60 ∧ ∀ r ∈ Y, rowR r) := by
 simp only [F_spec_ReportRows, spec_ReportRows.FF, spec_ReportRows.T, specServer s0 s1 s2 s3 s4 s5 s6 h4 h5 h6, Option.bind_some]
 by_cases h : serverP s0 s1 s2 s3 s4 s5 s6
 ·rw [bb_true h]
  obtain ⟨_, _, _, _, hf, hls, h65, hsl⟩ := h
  have hm60 := hf.2.2.1
  obtain ⟨F, hF, hW, hA⟩ := specAll hf
  obtain ⟨k1, k2, k3⟩ := stA_ok hf F hF s4.length
  obtain ⟨P, e1, e2⟩ : ∃ P : List (Int × Int × Unit), F_spec_FarmShares (s3, s4, s5, ()) = some (P, ()) ∧ P = pr s5 (stA s3 s4 s5 F s4.length).2 := ⟨_, specShares hf F hF hA, rfl⟩
  have hP : P.length = s5.length := by rw [e2, pr_len, k2]
  have hrows : F_impl_Server_rows (s0, s1, s2, s3, s4, s5, s6, ()) = some ((List.range s5.length).map (rowAt s2 s5 s6 P), ()) := by
   simp only [F_impl_Server_rows, impl_Server_rows.FF, impl_Server_rows.T, implShares hf F hF hW, Option.bind_some]
   rw [← e2]
   have := run 0 s5.length (fun k i => impl_Server_rows.G0 (300 + s4.length + s5.length + s6.length) (impl_Server_rows.A0 s0 s1 s2 s3 s4 s5 s6) k s5 (s5.length : Int) (i : Nat) s0 s1 s2 s3 s4 s5 s6 P ((List.range i).map (rowAt s2 s5 s6 P))) (some ((List.range s5.length).map (rowAt s2 s5 s6 P), ())) (fun k i _ hi => by
    show impl_Server_rows.G0 _ _ (k + 1) s5 _ (i : Nat) s0 s1 s2 s3 s4 s5 s6 _ _ = impl_Server_rows.G0 _ _ k s5 _ ((i + 1 : Nat) : Int) s0 s1 s2 s3 s4 s5 s6 _ ((List.range (i + 1)).map _)
    simp only [impl_Server_rows.G0, impl_Server_rows.R0, rd_cast, Int.toNat_natCast]
    rw [decide_eq_true (by omega), cond_true, if_pos (by omega), if_pos (by omega), if_pos (by omega), if_pos (by omega), if_pos (by simp only [List.length_map, List.length_range, List.length_cons, List.length_nil, maxRow]; omega), w64_in _ (by omega), List.range_succ, List.map_append]
    rfl) (fun k => by
    simp only [impl_Server_rows.G0, impl_Server_rows.R0]
    rw [decide_eq_false (by omega), cond_false]
    rfl) (300 + s4.length + s5.length + s6.length) (by omega) (by omega)
   rw [show impl_Server_rows.G0 (300 + s4.length + s5.length + s6.length) (impl_Server_rows.A0 s0 s1 s2 s3 s4 s5 s6) (300 + s4.length + s5.length + s6.length) s5 (s5.length : Int) 0 s0 s1 s2 s3 s4 s5 s6 P [] = _ from this]
  simp only [Bool.not_true, cond_false, e1, Option.bind_some]
  have hc : ∀ i, (List.range i).length = i := fun i => List.length_range
  refine ⟨(List.range s5.length).map (rowAt s2 s5 s6 P), ?_, by simp; exact h5, fun _ => ⟨hrows, by simp; omega, fun r hr => ?_⟩⟩
  ·refine run 0 s6.length (fun k i => spec_ReportRows.G0 (300 + s4.length + s5.length + s6.length) (spec_ReportRows.A0 s0 s1 s2 s3 s4 s5 s6) k (i : Nat) s0 s1 s2 s3 s4 s5 s6 ((List.range i).map (rowAt s2 s5 s6 P)) P) _ (fun k i _ hi => ?_) (fun k => ?_) _ (by omega) (by omega)
   ·show spec_ReportRows.G0 _ _ (k + 1) (i : Nat) s0 s1 s2 s3 s4 s5 s6 _ _ = spec_ReportRows.G0 _ _ k ((i + 1 : Nat) : Int) s0 s1 s2 s3 s4 s5 s6 ((List.range (i + 1)).map _) _
    simp only [spec_ReportRows.G0, spec_ReportRows.R0, rd_cast, Int.toNat_natCast]
    rw [decide_eq_true (by omega), cond_true, if_pos (by omega), if_pos (by omega), if_pos (by omega), if_pos (by omega), if_pos (by simp only [List.length_map, List.length_range, List.length_cons, List.length_nil, maxRow]; omega), w64_in _ (by omega), List.range_succ, List.map_append]
    rfl
   ·simp only [spec_ReportRows.G0, spec_ReportRows.R0]
    rw [decide_eq_false (by omega), cond_false, h65]
    rfl
  ·obtain ⟨i, hi, rfl⟩ := List.mem_map.1 hr
   rw [List.mem_range] at hi
   have m1 := hf.2.2.2.2 i hi
   have m2 := (hls.2 i (by omega)).1
   have m3 := hsl i (by omega)
   have m4 : (P.getD i (0, 0, ())).2.1 = fI (stA s3 s4 s5 F s4.length).2 i := by rw [e2, pr_get _ _ _ _ (by rw [k2]; exact hi)]
   have m5 := stM_ok hf F hF s4.length i
   have m6 : 0 ≤ (g4 s5 i).2.1 ∧ (g4 s5 i).2.1 ≤ 1000000 := by
    rcases m1.2.2.1 with h | ⟨p, hp, h⟩
    ·omega
    ·have := (hf.2.2.2.1 p hp).1
     unfold idP at this
     omega
   unfold memP idP wantP at m1
   unfold leaseP idP wantP timeP at m2
   unfold slP at m3
   simp only [rowR, rowAt, m4]
   rw [w64_in _ (by omega)]
   omega
 ·rw [bb_neg h]
  exact ⟨[], rfl, by simp, fun hs => absurd hs h⟩
end Go.Rv
