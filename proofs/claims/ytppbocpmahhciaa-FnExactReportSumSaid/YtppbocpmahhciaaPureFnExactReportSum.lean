/- ReportSum: the program's sum of rows is the reference's, for any list of rows. No condition. -/
import Derived.Test.YtppbocpmahhciaaPFnExactReportSumx
set_option linter.unusedVariables false
set_option linter.unusedSimpArgs false
namespace Go.Proofs.Ytppbocpmahhciaa.Pure
open Go.RowKit Go.Proofs.Ytppbocpmahhciaa.PFnExactReportSum Go.Proofs.YtppbocpmahhciaaW.PrintWords Go.Proofs.YtppbocpmahhciaaW.PrintLast Go.Proofs.YtppbocpmahhciaaW.PrintMore

namespace RepSum
theorem w64 {z : Int} (h : -9223372036854775808 ≤ z ∧ z ≤ 9223372036854775807) : wrap64 z = z := by unfold wrap64; omega

theorem rows_l0 (l : List S56) (hl : l.length ≤ 1048576) (m : Nat) : ∀ (x3 : List S25) (i : Int), x3.length = l.length → 0 ≤ i → i ≤ l.length → (l.length : Int) - i = m →
    ∃ r : List S25, r.length = l.length ∧ ∀ k, m < k → laws_toRowS.l0 k l x3 i = some r := by
  induction m with
  | zero =>
    intro x3 i hx h0 h1 h2
    refine ⟨x3, hx, fun k hk => ?_⟩
    obtain ⟨k, rfl⟩ : ∃ n, k = n + 1 := ⟨k - 1, by omega⟩
    simp only [laws_toRowS.l0]
    rw [if_neg (by omega)]
  | succ m ih =>
    intro x3 i hx h0 h1 h2
    have h3 : i < (l.length : Int) := by omega
    have h4 : i < (x3.length : Int) := by omega
    obtain ⟨r, hr, hk⟩ := ih (x3.set i.toNat ⟨(rd_T56 l i).f0, (rd_T56 l i).f1, (rd_T56 l i).f2, (rd_T56 l i).f3, (rd_T56 l i).f4, (rd_T56 l i).f5⟩) (i + 1) (by simpa using hx) (by omega) (by omega) (by omega)
    refine ⟨r, hr, fun k h5 => ?_⟩
    obtain ⟨k, rfl⟩ : ∃ n, k = n + 1 := ⟨k - 1, by omega⟩
    simp only [laws_toRowS.l0, laws_toRow.f, Option.bind_some]
    rw [if_pos h3, if_pos h0, if_pos h4, w64 (z := i + 1) (by omega)]
    exact hk k (by omega)

theorem rows (l : List S56) (hl : l.length ≤ 1048576) : ∃ r : List S25, r.length = l.length ∧ ∀ k, l.length < k → laws_toRowS.f k l = some r := by
  obtain ⟨r, hr, hk⟩ := rows_l0 l hl l.length (List.replicate l.length z25) 0 (by simp) (by omega) (by omega) (by omega)
  refine ⟨r, hr, fun k h => ?_⟩
  unfold laws_toRowS.f
  rw [if_pos (by omega), if_pos (by rw [Int.toNat_natCast]; omega), Int.toNat_natCast]
  exact hk k h

theorem eq_l0 (t : List S25) (hl : t.length ≤ 1048576) (m : Nat) : ∀ (k : Nat) (i : Int), 0 ≤ i → i ≤ t.length → (t.length : Int) - i = m → m < k → laws_eqRowS.l0 k t t i = some true := by
  induction m with
  | zero =>
    intro k i h0 h1 h2 hk
    obtain ⟨k, rfl⟩ : ∃ n, k = n + 1 := ⟨k - 1, by omega⟩
    simp only [laws_eqRowS.l0]
    rw [if_neg (by omega)]
  | succ m ih =>
    intro k i h0 h1 h2 hk
    obtain ⟨k, rfl⟩ : ∃ n, k = n + 1 := ⟨k - 1, by omega⟩
    have h3 : i < (t.length : Int) := by omega
    simp only [laws_eqRowS.l0, laws_eqRow.f, if_true, Option.bind_some]
    rw [if_pos h3, if_pos h0, if_pos h3, w64 (z := i + 1) (by omega)]
    exact ih k (i + 1) (by omega) (by omega) (by omega) (by omega)

theorem spec_l0 (t : List S25) (hl : t.length ≤ 400) (m : Nat) : ∀ (k i : Nat), i ≤ t.length → t.length - i = m → m < k →
    spec_ReportSum.l0 k t i 0 0 (sumF (·.f2) (t.take i)) (sumF (·.f3) (t.take i)) (sumF (·.f4) (t.take i)) (sumF (·.f5) (t.take i)) = some (0, 0, sumF (·.f2) t, sumF (·.f3) t, sumF (·.f4) t, sumF (·.f5) t) := by
  induction m with
  | zero =>
    intro k i h1 h2 hk
    obtain ⟨k, rfl⟩ : ∃ n, k = n + 1 := ⟨k - 1, by omega⟩
    obtain rfl : i = t.length := by omega
    simp only [spec_ReportSum.l0]
    rw [if_neg (by omega), List.take_length]
  | succ m ih =>
    intro k i h1 h2 hk
    obtain ⟨k, rfl⟩ : ∃ n, k = n + 1 := ⟨k - 1, by omega⟩
    have h3 : i < t.length := by omega
    have h4 := ih k (i + 1) (by omega) (by omega) (by omega)
    rw [sumF_snoc _ _ _ h3, sumF_snoc _ _ _ h3, sumF_snoc _ _ _ h3, sumF_snoc _ _ _ h3] at h4
    simp only [spec_ReportSum.l0]
    rw [if_pos (by omega), if_pos (by omega), w64 (z := (i : Int) + 1) (by omega)]
    simpa [rd_T25] using h4

theorem spec_eq (t : List S25) (k : Nat) (hk : 500 < k) : spec_ReportSum.f k t = impl_ReportSum.f t := by
  unfold spec_ReportSum.f impl_ReportSum.f
  by_cases h : t.length ≤ 400
  · rw [if_neg (by omega), if_pos h]
    exact spec_l0 t h t.length k 0 (by omega) (by omega) (by omega)
  · rw [if_pos (by omega), if_neg h]
end RepSum
open RepSum

theorem FnExactReportSum (l : List S56) (hl : l.length ≤ 9223372036854775807) : ∃ k, laws_FnExactReportSum.f k l = some true := by
  refine ⟨l.length + 501, ?_⟩
  unfold laws_FnExactReportSum.f laws_szRowS.f
  by_cases h : l.length ≤ 1048576
  · obtain ⟨t, ht, hk⟩ := rows l h
    rw [w64 (by omega), if_neg (by omega)]
    simp only [Option.bind_some]
    rw [if_neg (by omega), hk _ (by omega)]
    simp only [Option.bind_some]
    rw [spec_eq t _ (by omega)]
    obtain ⟨⟨r1, r2, r3, r4, r5, r6⟩, hr⟩ : ∃ r, impl_ReportSum.f t = some r := by
      unfold impl_ReportSum.f
      split <;> exact ⟨_, rfl⟩
    rw [hr]
    simp only [Option.bind_some, laws_eqRow.f, if_true]
    unfold laws_eqRowS.f
    rw [if_pos rfl, eq_l0 t (by omega) t.length _ 0 (by omega) (by omega) (by omega) (by omega)]
    simp
  · rw [w64 (by omega), if_pos (by omega)]
    simp
end Go.Proofs.Ytppbocpmahhciaa.Pure
