/- Plain facts: ReportTop. -/
import Derived.Test.YtipgjgcpfppeeaaM09
set_option linter.unusedVariables false
set_option linter.unusedSimpArgs false
set_option linter.unusedSectionVars false
namespace Go.Rv
/-! ### the reference's rows in order -/
theorem spAt (R : Type) (hx : List W6 → Int → Int → Int → List W6 → Option R) (list : List W6) (count : Int) (i : Nat) (out : List W6) (k0 : Nat) (hi : i < list.length) (hl : list.length ≤ 400) (ho : out.length ≤ 400) : ∀ (k p : Nat), p ≤ out.length → out.length - p < k → (∀ y ∈ out.take p, ¬ ltR (list.getD i z6) y) →
    ∃ q, q ≤ out.length ∧ (∀ y ∈ out.take q, ¬ ltR (list.getD i z6) y) ∧ (∀ y, (out.drop q).head? = some y → ltR (list.getD i z6) y) ∧ spec_ReportTop.G1 k0 hx k list count (i : Int) (p : Int) out = hx list count (i : Int) (q : Int) out := by
  intro k
  induction k with
  | zero => intro p _ h; omega
  | succ k ih =>
    intro p hp hk hb
    rw [spec_ReportTop.G1, spec_ReportTop.R1]
    by_cases h : p < out.length
    · have hc : (p : Int) < (out.length : Int) := by omega
      have hw : w64 ((p : Int) + 1) = ((p + 1 : Nat) : Int) := w64_in _ (by omega)
      rw [decide_eq_true hc, cond_true, hw]
      simp only [rd_cast, Int.toNat_natCast]
      have i1 : (0 : Int) ≤ (p : Int) ∧ (p : Int) < (out.length : Int) := by omega
      have i2 : (0 : Int) ≤ (i : Int) ∧ (i : Int) < (list.length : Int) := by omega
      simp only [if_pos i1, if_pos i2]
      have yes : ¬ ltR (list.getD i z6) (out.getD p z6) → ∃ q, q ≤ out.length ∧ (∀ y ∈ out.take q, ¬ ltR (list.getD i z6) y) ∧ (∀ y, (out.drop q).head? = some y → ltR (list.getD i z6) y) ∧ spec_ReportTop.G1 k0 hx k list count (i : Int) ((p + 1 : Nat) : Int) out = hx list count (i : Int) (q : Int) out := fun hn => ih (p + 1) (by omega) (by omega) fun y hy => by
        rw [List.take_succ_eq_append_getElem h] at hy
        rcases List.mem_append.1 hy with hy | hy
        · exact hb y hy
        · rw [List.mem_singleton.1 hy]
          have e : out.getD p z6 = out[p] := by simp [List.getD_eq_getElem?_getD, h]
          rw [e] at hn
          exact hn
      have no : ltR (list.getD i z6) (out.getD p z6) → ∃ q, q ≤ out.length ∧ (∀ y ∈ out.take q, ¬ ltR (list.getD i z6) y) ∧ (∀ y, (out.drop q).head? = some y → ltR (list.getD i z6) y) ∧ hx list count (i : Int) (p : Int) out = hx list count (i : Int) (q : Int) out := fun hn => ⟨p, hp, hb, fun y hy => by rw [(head_drop z6 hy).2]; exact hn, rfl⟩
      by_cases c1 : (out.getD p (0, 0, 0, 0, 0, 0, ())).2.2.2.2.1 > (list.getD i (0, 0, 0, 0, 0, 0, ())).2.2.2.2.1
      · rw [decide_eq_true c1, cond_true]
        exact yes (by simp only [ltR, ltK, keyR, z6]; omega)
      · rw [decide_eq_false c1, cond_false]
        by_cases c2 : (out.getD p (0, 0, 0, 0, 0, 0, ())).2.2.2.2.1 = (list.getD i (0, 0, 0, 0, 0, 0, ())).2.2.2.2.1
        · rw [show ((out.getD p (0, 0, 0, 0, 0, 0, ())).2.2.2.2.1 == (list.getD i (0, 0, 0, 0, 0, 0, ())).2.2.2.2.1) = true from beq_iff_eq.2 c2, cond_true]
          by_cases c3 : (out.getD p (0, 0, 0, 0, 0, 0, ())).1 ≤ (list.getD i (0, 0, 0, 0, 0, 0, ())).1
          · rw [decide_eq_true c3, cond_true]
            exact yes (by simp only [ltR, ltK, keyR, z6]; omega)
          · rw [decide_eq_false c3, cond_false]
            exact no (by simp only [ltR, ltK, keyR, z6]; omega)
        · rw [show ((out.getD p (0, 0, 0, 0, 0, 0, ())).2.2.2.2.1 == (list.getD i (0, 0, 0, 0, 0, 0, ())).2.2.2.2.1) = false from beq_eq_false_iff_ne.2 c2, cond_false]
          exact no (by simp only [ltR, ltK, keyR, z6]; omega)
    · rw [decide_eq_false (by omega), cond_false]
      exact ⟨p, hp, hb, fun y hy => by have := (head_drop z6 hy).1; omega, rfl⟩
theorem spSort (R : Type) (hx : Int → List W6 → Option R) (list : List W6) (count : Int) (k0 : Nat) (hl : list.length ≤ 400) (hk0 : list.length < k0) : ∀ (k : Nat) (done rest out : List W6), list = done ++ rest → rest.length < k → Srt out → Same keyR out done → out.length = done.length →
    ∃ w, Srt w ∧ Same keyR w list ∧ w.length = list.length ∧ spec_ReportTop.G0 k0 hx k list count (done.length : Int) out = hx count w := by
  intro k
  induction k with
  | zero => intro d r o _ h; omega
  | succ k ih =>
    intro d r out hlist hk hs hsm ho
    rw [spec_ReportTop.G0, spec_ReportTop.R0]
    cases r with
    | nil =>
      rw [List.append_nil] at hlist
      subst hlist
      rw [decide_eq_false (by omega), cond_false]
      exact ⟨out, hs, hsm, ho, rfl⟩
    | cons x r =>
      have hlen : list.length = d.length + (r.length + 1) := by rw [hlist, List.length_append, List.length_cons]
      rw [List.length_cons] at hk
      have hx' : list.getD d.length z6 = x := by rw [hlist]; exact at1 d r x z6 _ rfl
      rw [decide_eq_true (by omega), cond_true]
      obtain ⟨q, q1, q2, q3, q4⟩ := spAt _ (spec_ReportTop.A1 (spec_ReportTop.G0 k0 hx k)) list count d.length out k0 (by omega) hl (by omega) k0 0 (by omega) (by omega) (fun y hy => by cases hy)
      rw [show (0 : Int) = ((0 : Nat) : Int) from rfl, q4, spec_ReportTop.A1]
      simp only [rd_cast, Int.toNat_natCast, List.nil_append, List.drop_zero, Nat.sub_zero, Nat.zero_add, List.length_nil]
      have ht : (out.take q).length = q := by rw [List.length_take]; omega
      have hdr : (out.drop q).take (out.length - q) = out.drop q := List.take_of_length_le (by rw [List.length_drop]; omega)
      rw [hdr]
      simp only [List.length_append, List.length_cons, List.length_nil, ht, List.length_drop, maxRow]
      rw [if_pos (by omega), if_pos (by omega), if_pos (by omega), if_pos (by omega), if_pos (by omega), if_pos (by omega), if_pos (by omega), if_pos (by omega), w64_in _ (by omega)]
      rw [hx'] at q2 q3
      have hins := ins_ok (x := x) (p := q) ltK_irr ltK_tr ltK_tri hs q2 q3
      obtain ⟨w, w1, w2, w3, w4⟩ := ih (d ++ [x]) r (out.take q ++ x :: out.drop q) (by rw [hlist]; simp) (by omega) hins.1 (hins.2.trans (hsm.app (Same.refl _))) (by simp; omega)
      refine ⟨w, w1, w2, w3, ?_⟩
      rw [← w4]
      have e1 : ((d ++ [x]).length : Int) = (d.length : Int) + 1 := by simp
      rw [e1]
      have e2 : out.take q ++ [list.getD d.length z6] ++ out.drop q = out.take q ++ x :: out.drop q := by rw [hx']; simp
      rw [← e2]
theorem topEq (list : List W6) (count : Int) : ∃ Y : List W6, F_spec_ReportTop (list, count, ()) = some (Y, ()) ∧ F_impl_ReportTop (list, count, ()) = some (Y, ()) ∧ Y.length ≤ 1048576 := by
  show ∃ Y : List W6, spec_ReportTop.FF (300 + list.length) list count = some (Y, ()) ∧ impl_ReportTop.T list count = some (Y, ()) ∧ Y.length ≤ 1048576
  rw [spec_ReportTop.FF, spec_ReportTop.T, impl_ReportTop.T]
  by_cases h : list.length ≤ 400
  · rw [decide_eq_false (by omega), cond_false, cond_false]
    obtain ⟨w, w1, w2, w3, w4⟩ := spSort _ (spec_ReportTop.A0 list count) list count (300 + list.length) h (by omega) (300 + list.length) [] list [] rfl (by omega) srt_nil (Same.refl _) rfl
    rw [show (([] : List W6).length : Int) = 0 from rfl] at w4
    rw [w4, spec_ReportTop.A0]
    by_cases hc : count < 1
    · rw [decide_eq_true hc]
      exact ⟨[], rfl, rfl, by simp⟩
    · rw [decide_eq_false hc, cond_false, cond_false]
      have hclone : F_slices_Clone_impl_Row_impl_Row (list, ()) = some (list, ()) := by
        show slices_Clone_impl_Row_impl_Row.T list = _
        rw [slices_Clone_impl_Row_impl_Row.T]
        simp only [List.nil_append, List.length_nil, Nat.zero_add]
        rw [if_pos (show list.length ≤ maxRow by unfold maxRow; omega)]
        split
        · rename_i h0
          rw [List.length_eq_zero_iff] at h0
          subst h0
          exact if_pos rfl
        · rfl
      obtain ⟨z, z1, z2, z3, z4⟩ := st_ok list h
      have hzw : z = w := Same.uniq ltK_tri z w z1 w1 (z2.trans w2.symm)
      subst hzw
      rw [hclone, Option.bind_some]
      have hsort : F_slices_SortStableFunc_impl_Row_impl_Row_at_impl_ReportTop_1 (list, ()) = some (z, ()) := by
        show slices_SortStableFunc_impl_Row_impl_Row_at_impl_ReportTop_1.T list = _
        rw [slices_SortStableFunc_impl_Row_impl_Row_at_impl_ReportTop_1.T, z4]
        rfl
      rw [hsort, Option.bind_some]
      by_cases hcl : count < (z.length : Int)
      · rw [decide_eq_true hcl, cond_true, if_pos (by omega), if_pos (by omega)]
        have hm : mn count (z.length : Int) = count := if_neg (by omega)
        simp only [hm]
        rw [if_pos (by omega), if_pos (by omega)]
        exact ⟨_, rfl, rfl, by rw [List.length_take]; omega⟩
      · rw [decide_eq_false hcl, cond_false]
        have hm : mn count (z.length : Int) = (z.length : Int) := by
          show (if (z.length : Int) < count then (z.length : Int) else count) = _
          split <;> omega
        simp only [hm]
        rw [if_pos (by omega), if_pos (by omega)]
        exact ⟨z, rfl, by rw [List.take_of_length_le (by omega)], by omega⟩
  · rw [decide_eq_true (by omega)]
    exact ⟨[], rfl, rfl, by simp⟩
theorem lawReportTop (s0 : List W6) (s1 : Int) (h0 : s0.length ≤ 140737488355328) : F_laws_FnExactReportTop (s0, s1, ()) = some (true, ()) := by
  obtain ⟨z, hz, h2, h3⟩ := szRowS s0 1048576 (by omega) (by omega) h0
  simp only [F_laws_FnExactReportTop, laws_FnExactReportTop.T, hz, Option.bind_some]
  simp only [List.mem_cons, List.not_mem_nil, or_false, forall_eq] at h3
  by_cases h : z < 0
  · rw [decide_eq_true h]; rfl
  · rw [decide_eq_false h]
    have k0 := h3 (by omega)
    have k0' : s0.length ≤ 1048576 := by omega
    obtain ⟨Y, e1, e2, e3⟩ := topEq s0 s1
    obtain ⟨y3, hmo, _⟩ := mhRowS s0 1 (by omega) (by omega) k0'
    obtain ⟨y4, hm1, hm2⟩ := mhRowS Y 1 (by omega) (by omega) e3
    have n2 : decide (1 + 6 * (Y.length : Int) < 0) = false := decide_eq_false (by omega)
    simp only [toRowS s0 k0', e1, e2, eqRowS Y e3, eqRowS s0 k0', hmo, hm1, hm2, n2, Option.bind_some, cond_false, Bool.not_true, bne_self_eq_false]
    rw [decide_eq_false (by omega), cond_false]
theorem pureReportTop : ∀ x : CTs.V (insC ins_laws_FnExactReportTop), CTs.ok (insC ins_laws_FnExactReportTop) x → F_laws_FnExactReportTop x = some (true, ()) := by
  rintro ⟨s0, s1, ⟨⟩⟩ h
  obtain ⟨⟨h0, -⟩, -⟩ := h
  exact lawReportTop s0 s1 (len_of (α := W6) 48 (by omega) h0)
end Go.Rv
