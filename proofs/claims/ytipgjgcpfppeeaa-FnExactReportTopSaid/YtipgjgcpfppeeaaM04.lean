/- Plain facts: stable3. -/
import Derived.Test.YtipgjgcpfppeeaaM03
set_option linter.unusedVariables false
set_option linter.unusedSimpArgs false
set_option linter.unusedSectionVars false
namespace Go.Rv
/-! ### adjacent places, and the search by halves -/
theorem nx1 {α : Type} (P R : List α) (x y z : α) (n : Nat) (hn : n = P.length + 1) : (P ++ x :: y :: R).getD n z = y := at2 P [] R x y z n (by simpa using hn)
theorem sx {α : Type} (P R : List α) (x y : α) (n m : Nat) (hn : n = P.length) (hm : m = P.length + 1) : ((P ++ x :: y :: R).set n y).set m x = P ++ y :: x :: R := swp P [] R x y n m hn (by simpa using hm)
theorem sx' {α : Type} (P R : List α) (x y : α) (n m : Nat) (hn : n = P.length) (hm : m = P.length + 1) : ((P ++ x :: y :: R).set m x).set n y = P ++ y :: x :: R := swp' P [] R x y n m hn (by simpa using hm)
theorem bsearch {α : Type} (lo hi : Nat) (Pd : Nat → Prop) (g : Nat → Nat → Nat → α) (done : Nat → α) (hs : ∀ k i j, lo ≤ i → i < j → j ≤ hi → (Pd ((i + j) / 2) → g (k + 1) i j = g k ((i + j) / 2 + 1) j) ∧ (¬ Pd ((i + j) / 2) → g (k + 1) i j = g k i ((i + j) / 2)))
    (he : ∀ k i, lo ≤ i → i ≤ hi → g (k + 1) i i = done i) : ∀ k i j, i ≤ j → lo ≤ i → j ≤ hi → j - i < k → (i = lo ∨ Pd (i - 1)) → (j = hi ∨ ¬ Pd j) → ∃ s, lo ≤ s ∧ s ≤ hi ∧ (s = lo ∨ Pd (s - 1)) ∧ (s = hi ∨ ¬ Pd s) ∧ g k i j = done s := by
  intro k
  induction k with
  | zero => intro i j _ _ _ h; omega
  | succ k ih =>
    intro i j hij hl hh hk h1 h2
    by_cases e : i = j
    · subst e
      exact ⟨i, hl, hh, h1, h2, he k i hl hh⟩
    · obtain ⟨a1, a2⟩ := hs k i j hl (by omega) hh
      by_cases hp : Pd ((i + j) / 2)
      · rw [a1 hp]
        exact ih _ j (by omega) (by omega) hh (by omega) (Or.inr (by rw [Nat.add_sub_cancel]; exact hp)) h2
      · rw [a2 hp]
        exact ih i _ (by omega) hl (by omega) (by omega) h1 (Or.inr hp)
theorem halfI (i j : Nat) (h : i + j ≤ 1000) : w64 (Int.fdiv (IntKind.u64.wrap (w64 ((i : Int) + j))) (2 ^ 1)) = (((i + j) / 2 : Nat) : Int) := by
  rw [w64_in ((i : Int) + j) (by omega), u64_in _ (by omega), Int.fdiv_eq_ediv_of_nonneg _ (by decide), show ((2 : Int) ^ 1) = 2 from rfl, w64_in _ (by omega)]
  omega
theorem at_mid {α : Type} (P U T : List α) (z : α) (n i : Nat) (hn : n = P.length + i) (hi : i < U.length) : (P ++ (U ++ T)).getD n z = U.getD i z := by
  subst hn
  rw [List.getD_eq_getElem?_getD, List.getElem?_append_right (by omega), Nat.add_sub_cancel_left, List.getElem?_append_left hi, ← List.getD_eq_getElem?_getD]
theorem at_mid2 {α : Type} (P U V T : List α) (z : α) (n i : Nat) (hn : n = P.length + U.length + i) (hi : i < V.length) : (P ++ (U ++ (V ++ T))).getD n z = V.getD i z := by
  rw [← List.append_assoc]
  exact at_mid (P ++ U) V T z n i (by rw [List.length_append]; omega) hi
theorem last_take {α : Type} {U : List α} {k : Nat} {x : α} (z : α) (hk : k ≤ U.length) (h : (U.take k).getLast? = some x) : 0 < k ∧ x = U.getD (k - 1) z := by
  rw [List.getLast?_take] at h
  split at h
  · cases h
  · refine ⟨by omega, ?_⟩
    have hl : k - 1 < U.length := by omega
    rw [List.getElem?_eq_getElem hl] at h
    have h' : U[k - 1] = x := by simpa using h
    rw [List.getD_eq_getElem?_getD, List.getElem?_eq_getElem hl, h']
    rfl
theorem head_drop {α : Type} {U : List α} {k : Nat} {x : α} (z : α) (h : (U.drop k).head? = some x) : k < U.length ∧ x = U.getD k z := by
  rw [List.head?_drop] at h
  have hl := (List.getElem?_eq_some_iff.1 h).1
  exact ⟨hl, by rw [List.getD_eq_getElem?_getD, h]; rfl⟩
theorem srt_le {l : List W6} (h : Srt l) {x y : W6} (hx : l.getLast? = some x) (hy : y ∈ l) : ¬ ltR x y := by
  rcases List.eq_nil_or_concat l with rfl | ⟨l', b, rfl⟩
  · cases hy
  · simp only [List.concat_eq_append, List.getLast?_append, List.getLast?_singleton, Option.some_or, Option.some.injEq] at hx
    subst hx
    simp only [List.concat_eq_append] at h hy
    rcases List.mem_append.1 hy with hy | hy
    · exact (List.pairwise_append.1 h).2.2 y hy _ (by simp)
    · rw [List.mem_singleton.1 hy]; exact ltK_irr _
theorem le_trans' (a b c : Int × Int) : ¬ ltK b a → ¬ ltK c b → ¬ ltK c a := by unfold ltK; omega
theorem srt_nil : Srt [] := List.Pairwise.nil
theorem srt_one (x : W6) : Srt [x] := List.pairwise_singleton _ _
/-! ### the sort of a short part -/
theorem is_in (R : Type) (x : W6) (a b i : Nat) (hx : Int → Int → Int → List W6 → Option R) (k0 : Nat) (p : List W6) (ha : p.length = a) : ∀ (k : Nat) (l t : List W6), l.length < k → p.length + l.length + t.length ≤ 400 → 
    ∃ l1 l2, l = l1 ++ l2 ∧ (∀ y, l1.getLast? = some y → ¬ ltR x y) ∧ (∀ y ∈ l2, ltR x y) ∧ slices_insertionSortCmpFunc_impl_Row_at_impl_ReportTop_1.G1 k0 hx k (a : Int) (b : Int) (i : Int) ((a + l.length : Nat) : Int) (p ++ (l ++ x :: t)) = hx a b i (p ++ (l1 ++ x :: (l2 ++ t))) := by
  intro k
  induction k with
  | zero => intro l t h; omega
  | succ k ih =>
    intro l t hk hl
    rw [slices_insertionSortCmpFunc_impl_Row_at_impl_ReportTop_1.G1, slices_insertionSortCmpFunc_impl_Row_at_impl_ReportTop_1.R1]
    rcases List.eq_nil_or_concat l with rfl | ⟨l, y, rfl⟩
    · refine ⟨[], [], rfl, fun y h => (by cases h), fun y h => (by cases h), ?_⟩
      rw [decide_eq_false (by simp), cond_false]
      rfl
    · simp only [List.concat_eq_append, List.length_append, List.length_singleton] at hk hl ⊢
      have e : p ++ (l ++ [y] ++ x :: t) = (p ++ l) ++ y :: x :: t := by simp
      have w : w64 (((a + (l.length + 1) : Nat) : Int) - 1) = ((a + l.length : Nat) : Int) := (w64_in _ (by omega)).trans (by omega)
      have hpl : (p ++ l).length = a + l.length := by rw [List.length_append, ha]
      rw [e, w]
      simp only [Int.toNat_natCast]
      rw [nx1 (p ++ l) t y x _ _ (by omega), at1 (p ++ l) _ y _ _ hpl.symm, sx' (p ++ l) t y x _ _ hpl.symm (by omega), List.length_set]
      obtain ⟨c, hc1, hc2⟩ := cmpR x y
      have hlen : ((p ++ l) ++ y :: x :: t).length = a + l.length + t.length + 2 := by rw [List.length_append, hpl]; simp only [List.length_cons]; omega
      rw [hc1, Option.bind_some, hc2, hlen, decide_eq_true (by omega), cond_true]
      simp only [List.length_cons]
      rw [if_pos (by omega), if_pos (by omega)]
      by_cases hlt : ltR x y
      · rw [bb_true hlt, cond_true, if_pos (by omega), if_pos (by omega), if_pos (by omega), if_pos (by omega)]
        obtain ⟨l1, l2, e1, e2, e3, e4⟩ := ih l (y :: t) (by omega) (by simp only [List.length_cons]; omega)
        refine ⟨l1, l2 ++ [y], by rw [e1]; simp, e2, fun z hz => ?_, ?_⟩
        · rcases List.mem_append.1 hz with hz | hz
          · exact e3 z hz
          · rw [List.mem_singleton.1 hz]; exact hlt
        · rw [List.append_assoc p, e4]
          simp
      · rw [bb_neg hlt, cond_false]
        refine ⟨l ++ [y], [], by simp, fun z hz => ?_, fun z hz => (by cases hz), by simp⟩
        simp at hz
        rw [← hz]; exact hlt
theorem is_ok (p u r : List W6) (a b : Nat) (hL : p.length + u.length + r.length ≤ 400) (ha : p.length = a) (hb : b = a + u.length) :
    ∃ w, Srt w ∧ Same keyR w u ∧ w.length = u.length ∧ F_slices_insertionSortCmpFunc_impl_Row_at_impl_ReportTop_1 (p ++ (u ++ r), (a : Int), (b : Int), ()) = some (p ++ (w ++ r), ()) := by
  have key : ∀ (k0 k : Nat) (out t : List W6) (i : Nat), t.length < k → out.length + t.length < k0 → Srt out → p.length + out.length + t.length + r.length ≤ 400 → i = a + out.length → b = i + t.length →
      ∃ w, Srt w ∧ Same keyR w (out ++ t) ∧ w.length = out.length + t.length ∧ slices_insertionSortCmpFunc_impl_Row_at_impl_ReportTop_1.G0 k0 (fun o => some (o, ())) k (a : Int) (b : Int) (i : Int) (p ++ (out ++ (t ++ r))) = some (p ++ (w ++ r), ()) := by
    intro k0 k
    induction k with
    | zero => intro out t i h; omega
    | succ k ih =>
      intro out t i hk hk0 hs hl hi hb
      rw [slices_insertionSortCmpFunc_impl_Row_at_impl_ReportTop_1.G0, slices_insertionSortCmpFunc_impl_Row_at_impl_ReportTop_1.R0]
      cases t with
      | nil =>
        simp only [List.length_nil] at *
        rw [decide_eq_false (by omega), cond_false]
        exact ⟨out, hs, by rw [List.append_nil]; exact Same.refl _, rfl, by simp⟩
      | cons x t =>
        simp only [List.length_cons] at *
        rw [decide_eq_true (by omega), cond_true]
        obtain ⟨l1, l2, e1, e2, e3, e4⟩ := is_in _ x a b i (slices_insertionSortCmpFunc_impl_Row_at_impl_ReportTop_1.A1 (slices_insertionSortCmpFunc_impl_Row_at_impl_ReportTop_1.G0 k0 (fun o => some (o, ())) k)) k0 p ha k0 out (t ++ r) (by omega) (by rw [List.length_append]; omega)
        subst hi
        simp only [List.cons_append]
        rw [e4, slices_insertionSortCmpFunc_impl_Row_at_impl_ReportTop_1.A1, w64_in _ (by omega), show (((a + out.length : Nat) : Int) + 1) = ((a + out.length + 1 : Nat) : Int) by omega]
        have hins := ins_ok (x := x) (p := l1.length) ltK_irr ltK_tr ltK_tri hs (fun y hy => ?_) (fun y hy => ?_)
        · rw [e1, List.take_left, List.drop_left] at hins
          obtain ⟨w, w1, w2, w3, w4⟩ := ih (l1 ++ x :: l2) t (a + out.length + 1) (by omega) (by rw [List.length_append, List.length_cons]; rw [e1, List.length_append] at hk0; omega) hins.1 (by rw [List.length_append, List.length_cons]; rw [e1, List.length_append] at hl; omega) (by rw [e1]; simp only [List.length_append, List.length_cons]; omega) (by omega)
          refine ⟨w, w1, w2.trans ?_, ?_, ?_⟩
          · rw [e1]
            have := hins.2.app (Same.refl (key := keyR) t)
            simpa using this
          · rw [w3, e1]; simp only [List.length_append, List.length_cons]; omega
          · rw [← w4]; simp
        · rw [e1, List.take_left] at hy
          rcases h1 : l1.getLast? with _ | z
          · rw [List.getLast?_eq_none_iff] at h1; rw [h1] at hy; cases hy
          · rw [e1] at hs
            exact le_trans' _ _ _ (srt_le (List.pairwise_append.1 hs).1 h1 hy) (e2 z h1)
        · rw [e1, List.drop_left] at hy
          cases l2 with
          | nil => cases hy
          | cons z q => cases hy; exact e3 _ (by simp)
  cases u with
  | nil =>
    refine ⟨[], srt_nil, Same.refl _, rfl, ?_⟩
    simp only [List.length_nil, Nat.add_zero] at hL hb
    simp only [F_slices_insertionSortCmpFunc_impl_Row_at_impl_ReportTop_1, slices_insertionSortCmpFunc_impl_Row_at_impl_ReportTop_1.FF, slices_insertionSortCmpFunc_impl_Row_at_impl_ReportTop_1.T]
    rw [w64_in _ (by omega)]
    obtain ⟨n, hn⟩ : ∃ n, 300 + (p ++ ([] ++ r)).length = n + 1 := ⟨299 + (p ++ ([] ++ r)).length, by omega⟩
    rw [hn, slices_insertionSortCmpFunc_impl_Row_at_impl_ReportTop_1.G0, slices_insertionSortCmpFunc_impl_Row_at_impl_ReportTop_1.R0, decide_eq_false (by omega), cond_false]
    rfl
  | cons x t =>
    simp only [F_slices_insertionSortCmpFunc_impl_Row_at_impl_ReportTop_1, slices_insertionSortCmpFunc_impl_Row_at_impl_ReportTop_1.FF, slices_insertionSortCmpFunc_impl_Row_at_impl_ReportTop_1.T]
    simp only [List.length_cons] at hL hb
    have := key (300 + (p ++ (x :: t ++ r)).length) (300 + (p ++ (x :: t ++ r)).length) [x] t (a + 1) (by simp only [List.length_append, List.length_cons]; omega) (by simp only [List.length_append, List.length_cons, List.length_nil]; omega) (srt_one x) (by simp only [List.length_singleton]; omega) (by simp) (by omega)
    obtain ⟨w, w1, w2, w3, w4⟩ := this
    refine ⟨w, w1, w2, by rw [w3]; simp only [List.length_cons, List.length_nil]; omega, ?_⟩
    rw [w64_in _ (by omega)]
    exact w4
end Go.Rv
