/- Plain facts: sums1. -/
import Derived.Test.YtnebddbibpbloaaM17
set_option linter.unusedVariables false
set_option linter.unusedSimpArgs false
set_option linter.unusedSectionVars false
namespace Go.Rv
/-! ### what stands when all is poured -/
theorem updA_at (A : List (Int × Unit)) (ps : List Nat) (f : Nat → Int) (hnd : ps.Nodup) : ∀ n, n ≤ ps.length → (∀ j, j < n → ps.getD j 0 < A.length) → ∀ j, j < n → fI (updA A ps f n) (ps.getD j 0) = f j := by
  intro n
  induction n with
  | zero => intro _ _ j hj; omega
  | succ n ih =>
    intro hn hlt j hj
    simp only [updA]
    unfold fI
    rw [List.getD_eq_getElem?_getD, List.getElem?_set]
    by_cases e : j = n
    · subst e
      rw [if_pos rfl, updA_len, if_pos (hlt j hj)]; rfl
    · rw [if_neg (fun hc => by
        have h1 : ps.getD n 0 = ps[n] := by simp [List.getD_eq_getElem?_getD, show n < ps.length by omega]
        have h2 : ps.getD j 0 = ps[j] := by simp [List.getD_eq_getElem?_getD, show j < ps.length by omega]
        rw [h1, h2] at hc
        exact e ((List.getElem_inj hnd).1 hc).symm), ← List.getD_eq_getElem?_getD]
      exact ih (by omega) (fun j hj => hlt j (by omega)) j (by omega)
theorem updA_not (A : List (Int × Unit)) (ps : List Nat) (f : Nat → Int) (q : Nat) : ∀ n, (∀ j, j < n → ps.getD j 0 ≠ q) → fI (updA A ps f n) q = fI A q
  | 0, _ => rfl
  | n + 1, h => by
    have ih := updA_not A ps f q n fun j hj => h j (by omega)
    simp only [updA]
    rw [← ih]
    unfold fI
    rw [List.getD_eq_getElem?_getD, List.getElem?_set_ne (h n (by omega)), ← List.getD_eq_getElem?_getD]
theorem plc_mem {l : List I4} {id : Int} {k q : Nat} : q ∈ plc l id k ↔ q < k ∧ (g4 l q).2.1 = id := by simp [plc]
theorem plc_up {l : List I4} {id : Int} {k j : Nat} (hj : j < (plc l id k).length) : (g4 l ((plc l id k).getD j 0)).2.1 = id := by
  have h1 : (plc l id k).getD j 0 = (plc l id k)[j] := by simp [List.getD_eq_getElem?_getD, hj]
  exact (plc_mem.1 (h1 ▸ List.getElem_mem hj)).2
theorem plc_ix {l : List I4} {id : Int} {k q : Nat} (hq : q < k) (hu : (g4 l q).2.1 = id) : ∃ j, j < (plc l id k).length ∧ (plc l id k).getD j 0 = q := by
  obtain ⟨j, hj, e⟩ := List.getElem_of_mem (plc_mem.2 ⟨hq, hu⟩)
  exact ⟨j, hj, by simp [List.getD_eq_getElem?_getD, hj, e]⟩
theorem sum_plc (l : List I4) (id : Int) (f : Nat → Int) : ∀ k, sumTo (plc l id k).length (fun j => f ((plc l id k).getD j 0)) = sumTo k fun q => if (g4 l q).2.1 = id then f q else 0
  | 0 => by simp [plc, sumTo]
  | k + 1 => by
    have ih := sum_plc l id f k
    simp only [sumTo]
    by_cases hu : (g4 l k).2.1 = id
    · rw [plc_succ, if_pos hu, if_pos hu, List.length_append, List.length_singleton]
      simp only [sumTo]
      rw [← ih]
      congr 1
      · refine sumTo_congr _ _ _ fun j hj => ?_
        rw [List.getD_eq_getElem?_getD, List.getElem?_append_left hj, ← List.getD_eq_getElem?_getD]
      · rw [List.getD_eq_getElem?_getD, List.getElem?_append_right (Nat.le_refl _), Nat.sub_self]
        rfl
    · rw [plc_succ, if_neg hu, if_neg hu, ih, Int.add_zero]
section
variable {c : Int} {l m : List I4}
theorem pG_at (F : Nat → Int) (id a : Int) (G : List (Int × Unit)) (hG : G.length = l.length) (j : Nat) (hj : j < (gp l id).length) : fI (pG l m F id a G) ((gp l id).getD j 0) = fA l m F id a j :=
  updA_at G _ _ (plc_nodup _ _ _) _ (Nat.le_refl _) (fun j hj => by rw [hG]; exact plc_get hj) j hj
theorem pG_not (F : Nat → Int) (id a : Int) (G : List (Int × Unit)) (q : Nat) (hq : (g4 l q).2.1 ≠ id) : fI (pG l m F id a G) q = fI G q :=
  updA_not G _ _ q _ fun j hj e => hq (e ▸ plc_up hj)
theorem pM_at (F : Nat → Int) (id a : Int) (M : List (Int × Unit)) (hM : M.length = m.length) (j : Nat) (hj : j < (gp m id).length) : fI (pM l m F id a M) ((gp m id).getD j 0) = fA l m F id a ((gp l id).length + j) :=
  updA_at M _ (fun j => fA l m F id a ((gp l id).length + j)) (plc_nodup _ _ _) _ (Nat.le_refl _) (fun j hj => by rw [hM]; exact plc_get hj) j hj
theorem pM_not (F : Nat → Int) (id a : Int) (M : List (Int × Unit)) (q : Nat) (hq : (g4 m q).2.1 ≠ id) : fI (pM l m F id a M) q = fI M q :=
  updA_not M _ _ q _ fun j hj e => hq (e ▸ plc_up hj)
end
section
variable {c : Int} {l m : List I4} (h : farmP c l m)
include h
theorem wants_ex : ∃ F, smallF F ∧ isW l m F := by
  have key : ∀ d, d ≤ l.length → ∃ F, smallF F ∧ ∀ i, l.length - d ≤ i → i < l.length → F i = mn (wq l m F (g4 l i).1) (g4 l i).2.2.1 := by
    intro d
    induction d with
    | zero => exact fun _ => ⟨fun _ => 0, fun _ => ⟨Int.le_refl 0, by show (0 : Int) ≤ _; omega⟩, fun i h1 h2 => by omega⟩
    | succ d ih =>
      intro hd
      obtain ⟨F, hF, hw⟩ := ih (by omega)
      obtain ⟨s, hs⟩ : ∃ s, s = l.length - (d + 1) := ⟨_, rfl⟩
      have hi : s < l.length := by omega
      have hb := wq_bd h F (g4 l s).1 hF
      have hc := (h.2.2.2.1 _ hi).2.2.2.1
      unfold wantP at hc
      obtain ⟨F', hF'⟩ : ∃ F' : Nat → Int, ∀ q, F' q = if q = s then mn (wq l m F (g4 l s).1) (g4 l s).2.2.1 else F q := ⟨_, fun _ => rfl⟩
      refine ⟨F', fun q => ?_, fun i h1 h2 => ?_⟩
      · rw [hF' q]
        have := hF q
        unfold mn
        split
        · split <;> omega
        · exact this
      · have e : wq l m F' (g4 l i).1 = wq l m F (g4 l i).1 :=
          wq_congr l m _ _ _ fun q hq hu => by
            have := kid_behind h i q h2 hq hu
            rw [hF' q]
            exact if_neg (by omega)
        rw [e, hF' i]
        by_cases hi' : i = s
        · rw [if_pos hi', hi']
        · rw [if_neg hi']; exact hw i (by omega) h2
  obtain ⟨F, hF, hw⟩ := key l.length (Nat.le_refl _)
  exact ⟨F, hF, fun i hi => hw i (by omega) hi⟩
omit h in
theorem stayG (F : Nat → Int) (q j : Nat) : ∀ d, (∀ i, j ≤ i → i < j + d → (g4 l q).2.1 ≠ (g4 l i).1) → fI (stA c l m F (j + d)).1 q = fI (stA c l m F j).1 q
  | 0, _ => rfl
  | d + 1, hh => by
    rw [← stayG F q j d fun i h1 h2 => hh i h1 (by omega)]
    exact pG_not F _ _ _ q (hh (j + d) (by omega) (by omega))
omit h in
theorem stayM (F : Nat → Int) (q j : Nat) : ∀ d, (∀ i, j ≤ i → i < j + d → (g4 m q).2.1 ≠ (g4 l i).1) → fI (stA c l m F (j + d)).2 q = fI (stA c l m F j).2 q
  | 0, _ => rfl
  | d + 1, hh => by
    rw [← stayM F q j d fun i h1 h2 => hh i h1 (by omega)]
    exact pM_not F _ _ _ q (hh (j + d) (by omega) (by omega))
/-- a place with kids: its name and what it has -/
def atA (c : Int) (l m : List I4) (F : Nat → Int) (u has : Int) : Prop := (u = 0 ∧ has = c) ∨ ∃ k, k < l.length ∧ u = (g4 l k).1 ∧ has = fI (stA c l m F l.length).1 k
theorem fin_kids (F : Nat → Int) (hF : smallF F) (u has : Int) (hu : atA c l m F u has) (i : Nat) (hi : i < (itsA l m F u).length) : kvA l m u (stA c l m F l.length).1 (stA c l m F l.length).2 i = fA l m F u has i := by
  have hr := rise h
  rw [its_len h F u] at hi
  unfold kvA
  rcases hu with ⟨rfl, rfl⟩ | ⟨k, hk, rfl, rfl⟩
  · have hne : ∀ i, i < l.length → (0 : Int) ≠ (g4 l i).1 := fun i hi => by have := id_pos h i hi; omega
    by_cases hg : i < (gp l 0).length
    · rw [if_pos hg]
      have hup := plc_up (l := l) (id := 0) (k := l.length) (j := i) hg
      have := stayG (c := has) (l := l) (m := m) F ((gp l 0).getD i 0) 0 l.length fun i' _ h2 => by rw [hup]; exact hne i' (by omega)
      rw [Nat.zero_add] at this
      rw [this]
      exact pG_at F 0 has _ (rg_len _ _) i hg
    · rw [if_neg hg]
      obtain ⟨j, rfl⟩ : ∃ j, i = (gp l 0).length + j := ⟨i - (gp l 0).length, by omega⟩
      have hj : j < (gp m 0).length := by show j < (plc m 0 m.length).length; have : (gp l 0).length = (plc l 0 l.length).length := rfl; omega
      rw [Nat.add_sub_cancel_left]
      have hup := plc_up (l := m) (id := 0) (k := m.length) (j := j) hj
      have := stayM (c := has) (l := l) (m := m) F ((gp m 0).getD j 0) 0 l.length fun i' _ h2 => by rw [hup]; exact hne i' (by omega)
      rw [Nat.zero_add] at this
      rw [this]
      exact pM_at F 0 has _ (rg_len _ _) j hj
  · have hne : ∀ i, k + 1 ≤ i → i < l.length → (g4 l k).1 ≠ (g4 l i).1 := fun i h1 h2 => by have := hr i h2 k (by omega); omega
    obtain ⟨s1, s2, s3⟩ := stA_ok h F hF k
    have hamt : fI (stA c l m F l.length).1 k = fI (stA c l m F k).1 k := by
      have := stayG (c := c) (l := l) (m := m) F k k (l.length - k) fun i' h1 h2 e => by have := kid_behind h i' k (by omega) hk e; omega
      rwa [show k + (l.length - k) = l.length by omega] at this
    rw [hamt]
    by_cases hg : i < (gp l (g4 l k).1).length
    · rw [if_pos hg]
      have hup := plc_up (l := l) (id := (g4 l k).1) (k := l.length) (j := i) hg
      have := stayG (c := c) (l := l) (m := m) F ((gp l (g4 l k).1).getD i 0) (k + 1) (l.length - (k + 1)) fun i' h1 h2 => by rw [hup]; exact hne i' h1 (by omega)
      rw [show k + 1 + (l.length - (k + 1)) = l.length by omega] at this
      rw [this]
      exact pG_at F _ _ _ s1 i hg
    · rw [if_neg hg]
      obtain ⟨j, rfl⟩ : ∃ j, i = (gp l (g4 l k).1).length + j := ⟨i - (gp l (g4 l k).1).length, by omega⟩
      have hj : j < (gp m (g4 l k).1).length := by show j < (plc m (g4 l k).1 m.length).length; have : (gp l (g4 l k).1).length = (plc l (g4 l k).1 l.length).length := rfl; omega
      rw [Nat.add_sub_cancel_left]
      have hup := plc_up (l := m) (id := (g4 l k).1) (k := m.length) (j := j) hj
      have := stayM (c := c) (l := l) (m := m) F ((gp m (g4 l k).1).getD j 0) (k + 1) (l.length - (k + 1)) fun i' h1 h2 => by rw [hup]; exact hne i' h1 (by omega)
      rw [show k + 1 + (l.length - (k + 1)) = l.length by omega] at this
      rw [this]
      exact pM_at F _ _ _ s2 j hj
theorem at_bd (F : Nat → Int) (hF : smallF F) (u has : Int) (hu : atA c l m F u has) : 0 ≤ has ∧ has ≤ 1125899906842624 := by
  rcases hu with ⟨rfl, rfl⟩ | ⟨k, hk, rfl, rfl⟩
  · have := h.1; unfold wantP at this; exact this
  · exact (stA_ok h F hF l.length).2.2 k
theorem its_want (F : Nat → Int) (u : Int) (p : Nat) (hp : p < (itsA l m F u).length) : (itA (itsA l m F u) p).2.1 = if p < (gp l u).length then F ((gp l u).getD p 0) else (g4 m ((gp m u).getD (p - (gp l u).length) 0)).2.2.1 := by
  have hp' : p < (gRaw l F u l.length ++ mRaw m u m.length).length := by rwa [num_len] at hp
  rw [num_at h _ p hp']
  by_cases hg : p < (gp l u).length
  · have hg' : p < (gRaw l F u l.length).length := by rw [gRaw_len]; exact hg
    rw [if_pos hg, List.getElem_append_left hg']
    simp [gRaw, List.getD_eq_getElem?_getD, show p < (plc l u l.length).length from hg]
  · have hg' : (gRaw l F u l.length).length ≤ p := by rw [gRaw_len]; exact Nat.le_of_not_lt hg
    have e : (gRaw l F u l.length).length = (gp l u).length := gRaw_len _ _ _ _
    have hlt : p - (gp l u).length < (plc m u m.length).length := by rw [List.length_append, e, mRaw_len] at hp'; omega
    rw [if_neg hg, List.getElem_append_right hg']
    simp [mRaw, e, List.getD_eq_getElem?_getD, hlt]
theorem kid_le (F : Nat → Int) (hF : smallF F) (u has : Int) (hu : atA c l m F u has) (i : Nat) (hi : i < (itsA l m F u).length) : 0 ≤ fA l m F u has i ∧ fA l m F u has i ≤ (itA (itsA l m F u) i).2.1 := by
  have hb := at_bd h F hF u has hu
  exact amt_bd (its_good h F hF u).1 (by have := its_le h F u; omega) (by omega) _ i (tA_ok _ _) hi
/-- what the members have -/
theorem mem_le (F : Nat → Int) (hF : smallF F) (u has : Int) (hu : atA c l m F u has) (q : Nat) (hq : q < m.length) (hup : (g4 m q).2.1 = u) : 0 ≤ fI (stA c l m F l.length).2 q ∧ fI (stA c l m F l.length).2 q ≤ (g4 m q).2.2.1 := by
  obtain ⟨j, hj, e⟩ := plc_ix (l := m) (k := m.length) hq hup
  have hj' : j < (gp m u).length := hj
  have hi : (gp l u).length + j < (itsA l m F u).length := by rw [its_len h F u]; show (plc l u l.length).length + j < _; omega
  have h1 := kid_le h F hF u has hu _ hi
  have h2 := fin_kids h F hF u has hu _ hi
  rw [its_want h F u _ hi, if_neg (by omega), Nat.add_sub_cancel_left, show (gp m u).getD j 0 = q from e] at h1
  unfold kvA at h2
  rw [if_neg (by omega), Nat.add_sub_cancel_left, show (gp m u).getD j 0 = q from e] at h2
  rw [h2]; exact h1
/-- and the groups -/
theorem grp_le (F : Nat → Int) (hF : smallF F) (u has : Int) (hu : atA c l m F u has) (q : Nat) (hq : q < l.length) (hup : (g4 l q).2.1 = u) : 0 ≤ fI (stA c l m F l.length).1 q ∧ fI (stA c l m F l.length).1 q ≤ F q := by
  obtain ⟨j, hj, e⟩ := plc_ix (l := l) (k := l.length) hq hup
  have hj' : j < (gp l u).length := hj
  have hi : j < (itsA l m F u).length := by rw [its_len h F u]; show j < (plc l u l.length).length + _; omega
  have h1 := kid_le h F hF u has hu _ hi
  have h2 := fin_kids h F hF u has hu _ hi
  rw [its_want h F u _ hi, if_pos hj', show (gp l u).getD j 0 = q from e] at h1
  unfold kvA at h2
  rw [if_pos hj', show (gp l u).getD j 0 = q from e] at h2
  rw [h2]; exact h1
theorem up_at (F : Nat → Int) (q : Nat) (hq : q < l.length) : ∃ has, atA c l m F (g4 l q).2.1 has := by
  rcases (h.2.2.2.1 q hq).2.2.1 with h1 | ⟨p, hp, h1⟩
  · exact ⟨c, Or.inl ⟨h1, rfl⟩⟩
  · exact ⟨_, Or.inr ⟨p, by omega, h1.symm, rfl⟩⟩
/-- the sums -/
theorem kids_sum (F : Nat → Int) (hF : smallF F) (u has : Int) (hu : atA c l m F u has) :
    sumTo l.length (gW l (fI (stA c l m F l.length).1) u) + sumTo m.length (fun q => if (g4 m q).2.1 = u then fI (stA c l m F l.length).2 q else 0) = mn has (wq l m F u) := by
  have hb := at_bd h F hF u has hu
  have e1 := amt_sum (its_good h F hF u).1 (by have := its_le h F u; omega) (show 0 ≤ has ∧ has ≤ 72057594037927936 by omega) _ (tA_ok (itsA l m F u) has)
  have e2 : sumTo (itsA l m F u).length (amtA (itsA l m F u) has (tA (itsA l m F u) has)) = sumTo (itsA l m F u).length (kvA l m u (stA c l m F l.length).1 (stA c l m F l.length).2) :=
    sumTo_congr _ _ _ fun i hi => (fin_kids h F hF u has hu i hi).symm
  have e3 : sumTo (itsA l m F u).length (kvA l m u (stA c l m F l.length).1 (stA c l m F l.length).2) = sumTo l.length (gW l (fI (stA c l m F l.length).1) u) + sumTo m.length (fun q => if (g4 m q).2.1 = u then fI (stA c l m F l.length).2 q else 0) := by
    rw [its_len h F u, sumTo_split]
    have a1 := sum_plc l u (fI (stA c l m F l.length).1) l.length
    have a2 := sum_plc m u (fI (stA c l m F l.length).2) m.length
    rw [show gW l (fI (stA c l m F l.length).1) u = fun q => if (g4 l q).2.1 = u then fI (stA c l m F l.length).1 q else 0 from rfl, ← a1, ← a2]
    congr 1
    · exact sumTo_congr _ _ _ fun i hi => if_pos hi
    · refine sumTo_congr _ _ _ fun i hi => ?_
      unfold kvA
      rw [if_neg (by show ¬ _ < (plc l u l.length).length; omega), Nat.add_sub_cancel_left]
  have e4 : sumTo (itsA l m F u).length (fun p => (itA (itsA l m F u) p).2.1) = wq l m F u := by
    have b0 : sumTo (itsA l m F u).length (fun p => (itA (itsA l m F u) p).2.1) = sumTo (itsA l m F u).length (fun p => if p < (gp l u).length then F ((gp l u).getD p 0) else (g4 m ((gp m u).getD (p - (gp l u).length) 0)).2.2.1) :=
      sumTo_congr _ _ _ fun p hp => its_want h F u p hp
    rw [b0, its_len h F u, sumTo_split]
    have a1 := sum_plc l u F l.length
    have a2 := sum_plc m u (fun q => (g4 m q).2.2.1) m.length
    unfold wq
    rw [show gW l F u = fun q => if (g4 l q).2.1 = u then F q else 0 from rfl, show mW m u = fun q => if (g4 m q).2.1 = u then (g4 m q).2.2.1 else 0 from rfl, ← a1, ← a2]
    congr 1
    · exact sumTo_congr _ _ _ fun i hi => if_pos hi
    · refine sumTo_congr _ _ _ fun i hi => ?_
      rw [if_neg (by show ¬ _ < (plc l u l.length).length; omega), Nat.add_sub_cancel_left]
  rw [← e3, ← e2, e1, e4]
end
end Go.Rv
