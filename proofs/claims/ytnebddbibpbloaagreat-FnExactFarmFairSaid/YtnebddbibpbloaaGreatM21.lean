/- Plain facts: FarmFair. -/
import Derived.Test.YtnebddbibpbloaaGreatM20
set_option linter.unusedVariables false
set_option linter.unusedSimpArgs false
set_option linter.unusedSectionVars false
namespace Go.Rv
abbrev P3 := List (Int × Int × Unit)
def amountP (z : Int) : Prop := 0 ≤ z ∧ z ≤ 67553994410557440
theorem F_sAmount (z : Int) : F_spec_l03Amount (z, ()) = some (bb (amountP z), ()) := by
  simp only [F_spec_l03Amount, spec_l03Amount.T, ← bb_dec, amountP]
  grind [= bb_iff]
theorem F_iAmount (z : Int) : F_impl_isAmount (z, ()) = some (bb (amountP z), ()) := by
  simp only [F_impl_isAmount, impl_isAmount.T, F_iin, Option.bind_some]
  rfl
theorem F_clone (xs : P3) (h : xs.length ≤ 1048576) : F_slices_Clone_impl_Part_impl_Part (xs, ()) = some (xs, ()) := by
  simp only [F_slices_Clone_impl_Part_impl_Part, slices_Clone_impl_Part_impl_Part.T, List.nil_append, List.length_nil, Nat.zero_add]
  rw [if_pos (show xs.length ≤ maxRow by unfold maxRow; omega)]
  by_cases h0 : xs.length = 0
  · have : xs = [] := List.eq_nil_of_length_eq_zero h0
    subst this
    simp
  · rw [if_neg h0]
theorem F_equalP (xs ys : P3) (hx : xs.length ≤ 1048576) : F_slices_Equal_impl_Part_impl_Part (xs, ys, ()) = some (bb (xs = ys), ()) := by
  simp only [F_slices_Equal_impl_Part_impl_Part, slices_Equal_impl_Part_impl_Part.FF, slices_Equal_impl_Part_impl_Part.T]
  by_cases hl : xs.length = ys.length
  · rw [show ((xs.length : Int) != (ys.length : Int)) = false by simp [hl], cond_false]
    rw [bb_congr (show xs = ys ↔ ∀ j, j < xs.length → xs.getD j (0, 0, ()) = ys.getD j (0, 0, ()) from ⟨fun e => by rw [e]; intros; rfl, fun e => List.ext_getElem hl fun i h1 h2 => by
      have := e i h1
      simpa [List.getD_eq_getElem?_getD, h1, h2] using this⟩)]
    refine scanB (g := fun k i => slices_Equal_impl_Part_impl_Part.G0 (300 + xs.length + ys.length) (slices_Equal_impl_Part_impl_Part.A0 xs ys) (slices_Equal_impl_Part_impl_Part.A1 xs ys) k xs ys (xs.length : Int) (i : Nat)) (fun k i hi _ => ?_) (fun _ k => ?_) _ (by omega)
    · have hw : w64 ((i : Int) + 1) = ((i + 1 : Nat) : Int) := w64_in _ (by omega)
      simp only [slices_Equal_impl_Part_impl_Part.G0, slices_Equal_impl_Part_impl_Part.R0, rd_cast, hw]
      rw [decide_eq_true (by omega), cond_true, if_pos (by omega), if_pos (by omega)]
      generalize xs.getD i (0, 0, ()) = a
      generalize ys.getD i (0, 0, ()) = b
      obtain ⟨a1, a2, _⟩ := a
      obtain ⟨b1, b2, _⟩ := b
      simp only [Prod.mk.injEq, and_true, Bool.and_true]
      constructor
      · rintro ⟨rfl, rfl⟩
        simp
      · intro hne
        have : (a1 == b1 && a2 == b2) = false := by
          rw [← Bool.not_eq_true]; simpa using hne
        rw [this]; rfl
    · simp only [slices_Equal_impl_Part_impl_Part.G0, slices_Equal_impl_Part_impl_Part.R0]
      rw [decide_eq_false (by omega), cond_false]
      rfl
  · rw [show ((xs.length : Int) != (ys.length : Int)) = true by simp; omega, cond_true, bb_neg fun e => hl (by rw [e])]
def idsP (l : List I4) (x : P3) : Prop := ∀ i, i < l.length → (x.getD i (0, 0, ())).1 = (g4 l i).1
def am (x : P3) : List (Int × Unit) := x.map fun y => (y.2.1, ())
theorem am_len (x : P3) : (am x).length = x.length := by simp [am]
theorem am_fI (x : P3) (q : Nat) : fI (am x) q = (x.getD q (0, 0, ())).2.1 := by
  simp only [fI, am, List.getD_eq_getElem?_getD, List.getElem?_map]
  cases x[q]? <;> rfl
theorem pr_am (l : List I4) (x : P3) (hl : x.length = l.length) (h : idsP l x) : pr l (am x) = x := by
  apply List.ext_getElem
  · simp [pr, am]
  · intro i h1 h2
    have := h i (by omega)
    simp [List.getD_eq_getElem?_getD, h2] at this
    simp only [pr, am, List.getElem_mapIdx, List.getElem_map]
    exact Prod.ext (by simpa [List.getD_eq_getElem?_getD] using this.symm) rfl
theorem pr_inj (l : List I4) (A B : List (Int × Unit)) (hl : A.length = B.length) : pr l A = pr l B ↔ A = B := by
  refine ⟨fun e => List.ext_getElem hl fun i h1 h2 => ?_, fun e => by rw [e]⟩
  have := congrArg (fun z => z[i]?) e
  simp only [pr, List.getElem?_mapIdx, List.getElem?_eq_getElem h1, List.getElem?_eq_getElem h2, Option.map_some, Option.some.injEq, Prod.mk.injEq, true_and, and_true] at this
  exact Prod.ext this rfl
theorem plc_nodup (l : List I4) (id : Int) (k : Nat) : (plc l id k).Nodup := List.Pairwise.filter _ List.nodup_range
theorem updA_iff (A : List (Int × Unit)) (ps : List Nat) (f : Nat → Int) (hnd : ps.Nodup) : ∀ n, n ≤ ps.length → (∀ j, j < n → ps.getD j 0 < A.length) → (updA A ps f n = A ↔ ∀ j, j < n → f j = fI A (ps.getD j 0)) := by
  have g1 : ∀ n, n ≤ ps.length → (∀ j, j < n → ps.getD j 0 < A.length) → ∀ j, j < n → fI (updA A ps f n) (ps.getD j 0) = f j := by
    intro n
    induction n with
    | zero => intro _ _ j hj; omega
    | succ n ih =>
      intro hn hlt j hj
      simp only [updA]
      unfold fI
      rw [List.getD_eq_getElem?_getD, List.getElem?_set]
      by_cases e : j = n
      · subst e
        rw [if_pos rfl, updA_len, if_pos (hlt j hj)]; rfl
      · rw [if_neg (fun hc => by
          have h1 : ps.getD n 0 = ps[n] := by simp [List.getD_eq_getElem?_getD, show n < ps.length by omega]
          have h2 : ps.getD j 0 = ps[j] := by simp [List.getD_eq_getElem?_getD, show j < ps.length by omega]
          rw [h1, h2] at hc
          exact e ((List.getElem_inj hnd).1 hc).symm), ← List.getD_eq_getElem?_getD]
        exact ih (by omega) (fun j hj => hlt j (by omega)) j (by omega)
  intro n hn hlt
  constructor
  · intro e j hj
    rw [← g1 n hn hlt j hj, e]
  · induction n with
    | zero => intro _; rfl
    | succ n ih =>
      intro he
      simp only [updA]
      rw [ih (by omega) (fun j hj => hlt j (by omega)) (fun j hj => he j (by omega)), he n (by omega)]
      have hq := hlt n (by omega)
      apply List.ext_getElem?
      intro i
      rw [List.getElem?_set]
      by_cases e : ps.getD n 0 = i
      · rw [if_pos e, if_pos hq, ← e, List.getElem?_eq_getElem hq]
        generalize ps.getD n 0 = z at hq ⊢
        simp only [fI, List.getD_eq_getElem?_getD, List.getElem?_eq_getElem hq, Option.getD_some]
      · rw [if_neg e]
/-- what is compared at a kid -/
def kvA (l m : List I4) (id : Int) (G M : List (Int × Unit)) (i : Nat) : Int := if i < (gp l id).length then fI G ((gp l id).getD i 0) else fI M ((gp m id).getD (i - (gp l id).length) 0)
section
variable {c : Int} {l m : List I4} (h : farmP c l m)
include h
theorem fairLoop (k0 : Nat) (hx4 : Bool → Option (Bool × Unit)) (hx5 : Unit → Option (Bool × Unit)) (h4 : hx4 false = some (false, ())) (h5 : hx5 () = some (true, ())) (F : Nat → Int) (id a : Int) (gs ms : P3) (hG : gs.length = l.length) (hM : ms.length = m.length) (k : Nat) (hk : 90 < k) :
    spec_FarmFair.G2 k0 hx4 hx5 k gs ms 0 (gk l id l.length ++ mk' m id m.length) (rg (itsA l m F id).length (fA l m F id a)) = some (bb (∀ i, i < (itsA l m F id).length → kvA l m id (am gs) (am ms) i = fA l m F id a i), ()) := by
  have hle := its_le h F id
  have hlen : (itsA l m F id).length = (gp l id).length + (gp m id).length := its_len h F id
  have hkl : (gk l id l.length ++ mk' m id m.length).length = (gp l id).length + (gp m id).length := by simp [gk, mk', gp]
  have rg_len' := rg_len (itsA l m F id).length (fA l m F id a)
  refine scanB (g := fun k i => spec_FarmFair.G2 k0 hx4 hx5 k gs ms (i : Nat) (gk l id l.length ++ mk' m id m.length) (rg (itsA l m F id).length (fA l m F id a))) (fun k i hi _ => ?_) (fun _ k => ?_) k (by omega)
  · simp only [spec_FarmFair.G2, spec_FarmFair.R2, Int.toNat_natCast]
    rw [hkl, decide_eq_true (by omega), cond_true, if_pos (by omega), w64_in ((i : Int) + 1) (by omega), rg_len', rg_get _ _ _ _ hi]
    by_cases hg : i < (gp l id).length
    · have hgi : (gk l id l.length ++ mk' m id m.length).getD i (0, 0, ()) = (((gp l id).getD i 0 : Int), -1, ()) := gk_get (gp l id) (gp m id) i hg
      have hlt : (gp l id).getD i 0 < l.length := plc_get (l := l) (id := id) (k := l.length) (j := i) hg
      simp only [hgi, rd_cast]
      rw [decide_eq_true (by omega), cond_true, if_pos (by omega), if_pos (by omega), if_pos (by omega), if_pos (by omega), decide_eq_false (by omega), cond_false]
      unfold kvA
      rw [if_pos hg, am_fI]
      generalize (gs.getD ((gp l id).getD i 0) (0, 0, ())).2.1 = x
      generalize fA l m F id a i = y
      constructor
      · intro e; rw [e, bne_self_eq_false, cond_false]; rfl
      · intro e; rw [show (x != y) = true by simpa using e, cond_true, h4]
    · obtain ⟨j, rfl⟩ : ∃ j, i = (gp l id).length + j := ⟨i - (gp l id).length, by omega⟩
      have hj : j < (gp m id).length := by omega
      have hgi : (gk l id l.length ++ mk' m id m.length).getD ((gp l id).length + j) (0, 0, ()) = (-1, ((gp m id).getD j 0 : Int), ()) := gk_get2 (gp l id) (gp m id) j hj
      have hlt : (gp m id).getD j 0 < m.length := plc_get (l := m) (id := id) (k := m.length) (j := j) hj
      simp only [hgi, rd_cast]
      rw [decide_eq_false (by omega), cond_false, if_pos (by omega), decide_eq_true (by omega), cond_true, if_pos (by omega), if_pos (by omega), if_pos (by omega)]
      unfold kvA
      rw [if_neg hg, am_fI, Nat.add_sub_cancel_left]
      generalize (ms.getD ((gp m id).getD j 0) (0, 0, ())).2.1 = x
      generalize fA l m F id a ((gp l id).length + j) = y
      constructor
      · intro e; rw [e, bne_self_eq_false, cond_false]; rfl
      · intro e; rw [show (x != y) = true by simpa using e, cond_true, h4]
  · simp only [spec_FarmFair.G2, spec_FarmFair.R2]
    rw [hkl, decide_eq_false (by omega), cond_false, h5]
theorem fairPour (F : Nat → Int) (hF : smallF F) (hW : isW l m F) (id a : Int) (ha : amountP a) (gs ms : P3) (hG : gs.length = l.length) (hM : ms.length = m.length) (ig : idsP l gs) (im : idsP m ms) :
    ∃ x y, F_impl_Farm_pour (c, l, m, id, a, gs, ms, ()) = some (x, y, ()) ∧ x.length = gs.length ∧ y.length = ms.length ∧ ((x = gs ∧ y = ms) ↔ ∀ i, i < (itsA l m F id).length → kvA l m id (am gs) (am ms) i = fA l m F id a i) := by
  have hlen : (itsA l m F id).length = (gp l id).length + (gp m id).length := its_len h F id
  have hA : (am gs).length = l.length := by rw [am_len, hG]
  have hB : (am ms).length = m.length := by rw [am_len, hM]
  have hp := implPour h F hF hW id a (by unfold amountP at ha; omega) (am gs) (am ms) hA hB
  rw [pr_am l gs hG ig, pr_am m ms hM im] at hp
  refine ⟨_, _, hp, by rw [pr_len, pG, updA_len, am_len], by rw [pr_len, pM, updA_len, am_len], ?_⟩
  have e1 : pr l (pG l m F id a (am gs)) = gs ↔ ∀ j, j < (gp l id).length → fA l m F id a j = fI (am gs) ((gp l id).getD j 0) := by
    conv => lhs; rhs; rw [← pr_am l gs hG ig]
    rw [pr_inj _ _ _ (by rw [pG, updA_len])]
    exact updA_iff _ _ _ (plc_nodup _ _ _) _ (Nat.le_refl _) fun j hj => by rw [hA]; exact plc_get hj
  have e2 : pr m (pM l m F id a (am ms)) = ms ↔ ∀ j, j < (gp m id).length → fA l m F id a ((gp l id).length + j) = fI (am ms) ((gp m id).getD j 0) := by
    conv => lhs; rhs; rw [← pr_am m ms hM im]
    rw [pr_inj _ _ _ (by rw [pM, updA_len])]
    exact updA_iff _ _ _ (plc_nodup _ _ _) _ (Nat.le_refl _) fun j hj => by rw [hB]; exact plc_get hj
  rw [e1, e2]
  constructor
  · rintro ⟨x1, x2⟩ i hi
    unfold kvA
    by_cases hg : i < (gp l id).length
    · rw [if_pos hg]; exact (x1 i hg).symm
    · rw [if_neg hg]
      have := x2 (i - (gp l id).length) (by omega)
      rw [show (gp l id).length + (i - (gp l id).length) = i by omega] at this
      exact this.symm
  · intro x
    refine ⟨fun j hj => ?_, fun j hj => ?_⟩
    · have := x j (by omega)
      unfold kvA at this
      rw [if_pos hj] at this
      exact this.symm
    · have := x ((gp l id).length + j) (by omega)
      unfold kvA at this
      rw [if_neg (by omega), Nat.add_sub_cancel_left] at this
      exact this.symm
end
theorem fairEq (c : Int) (l m : List I4) (u : Int) (gs ms : P3) (hl : l.length ≤ 1048576) (hm : m.length ≤ 1048576) (hgs : gs.length ≤ 1048576) (hms : ms.length ≤ 1048576) :
    ∃ b, F_spec_FarmFair (c, l, m, u, gs, ms, ()) = some (b, ()) ∧ F_impl_FarmFair (c, l, m, u, gs, ms, ()) = some (b, ()) := by
  simp only [F_spec_FarmFair, spec_FarmFair.FF, spec_FarmFair.T, F_impl_FarmFair, impl_FarmFair.FF, impl_FarmFair.T, specFarm c l m hl hm, implFarm c l m hl hm, Option.bind_some]
  by_cases h : farmP c l m
  rotate_left
  · rw [bb_neg h]
    refine ⟨false, ?_, rfl⟩
    simp only [Bool.not_false, cond_true, Bool.cond_self]
  have hr := rise h
  have hl30 := h.2.1
  have hm60 := h.2.2.1
  obtain ⟨p, hp, hpu⟩ := F_l05Group c l m u hl
  obtain ⟨q, hq, hq1, hq2⟩ := F_iGroup c l m u hl hr
  rw [bb_true h]
  simp only [Bool.not_true, cond_false, F_iHas c l m u hl hr, Option.bind_some]
  by_cases hG : gs.length = l.length
  rotate_left
  · rw [show ((gs.length : Int) != (l.length : Int)) = true by simp; omega]
    refine ⟨false, ?_, ?_⟩
    · simp only [cond_true, Bool.cond_self]
    · simp only [cond_true, Bool.cond_self]
  by_cases hM : ms.length = m.length
  rotate_left
  · rw [show ((ms.length : Int) != (m.length : Int)) = true by simp; omega]
    refine ⟨false, ?_, ?_⟩
    · simp only [cond_true, Bool.cond_self]
    · simp only [cond_true, Bool.cond_self]
  rw [show ((gs.length : Int) != (l.length : Int)) = false by simp [hG], show ((ms.length : Int) != (m.length : Int)) = false by simp [hM], decide_eq_false (by omega), decide_eq_false (by omega)]
  simp only [cond_false]
  by_cases hu : u = 0 ∨ hasP l l.length u
  rotate_left
  · rw [bb_neg hu]
    refine ⟨false, ?_, rfl⟩
    have hp1 : p = -1 := by
      rcases hpu with ⟨_, e⟩ | ⟨q, _, h1, h2, _⟩
      · exact e
      · exact absurd (Or.inr ⟨q, h1, h2⟩) hu
    rw [show (u != 0) = true by simp; exact fun e => hu (Or.inl e), cond_true, hp, hp1]
    rfl
  rw [bb_true hu]
  simp only [Bool.not_true, cond_false]
  -- what the amount is
  obtain ⟨F, hFs, hFl, hF, hW⟩ := specWants h
  have hpos : ¬ hasP l l.length 0 := by
    rintro ⟨i, hi, e⟩
    have := id_pos h i hi
    omega
  obtain ⟨has, hhas⟩ : ∃ has : Int, has = if u = 0 then c else (gs.getD q (0, 0, ())).2.1 := ⟨_, rfl⟩
  have hpq : u ≠ 0 → p = (q : Int) ∧ q < l.length := by
    intro hu0
    have hh : hasP l l.length u := by rcases hu with h1 | h1; exact absurd h1 hu0; exact h1
    obtain ⟨h1, h2⟩ := hq2 hh
    rcases hpu with ⟨e, _⟩ | ⟨p', e, p1, p2, p3⟩
    · exact absurd hh e
    · refine ⟨?_, h1⟩
      rw [e]
      congr 1
      refine Nat.le_antisymm (Nat.le_of_not_lt fun hc => p3 q hc h2) (Nat.le_of_not_lt fun hc => ?_)
      have := hr q h1 p' hc
      omega
  have sp : (cond (u != 0) ((F_spec_l05Group (c, l, m, u, ())).bind fun y2 => cond (decide (y2.1 < 0)) (some (false, ())) (spec_FarmFair.G0 (300 + l.length + m.length + gs.length + ms.length) (spec_FarmFair.A0 c l m u gs ms) (spec_FarmFair.A1 (spec_FarmFair.G1 (300 + l.length + m.length + gs.length + ms.length) (spec_FarmFair.A2 c l m u gs ms) (spec_FarmFair.A3 (spec_FarmFair.G2 (300 + l.length + m.length + gs.length + ms.length) (spec_FarmFair.A4 c l m u gs ms) (spec_FarmFair.A5 c l m u gs ms) (300 + l.length + m.length + gs.length + ms.length)) c l m u gs ms) (300 + l.length + m.length + gs.length + ms.length)) c l m u gs ms) (300 + l.length + m.length + gs.length + ms.length) u gs ms 0 c l m)) (spec_FarmFair.G0 (300 + l.length + m.length + gs.length + ms.length) (spec_FarmFair.A0 c l m u gs ms) (spec_FarmFair.A1 (spec_FarmFair.G1 (300 + l.length + m.length + gs.length + ms.length) (spec_FarmFair.A2 c l m u gs ms) (spec_FarmFair.A3 (spec_FarmFair.G2 (300 + l.length + m.length + gs.length + ms.length) (spec_FarmFair.A4 c l m u gs ms) (spec_FarmFair.A5 c l m u gs ms) (300 + l.length + m.length + gs.length + ms.length)) c l m u gs ms) (300 + l.length + m.length + gs.length + ms.length)) c l m u gs ms) (300 + l.length + m.length + gs.length + ms.length) u gs ms 0 c l m)) =
      some (bb ((∀ i, i < l.length → (gs.getD i (0, 0, ())).1 = (g4 l i).1) ∧ ((∀ i, i < m.length → (ms.getD i (0, 0, ())).1 = (g4 m i).1) ∧ (amountP has ∧ ∀ i, i < (itsA l m (fI F) u).length → kvA l m u (am gs) (am ms) i = fA l m (fI F) u has i))), ()) := by
    have a3 : spec_FarmFair.A3 (spec_FarmFair.G2 (300 + l.length + m.length + gs.length + ms.length) (spec_FarmFair.A4 c l m u gs ms) (spec_FarmFair.A5 c l m u gs ms) (300 + l.length + m.length + gs.length + ms.length)) c l m u gs ms u gs ms c l m = some (bb (amountP has ∧ ∀ i, i < (itsA l m (fI F) u).length → kvA l m u (am gs) (am ms) i = fA l m (fI F) u has i), ()) := by
      simp only [spec_FarmFair.A3]
      have tail : ∀ z, z = has → ((F_spec_l03Amount (z, ())).bind fun y2 => cond (!y2.1) (some (false, ())) ((F_spec_l05Kids (c, l, m, u, ())).bind fun y3 => (F_spec_l05Fill (z, y3.2.1, ())).bind fun y4 => spec_FarmFair.G2 (300 + l.length + m.length + gs.length + ms.length) (spec_FarmFair.A4 c l m u gs ms) (spec_FarmFair.A5 c l m u gs ms) (300 + l.length + m.length + gs.length + ms.length) gs ms 0 y3.1 y4.1)) = some (bb (amountP has ∧ ∀ i, i < (itsA l m (fI F) u).length → kvA l m u (am gs) (am ms) i = fA l m (fI F) u has i), ()) := by
        rintro z rfl
        rw [F_sAmount]
        simp only [Option.bind_some]
        by_cases hz : amountP z
        · rw [bb_true hz]
          simp only [Bool.not_true, cond_false]
          rw [specKids h u F hFs hFl]
          simp only [Option.bind_some]
          rw [fill_s h (fI F) hF _ _ (by unfold amountP at hz; omega)]
          simp only [Option.bind_some]
          rw [fairLoop h _ _ _ rfl rfl (fI F) u z gs ms hG hM _ (by omega)]
          refine congrArg (fun b => some (b, ())) (bb_congr ?_)
          exact ⟨fun x => ⟨hz, x⟩, fun x => x.2⟩
        · rw [bb_neg hz, bb_neg fun x => hz x.1]
          rfl
      by_cases hu0 : u = 0
      · rw [show (u != 0) = false by rw [hu0]; rfl, cond_false]
        exact tail c (by rw [hhas, if_pos hu0])
      · obtain ⟨e1, e2⟩ := hpq hu0
        rw [show (u != 0) = true by simpa using hu0, cond_true, hp, e1]
        simp only [Option.bind_some, rd_cast]
        rw [if_pos (by omega)]
        exact tail _ (by rw [hhas, if_neg hu0])
    have g1 : spec_FarmFair.G1 (300 + l.length + m.length + gs.length + ms.length) (spec_FarmFair.A2 c l m u gs ms) (spec_FarmFair.A3 (spec_FarmFair.G2 (300 + l.length + m.length + gs.length + ms.length) (spec_FarmFair.A4 c l m u gs ms) (spec_FarmFair.A5 c l m u gs ms) (300 + l.length + m.length + gs.length + ms.length)) c l m u gs ms) (300 + l.length + m.length + gs.length + ms.length) u gs ms 0 c l m = some (bb ((∀ i, i < m.length → (ms.getD i (0, 0, ())).1 = (g4 m i).1) ∧ (amountP has ∧ ∀ i, i < (itsA l m (fI F) u).length → kvA l m u (am gs) (am ms) i = fA l m (fI F) u has i)), ()) := by
      refine scanC (g := fun k i => spec_FarmFair.G1 (300 + l.length + m.length + gs.length + ms.length) (spec_FarmFair.A2 c l m u gs ms) (spec_FarmFair.A3 (spec_FarmFair.G2 (300 + l.length + m.length + gs.length + ms.length) (spec_FarmFair.A4 c l m u gs ms) (spec_FarmFair.A5 c l m u gs ms) (300 + l.length + m.length + gs.length + ms.length)) c l m u gs ms) k u gs ms (i : Nat) c l m) (fun k i hi _ => ?_) (fun _ k => ?_) _ (by omega)
      · simp only [spec_FarmFair.G1, spec_FarmFair.R1, rd_cast]
        rw [decide_eq_true (by omega), cond_true, if_pos (by omega), if_pos (by omega), w64_in _ (by omega)]
        constructor
        · intro e; rw [e, bne_self_eq_false, cond_false]; rfl
        · intro e; rw [show ((ms.getD i (0, 0, ())).1 != (m.getD i (0, 0, 0, 0, ())).1) = true from bne_iff_ne.2 e, cond_true]; rfl
      · simp only [spec_FarmFair.G1, spec_FarmFair.R1]
        rw [decide_eq_false (by omega), cond_false]
        exact a3
    have g0 : spec_FarmFair.G0 (300 + l.length + m.length + gs.length + ms.length) (spec_FarmFair.A0 c l m u gs ms) (spec_FarmFair.A1 (spec_FarmFair.G1 (300 + l.length + m.length + gs.length + ms.length) (spec_FarmFair.A2 c l m u gs ms) (spec_FarmFair.A3 (spec_FarmFair.G2 (300 + l.length + m.length + gs.length + ms.length) (spec_FarmFair.A4 c l m u gs ms) (spec_FarmFair.A5 c l m u gs ms) (300 + l.length + m.length + gs.length + ms.length)) c l m u gs ms) (300 + l.length + m.length + gs.length + ms.length)) c l m u gs ms) (300 + l.length + m.length + gs.length + ms.length) u gs ms 0 c l m = some (bb ((∀ i, i < l.length → (gs.getD i (0, 0, ())).1 = (g4 l i).1) ∧ ((∀ i, i < m.length → (ms.getD i (0, 0, ())).1 = (g4 m i).1) ∧ (amountP has ∧ ∀ i, i < (itsA l m (fI F) u).length → kvA l m u (am gs) (am ms) i = fA l m (fI F) u has i))), ()) := by
      refine scanC (g := fun k i => spec_FarmFair.G0 (300 + l.length + m.length + gs.length + ms.length) (spec_FarmFair.A0 c l m u gs ms) (spec_FarmFair.A1 (spec_FarmFair.G1 (300 + l.length + m.length + gs.length + ms.length) (spec_FarmFair.A2 c l m u gs ms) (spec_FarmFair.A3 (spec_FarmFair.G2 (300 + l.length + m.length + gs.length + ms.length) (spec_FarmFair.A4 c l m u gs ms) (spec_FarmFair.A5 c l m u gs ms) (300 + l.length + m.length + gs.length + ms.length)) c l m u gs ms) (300 + l.length + m.length + gs.length + ms.length)) c l m u gs ms) k u gs ms (i : Nat) c l m) (fun k i hi _ => ?_) (fun _ k => ?_) _ (by omega)
      · simp only [spec_FarmFair.G0, spec_FarmFair.R0, rd_cast]
        rw [decide_eq_true (by omega), cond_true, if_pos (by omega), if_pos (by omega), w64_in _ (by omega)]
        constructor
        · intro e; rw [e, bne_self_eq_false, cond_false]; rfl
        · intro e; rw [show ((gs.getD i (0, 0, ())).1 != (l.getD i (0, 0, 0, 0, ())).1) = true from bne_iff_ne.2 e, cond_true]; rfl
      · simp only [spec_FarmFair.G0, spec_FarmFair.R0]
        rw [decide_eq_false (by omega), cond_false]
        exact g1
    rw [g0]
    by_cases hu0 : u = 0
    · rw [show (u != 0) = false by rw [hu0]; rfl, cond_false]
    · obtain ⟨e1, e2⟩ := hpq hu0
      rw [show (u != 0) = true by simpa using hu0, cond_true, hp, e1]
      simp only [Option.bind_some]
      rw [decide_eq_false (by omega), cond_false]
  have im : impl_FarmFair.G0 (300 + l.length + m.length + gs.length + ms.length) (impl_FarmFair.A0 c l m u gs ms) (impl_FarmFair.A1 (impl_FarmFair.G1 (300 + l.length + m.length + gs.length + ms.length) (impl_FarmFair.A2 c l m u gs ms) (impl_FarmFair.A3 c l m u gs ms) (300 + l.length + m.length + gs.length + ms.length)) c l m u gs ms) (300 + l.length + m.length + gs.length + ms.length) u gs ms l (l.length : Int) 0 c l m =
      some (bb ((∀ i, i < l.length → (gs.getD i (0, 0, ())).1 = (g4 l i).1) ∧ ((∀ i, i < m.length → (ms.getD i (0, 0, ())).1 = (g4 m i).1) ∧ (amountP has ∧ ∀ i, i < (itsA l m (fI F) u).length → kvA l m u (am gs) (am ms) i = fA l m (fI F) u has i))), ()) := by
    have a3 : (∀ i, i < l.length → (gs.getD i (0, 0, ())).1 = (g4 l i).1) → (∀ i, i < m.length → (ms.getD i (0, 0, ())).1 = (g4 m i).1) → impl_FarmFair.A3 c l m u gs ms u gs ms c l m = some (bb (amountP has ∧ ∀ i, i < (itsA l m (fI F) u).length → kvA l m u (am gs) (am ms) i = fA l m (fI F) u has i), ()) := by
      intro ig im
      simp only [impl_FarmFair.A3]
      have tail : ∀ z, z = has → ((F_impl_isAmount (z, ())).bind fun y2 => cond (!y2.1) (some (false, ())) ((F_slices_Clone_impl_Part_impl_Part (gs, ())).bind fun y3 => (F_slices_Clone_impl_Part_impl_Part (ms, ())).bind fun y4 => (F_impl_Farm_pour (c, l, m, u, z, y3.1, y4.1, ())).bind fun y5 => (F_slices_Equal_impl_Part_impl_Part (y5.1, gs, ())).bind fun y6 => cond y6.1 ((F_slices_Equal_impl_Part_impl_Part (y5.2.1, ms, ())).bind fun y7 => some (y7.1, ())) (some (false, ())))) = some (bb (amountP has ∧ ∀ i, i < (itsA l m (fI F) u).length → kvA l m u (am gs) (am ms) i = fA l m (fI F) u has i), ()) := by
        rintro z rfl
        rw [F_iAmount]
        simp only [Option.bind_some]
        by_cases hz : amountP z
        · rw [bb_true hz]
          obtain ⟨x, y, e1, e2, e3, e4⟩ := fairPour h (fI F) hF hW u z hz gs ms hG hM ig im
          simp only [Bool.not_true, cond_false, F_clone gs hgs, F_clone ms hms, e1, F_equalP x gs (by omega), F_equalP y ms (by omega), Option.bind_some]
          rw [bb_congr ⟨fun (w : amountP z ∧ _) => e4.2 w.2, fun w => ⟨hz, e4.1 w⟩⟩]
          by_cases hx : x = gs
          · rw [bb_true hx, cond_true]
            refine congrArg (fun b => some (b, ())) (bb_congr ?_)
            exact ⟨fun w => ⟨hx, w⟩, fun w => w.2⟩
          · rw [bb_neg hx, cond_false, bb_neg fun w => hx w.1]
        · rw [bb_neg hz, bb_neg fun x => hz x.1]
          rfl
      rw [hq]
      simp only [Option.bind_some]
      by_cases hu0 : u = 0
      · rw [bb_neg (by rw [hu0]; exact hpos), cond_false]
        exact tail c (by rw [hhas, if_pos hu0])
      · obtain ⟨e1, e2⟩ := hpq hu0
        rw [bb_true (by rcases hu with h1 | h1; exact absurd h1 hu0; exact h1), cond_true, if_pos (by omega)]
        simp only [rd_cast]
        exact tail _ (by rw [hhas, if_neg hu0])
    have g1 : (∀ i, i < l.length → (gs.getD i (0, 0, ())).1 = (g4 l i).1) → impl_FarmFair.G1 (300 + l.length + m.length + gs.length + ms.length) (impl_FarmFair.A2 c l m u gs ms) (impl_FarmFair.A3 c l m u gs ms) (300 + l.length + m.length + gs.length + ms.length) u gs ms m (m.length : Int) 0 c l m = some (bb ((∀ i, i < m.length → (ms.getD i (0, 0, ())).1 = (g4 m i).1) ∧ (amountP has ∧ ∀ i, i < (itsA l m (fI F) u).length → kvA l m u (am gs) (am ms) i = fA l m (fI F) u has i)), ()) := by
      intro ig
      refine scanC (g := fun k i => impl_FarmFair.G1 (300 + l.length + m.length + gs.length + ms.length) (impl_FarmFair.A2 c l m u gs ms) (impl_FarmFair.A3 c l m u gs ms) k u gs ms m (m.length : Int) (i : Nat) c l m) (fun k i hi _ => ?_) (fun hall k => ?_) _ (by omega)
      · simp only [impl_FarmFair.G1, impl_FarmFair.R1, rd_cast]
        rw [decide_eq_true (by omega), cond_true, if_pos (by omega), if_pos (by omega), w64_in _ (by omega)]
        constructor
        · intro e; rw [e, bne_self_eq_false, cond_false]; rfl
        · intro e; rw [show ((ms.getD i (0, 0, ())).1 != (m.getD i (0, 0, 0, 0, ())).1) = true from bne_iff_ne.2 e, cond_true]; rfl
      · simp only [impl_FarmFair.G1, impl_FarmFair.R1]
        rw [decide_eq_false (by omega), cond_false]
        exact a3 ig hall
    refine scanC (g := fun k i => impl_FarmFair.G0 (300 + l.length + m.length + gs.length + ms.length) (impl_FarmFair.A0 c l m u gs ms) (impl_FarmFair.A1 (impl_FarmFair.G1 (300 + l.length + m.length + gs.length + ms.length) (impl_FarmFair.A2 c l m u gs ms) (impl_FarmFair.A3 c l m u gs ms) (300 + l.length + m.length + gs.length + ms.length)) c l m u gs ms) k u gs ms l (l.length : Int) (i : Nat) c l m) (fun k i hi _ => ?_) (fun hall k => ?_) _ (by omega)
    · simp only [impl_FarmFair.G0, impl_FarmFair.R0, rd_cast]
      rw [decide_eq_true (by omega), cond_true, if_pos (by omega), if_pos (by omega), w64_in _ (by omega)]
      constructor
      · intro e; rw [e, bne_self_eq_false, cond_false]; rfl
      · intro e; rw [show ((gs.getD i (0, 0, ())).1 != (l.getD i (0, 0, 0, 0, ())).1) = true from bne_iff_ne.2 e, cond_true]; rfl
    · simp only [impl_FarmFair.G0, impl_FarmFair.R0]
      rw [decide_eq_false (by omega), cond_false]
      exact g1 hall
  exact ⟨_, sp, im⟩
theorem lawFarmFair (c : Int) (l m : List I4) (u : Int) (gs ms : P3) (hl : l.length ≤ 140737488355328) (hm : m.length ≤ 140737488355328) (hgs : gs.length ≤ 140737488355328) (hms : ms.length ≤ 140737488355328) : F_laws_FnExactFarmFair (c, l, m, u, gs, ms, ()) = some (true, ()) := by
  obtain ⟨z, hz, h2, h3⟩ := szFarm c l m 1048576 (by omega) (by omega) hl hm
  simp only [F_laws_FnExactFarmFair, laws_FnExactFarmFair.T, hz, Option.bind_some]
  simp only [List.mem_cons, List.not_mem_nil, or_false, forall_eq_or_imp, forall_eq] at h3
  by_cases h : z < 0
  · rw [decide_eq_true h]; rfl
  rw [decide_eq_false h]
  obtain ⟨k4, k5⟩ := h3 (by omega)
  obtain ⟨z1, hz1, g2, g3⟩ := szPartS gs z (by omega) (by omega) hgs
  simp only [hz1, Option.bind_some, cond_false]
  simp only [List.mem_cons, List.not_mem_nil, or_false, forall_eq] at g3
  by_cases h' : z1 < 0
  · rw [decide_eq_true h']; rfl
  rw [decide_eq_false h']
  have k6 := g3 (by omega)
  obtain ⟨z2, hz2, e2, e3⟩ := szPartS ms z1 (by omega) (by omega) hms
  simp only [hz2, Option.bind_some, cond_false]
  simp only [List.mem_cons, List.not_mem_nil, or_false, forall_eq] at e3
  by_cases h'' : z2 < 0
  · rw [decide_eq_true h'']; rfl
  rw [decide_eq_false h'']
  have k7 := e3 (by omega)
  have k4' : l.length ≤ 1048576 := by omega
  have k5' : m.length ≤ 1048576 := by omega
  have k6' : gs.length ≤ 1048576 := by omega
  have k7' : ms.length ≤ 1048576 := by omega
  obtain ⟨b, f1, f2⟩ := fairEq c l m u gs ms k4' k5' k6' k7'
  simp only [toFarm c l m k4' k5', toPartS gs k6', toPartS ms k7', f1, f2, eqPartS gs k6', eqPartS ms k7', eqFarm c l m k4' k5', Option.bind_some, cond_false, Bool.not_true, beq_self_eq_true]
theorem pureFarmFair : ∀ x : CTs.V (insC ins_laws_FnExactFarmFair), CTs.ok (insC ins_laws_FnExactFarmFair) x → F_laws_FnExactFarmFair x = some (true, ()) := by
  rintro ⟨c, l, m, u, gs, ms, ⟨⟩⟩ h
  obtain ⟨-, ⟨h4, -⟩, ⟨h5, -⟩, -, ⟨h6, -⟩, ⟨h7, -⟩, -⟩ := h
  exact lawFarmFair c l m u gs ms (len_of (α := I4) 32 (by omega) h4) (len_of (α := I4) 32 (by omega) h5) (len_of (α := Int × Int × Unit) 16 (by omega) h6) (len_of (α := Int × Int × Unit) 16 (by omega) h7)
end Go.Rv
