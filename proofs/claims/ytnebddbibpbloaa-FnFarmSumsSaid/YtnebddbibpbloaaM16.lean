/- Plain facts: FarmFair-spec. -/
import Derived.Test.YtnebddbibpbloaaM15
set_option linter.unusedVariables false
set_option linter.unusedSimpArgs false
set_option linter.unusedSectionVars false
namespace Go.Rv
abbrev P3 := List (Int × Int × Unit)
def amountP (z : Int) : Prop := 0 ≤ z ∧ z ≤ 67553994410557440
theorem F_iAmount (z : Int) : F_impl_isAmount (z, ()) = some (bb (amountP z), ()) := by
  simp only [F_impl_isAmount, impl_isAmount.T, F_iin, Option.bind_some]
  rfl
theorem F_clone (xs : P3) (h : xs.length ≤ 1048576) : F_slices_Clone_impl_Part_impl_Part (xs, ()) = some (xs, ()) := by
  simp only [F_slices_Clone_impl_Part_impl_Part, slices_Clone_impl_Part_impl_Part.T, List.nil_append, List.length_nil, Nat.zero_add]
  rw [if_pos (show xs.length ≤ maxRow by unfold maxRow; omega)]
  by_cases h0 : xs.length = 0
  · have : xs = [] := List.eq_nil_of_length_eq_zero h0
    subst this
    simp
  · rw [if_neg h0]
theorem F_equalP (xs ys : P3) (hx : xs.length ≤ 1048576) : F_slices_Equal_impl_Part_impl_Part (xs, ys, ()) = some (bb (xs = ys), ()) := by
  simp only [F_slices_Equal_impl_Part_impl_Part, slices_Equal_impl_Part_impl_Part.FF, slices_Equal_impl_Part_impl_Part.T]
  by_cases hl : xs.length = ys.length
  · rw [show ((xs.length : Int) != (ys.length : Int)) = false by simp [hl], cond_false]
    rw [bb_congr (show xs = ys ↔ ∀ j, j < xs.length → xs.getD j (0, 0, ()) = ys.getD j (0, 0, ()) from ⟨fun e => by rw [e]; intros; rfl, fun e => List.ext_getElem hl fun i h1 h2 => by
      have := e i h1
      simpa [List.getD_eq_getElem?_getD, h1, h2] using this⟩)]
    refine scanB (g := fun k i => slices_Equal_impl_Part_impl_Part.G0 (300 + xs.length + ys.length) (slices_Equal_impl_Part_impl_Part.A0 xs ys) (slices_Equal_impl_Part_impl_Part.A1 xs ys) k xs ys (xs.length : Int) (i : Nat)) (fun k i hi _ => ?_) (fun _ k => ?_) _ (by omega)
    · have hw : w64 ((i : Int) + 1) = ((i + 1 : Nat) : Int) := w64_in _ (by omega)
      simp only [slices_Equal_impl_Part_impl_Part.G0, slices_Equal_impl_Part_impl_Part.R0, rd_cast, hw]
      rw [decide_eq_true (by omega), cond_true, if_pos (by omega), if_pos (by omega)]
      generalize xs.getD i (0, 0, ()) = a
      generalize ys.getD i (0, 0, ()) = b
      obtain ⟨a1, a2, _⟩ := a
      obtain ⟨b1, b2, _⟩ := b
      simp only [Prod.mk.injEq, and_true, Bool.and_true]
      constructor
      · rintro ⟨rfl, rfl⟩
        simp
      · intro hne
        have : (a1 == b1 && a2 == b2) = false := by
          rw [← Bool.not_eq_true]; simpa using hne
        rw [this]; rfl
    · simp only [slices_Equal_impl_Part_impl_Part.G0, slices_Equal_impl_Part_impl_Part.R0]
      rw [decide_eq_false (by omega), cond_false]
      rfl
  · rw [show ((xs.length : Int) != (ys.length : Int)) = true by simp; omega, cond_true, bb_neg fun e => hl (by rw [e])]
def idsP (l : List I4) (x : P3) : Prop := ∀ i, i < l.length → (x.getD i (0, 0, ())).1 = (g4 l i).1
def am (x : P3) : List (Int × Unit) := x.map fun y => (y.2.1, ())
theorem am_len (x : P3) : (am x).length = x.length := by simp [am]
theorem am_fI (x : P3) (q : Nat) : fI (am x) q = (x.getD q (0, 0, ())).2.1 := by
  simp only [fI, am, List.getD_eq_getElem?_getD, List.getElem?_map]
  cases x[q]? <;> rfl
theorem pr_am (l : List I4) (x : P3) (hl : x.length = l.length) (h : idsP l x) : pr l (am x) = x := by
  apply List.ext_getElem
  · simp [pr, am]
  · intro i h1 h2
    have := h i (by omega)
    simp [List.getD_eq_getElem?_getD, h2] at this
    simp only [pr, am, List.getElem_mapIdx, List.getElem_map]
    exact Prod.ext (by simpa [List.getD_eq_getElem?_getD] using this.symm) rfl
theorem pr_inj (l : List I4) (A B : List (Int × Unit)) (hl : A.length = B.length) : pr l A = pr l B ↔ A = B := by
  refine ⟨fun e => List.ext_getElem hl fun i h1 h2 => ?_, fun e => by rw [e]⟩
  have := congrArg (fun z => z[i]?) e
  simp only [pr, List.getElem?_mapIdx, List.getElem?_eq_getElem h1, List.getElem?_eq_getElem h2, Option.map_some, Option.some.injEq, Prod.mk.injEq, true_and, and_true] at this
  exact Prod.ext this rfl
theorem plc_nodup (l : List I4) (id : Int) (k : Nat) : (plc l id k).Nodup := List.Pairwise.filter _ List.nodup_range
theorem updA_iff (A : List (Int × Unit)) (ps : List Nat) (f : Nat → Int) (hnd : ps.Nodup) : ∀ n, n ≤ ps.length → (∀ j, j < n → ps.getD j 0 < A.length) → (updA A ps f n = A ↔ ∀ j, j < n → f j = fI A (ps.getD j 0)) := by
  have g1 : ∀ n, n ≤ ps.length → (∀ j, j < n → ps.getD j 0 < A.length) → ∀ j, j < n → fI (updA A ps f n) (ps.getD j 0) = f j := by
    intro n
    induction n with
    | zero => intro _ _ j hj; omega
    | succ n ih =>
      intro hn hlt j hj
      simp only [updA]
      unfold fI
      rw [List.getD_eq_getElem?_getD, List.getElem?_set]
      by_cases e : j = n
      · subst e
        rw [if_pos rfl, updA_len, if_pos (hlt j hj)]; rfl
      · rw [if_neg (fun hc => by
          have h1 : ps.getD n 0 = ps[n] := by simp [List.getD_eq_getElem?_getD, show n < ps.length by omega]
          have h2 : ps.getD j 0 = ps[j] := by simp [List.getD_eq_getElem?_getD, show j < ps.length by omega]
          rw [h1, h2] at hc
          exact e ((List.getElem_inj hnd).1 hc).symm), ← List.getD_eq_getElem?_getD]
        exact ih (by omega) (fun j hj => hlt j (by omega)) j (by omega)
  intro n hn hlt
  constructor
  · intro e j hj
    rw [← g1 n hn hlt j hj, e]
  · induction n with
    | zero => intro _; rfl
    | succ n ih =>
      intro he
      simp only [updA]
      rw [ih (by omega) (fun j hj => hlt j (by omega)) (fun j hj => he j (by omega)), he n (by omega)]
      have hq := hlt n (by omega)
      apply List.ext_getElem?
      intro i
      rw [List.getElem?_set]
      by_cases e : ps.getD n 0 = i
      · rw [if_pos e, if_pos hq, ← e, List.getElem?_eq_getElem hq]
        generalize ps.getD n 0 = z at hq ⊢
        simp only [fI, List.getD_eq_getElem?_getD, List.getElem?_eq_getElem hq, Option.getD_some]
      · rw [if_neg e]
/-- what is compared at a kid -/
def kvA (l m : List I4) (id : Int) (G M : List (Int × Unit)) (i : Nat) : Int := if i < (gp l id).length then fI G ((gp l id).getD i 0) else fI M ((gp m id).getD (i - (gp l id).length) 0)
section
variable {c : Int} {l m : List I4} (h : farmP c l m)
include h
theorem fairPour (F : Nat → Int) (hF : smallF F) (hW : isW l m F) (id a : Int) (ha : amountP a) (gs ms : P3) (hG : gs.length = l.length) (hM : ms.length = m.length) (ig : idsP l gs) (im : idsP m ms) :
    ∃ x y, F_impl_Farm_pour (c, l, m, id, a, gs, ms, ()) = some (x, y, ()) ∧ x.length = gs.length ∧ y.length = ms.length ∧ ((x = gs ∧ y = ms) ↔ ∀ i, i < (itsA l m F id).length → kvA l m id (am gs) (am ms) i = fA l m F id a i) := by
  have hlen : (itsA l m F id).length = (gp l id).length + (gp m id).length := its_len h F id
  have hA : (am gs).length = l.length := by rw [am_len, hG]
  have hB : (am ms).length = m.length := by rw [am_len, hM]
  have hp := implPour h F hF hW id a (by unfold amountP at ha; omega) (am gs) (am ms) hA hB
  rw [pr_am l gs hG ig, pr_am m ms hM im] at hp
  refine ⟨_, _, hp, by rw [pr_len, pG, updA_len, am_len], by rw [pr_len, pM, updA_len, am_len], ?_⟩
  have e1 : pr l (pG l m F id a (am gs)) = gs ↔ ∀ j, j < (gp l id).length → fA l m F id a j = fI (am gs) ((gp l id).getD j 0) := by
    conv => lhs; rhs; rw [← pr_am l gs hG ig]
    rw [pr_inj _ _ _ (by rw [pG, updA_len])]
    exact updA_iff _ _ _ (plc_nodup _ _ _) _ (Nat.le_refl _) fun j hj => by rw [hA]; exact plc_get hj
  have e2 : pr m (pM l m F id a (am ms)) = ms ↔ ∀ j, j < (gp m id).length → fA l m F id a ((gp l id).length + j) = fI (am ms) ((gp m id).getD j 0) := by
    conv => lhs; rhs; rw [← pr_am m ms hM im]
    rw [pr_inj _ _ _ (by rw [pM, updA_len])]
    exact updA_iff _ _ _ (plc_nodup _ _ _) _ (Nat.le_refl _) fun j hj => by rw [hB]; exact plc_get hj
  rw [e1, e2]
  constructor
  · rintro ⟨x1, x2⟩ i hi
    unfold kvA
    by_cases hg : i < (gp l id).length
    · rw [if_pos hg]; exact (x1 i hg).symm
    · rw [if_neg hg]
      have := x2 (i - (gp l id).length) (by omega)
      rw [show (gp l id).length + (i - (gp l id).length) = i by omega] at this
      exact this.symm
  · intro x
    refine ⟨fun j hj => ?_, fun j hj => ?_⟩
    · have := x j (by omega)
      unfold kvA at this
      rw [if_pos hj] at this
      exact this.symm
    · have := x ((gp l id).length + j) (by omega)
      unfold kvA at this
      rw [if_neg (by omega), Nat.add_sub_cancel_left] at this
      exact this.symm
end
end Go.Rv
