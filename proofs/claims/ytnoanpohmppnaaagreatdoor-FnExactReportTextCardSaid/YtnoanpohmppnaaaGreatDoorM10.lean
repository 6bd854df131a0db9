/- Plain facts: farm. -/
import Derived.Test.YtnoanpohmppnaaaGreatDoorM09
set_option linter.unusedVariables false
set_option linter.unusedSimpArgs false
set_option linter.unusedSectionVars false
namespace Go.Rv
abbrev I4 := Int × Int × Int × Int × Unit
abbrev I3 := Int × Int × Int × Unit
abbrev g4 (l : List I4) (i : Nat) : I4 := l.getD i (0, 0, 0, 0, ())
abbrev g3 (l : List I3) (i : Nat) : I3 := l.getD i (0, 0, 0, ())
def idP (z : Int) : Prop := 1 ≤ z ∧ z ≤ 1000000
def wantP (z : Int) : Prop := 0 ≤ z ∧ z ≤ 1125899906842624
def weightP (z : Int) : Prop := 1 ≤ z ∧ z ≤ 1073741824
def timeP (z : Int) : Prop := 0 ≤ z ∧ z ≤ 1000000
def hasP (l : List I4) (n : Nat) (u : Int) : Prop := ∃ p, p < n ∧ (g4 l p).1 = u
def grpP (l : List I4) (i : Nat) : Prop := idP (g4 l i).1 ∧ (0 < i → (g4 l (i - 1)).1 < (g4 l i).1) ∧ ((g4 l i).2.1 = 0 ∨ hasP l i (g4 l i).2.1) ∧ wantP (g4 l i).2.2.1 ∧ weightP (g4 l i).2.2.2.1
def memP (l m : List I4) (i : Nat) : Prop := idP (g4 m i).1 ∧ (0 < i → (g4 m (i - 1)).1 < (g4 m i).1) ∧ ((g4 m i).2.1 = 0 ∨ hasP l l.length (g4 m i).2.1) ∧ wantP (g4 m i).2.2.1 ∧ weightP (g4 m i).2.2.2.1
def farmP (c : Int) (l m : List I4) : Prop := wantP c ∧ l.length ≤ 30 ∧ m.length ≤ 60 ∧ (∀ i, i < l.length → grpP l i) ∧ (∀ i, i < m.length → memP l m i)
theorem F_l02Id (n : Int) : F_spec_l02Id (n, ()) = some (bb (idP n), ()) := by
 simp only [F_spec_l02Id, spec_l02Id.T, ← bb_dec]
 by_cases h : n ≥ 1
 ·rw [bb_true h]; simp only [cond_true]; congr 2; exact bb_congr (by unfold idP; omega)
 ·rw [bb_neg h]; simp only [cond_false]; congr 2; exact (bb_neg (by unfold idP; omega)).symm
theorem F_l02Want (n : Int) : F_spec_l02Want (n, ()) = some (bb (wantP n), ()) := by
 simp only [F_spec_l02Want, spec_l02Want.T, ← bb_dec]
 by_cases h : n ≥ 0
 ·rw [bb_true h]; simp only [cond_true]; congr 2; exact bb_congr (by unfold wantP; omega)
 ·rw [bb_neg h]; simp only [cond_false]; congr 2; exact (bb_neg (by unfold wantP; omega)).symm
theorem F_l02Weight (n : Int) : F_spec_l02Weight (n, ()) = some (bb (weightP n), ()) := by
 simp only [F_spec_l02Weight, spec_l02Weight.T, ← bb_dec]
 by_cases h : n ≥ 1
 ·rw [bb_true h]; simp only [cond_true]; congr 2; exact bb_congr (by unfold weightP; omega)
 ·rw [bb_neg h]; simp only [cond_false]; congr 2; exact (bb_neg (by unfold weightP; omega)).symm
theorem F_iin (n a b : Int) : F_impl_in (n, a, b, ()) = some (bb (a ≤ n ∧ n ≤ b), ()) := by
 simp only [F_impl_in, impl_in.T, ← bb_dec]
 by_cases h : a ≤ n
 ·rw [bb_true h]; simp only [cond_true]; congr 2; exact bb_congr (by omega)
 ·rw [bb_neg h]; simp only [cond_false]; congr 2; exact (bb_neg (by omega)).symm
theorem F_iId (n : Int) : F_impl_isId (n, ()) = some (bb (idP n), ()) := by simp only [F_impl_isId, impl_isId.T, F_iin, Option.bind_some]; rfl
theorem F_iWant (n : Int) : F_impl_isWant (n, ()) = some (bb (wantP n), ()) := by simp only [F_impl_isWant, impl_isWant.T, F_iin, Option.bind_some]; rfl
theorem F_iWeight (n : Int) : F_impl_isWeight (n, ()) = some (bb (weightP n), ()) := by simp only [F_impl_isWeight, impl_isWeight.T, F_iin, Option.bind_some]; rfl
/-- the first place of an id -/
theorem F_l05Group (c : Int) (l m : List I4) (u : Int) (hl : l.length ≤ 1048576) : ∃ p : Int, F_spec_l05Group (c, l, m, u, ()) = some (p, ()) ∧ ((¬ hasP l l.length u ∧ p = -1) ∨ ∃ q : Nat, p = q ∧ q < l.length ∧ (g4 l q).1 = u ∧ ∀ j, j < q → (g4 l j).1 ≠ u) := by
 have key : ∀ (k0 k i : Nat), i ≤ l.length → l.length - i < k → (∀ j, j < i → (g4 l j).1 ≠ u) → ∃ p : Int, spec_l05Group.G0 k0 (fun t => spec_l05Group.A0 c l m u t) (fun _ => spec_l05Group.A1 c l m u ()) k u i c l m = some (p, ()) ∧ ((¬ hasP l l.length u ∧ p = -1) ∨ ∃ q : Nat, p = q ∧ q < l.length ∧ (g4 l q).1 = u ∧ ∀ j, j < q → (g4 l j).1 ≠ u) := by
  intro k0 k
  induction k with
  | zero => intro i _ h; omega
  | succ k ih =>
   intro i hi hk hb
   rw [spec_l05Group.G0, spec_l05Group.R0]
   by_cases h : i < l.length
   ·have hw : w64 ((i : Int) + 1) = ((i + 1 : Nat) : Int) := w64_in _ (by omega)
    rw [hw, decide_eq_true (by omega), cond_true, if_pos (by omega)]
    by_cases hu : (rd (0, 0, 0, 0, ()) l (i : Int)).1 = u
    ·rw [show ((rd (0, 0, 0, 0, ()) l (i : Int)).1 == u) = true by simpa using hu]
     exact ⟨i, rfl, Or.inr ⟨i, rfl, h, hu, hb⟩⟩
    ·rw [show ((rd (0, 0, 0, 0, ()) l (i : Int)).1 == u) = false by simpa using hu]
     refine ih (i + 1) (by omega) (by omega) fun j hj => ?_
     by_cases hji : j = i
     ·subst hji; exact hu
     ·exact hb j (by omega)
   ·rw [decide_eq_false (by omega), cond_false]
    refine ⟨-1, rfl, Or.inl ⟨?_, rfl⟩⟩
    rintro ⟨p, hp, hpu⟩
    exact hb p (by omega) hpu
 exact key _ _ 0 (by omega) (by show _ < 300 + l.length + m.length; omega) (by intro j hj; omega)

theorem specFarm1 (k0 : Nat) (c : Int) (l m : List I4) (hl : l.length ≤ 1048576) (hm : m.length ≤ 1048576) (hx2 : Bool → Option (Bool × Unit)) (hx3 : Unit → Option (Bool × Unit)) (h2 : hx2 false = some (false, ())) (h3 : hx3 () = some (true, ())) (k : Nat) (hk : m.length < k) :
  spec_FarmRight.G1 k0 hx2 hx3 k 0 c l m = some (bb (∀ j, j < m.length → memP l m j), ()) := by
 refine scanB (g := fun k i => spec_FarmRight.G1 k0 hx2 hx3 k (i : Nat) c l m) (fun k i hi _ => ?_) (fun _ k => ?_) k hk
 ·obtain ⟨p, hp, hq⟩ := F_l05Group c l m (g4 m i).2.1 hl
  have hw : w64 ((i : Int) + 1) = ((i + 1 : Nat) : Int) := w64_in _ (by omega)
  simp only [spec_FarmRight.G1, spec_FarmRight.R1, rd_cast, hp, F_l02Id, F_l02Want, F_l02Weight, Option.bind_some, hw]
  have hn : p < 0 ↔ ¬ hasP l l.length (g4 m i).2.1 := by
   rcases hq with ⟨h, rfl⟩ | ⟨q, rfl, h1, h2, _⟩
   ·exact ⟨fun _ => h, fun _ => by omega⟩
   ·exact ⟨fun h => by omega, fun h => absurd ⟨q, h1, h2⟩ h⟩
  have hd : decide (i < (m.length : Int)) = true := decide_eq_true (by omega)
  unfold memP
  by_cases h0 : 0 < i
  ·have hw' : w64 ((i : Int) - 1) = ((i - 1 : Nat) : Int) := (w64_in _ (by omega)).trans (by omega)
   rw [hw']
   simp only [rd_cast]
   grind [= bb_iff]
  ·have : i = 0 := by omega
   subst this
   grind [= bb_iff]
 ·simp only [spec_FarmRight.G1, spec_FarmRight.R1]
  rw [decide_eq_false (by omega), cond_false, h3]

def grpS (l : List I4) (i : Nat) : Prop := idP (g4 l i).1 ∧ (0 < i → (g4 l (i - 1)).1 < (g4 l i).1) ∧ ((g4 l i).2.1 = 0 ∨ (hasP l l.length (g4 l i).2.1 ∧ (g4 l i).2.1 < (g4 l i).1)) ∧ wantP (g4 l i).2.2.1 ∧ weightP (g4 l i).2.2.2.1
theorem specFarm0 (k0 : Nat) (c : Int) (l m : List I4) (Q : Prop) (hl : l.length ≤ 1048576) (hx0 : Bool → Int → List I4 → List I4 → Option (Bool × Unit)) (hx1 : Int → List I4 → List I4 → Option (Bool × Unit)) (h2 : hx0 false c l m = some (false, ())) (h3 : hx1 c l m = some (bb Q, ())) (k : Nat) (hk : l.length < k) :
  spec_FarmRight.G0 k0 hx0 hx1 k 0 c l m = some (bb ((∀ j, j < l.length → grpS l j) ∧ Q), ()) := by
 refine scanC (g := fun k i => spec_FarmRight.G0 k0 hx0 hx1 k (i : Nat) c l m) (fun k i hi _ => ?_) (fun _ k => ?_) k hk
 ·obtain ⟨p, hp, hq⟩ := F_l05Group c l m (g4 l i).2.1 hl
  have hw : w64 ((i : Int) + 1) = ((i + 1 : Nat) : Int) := w64_in _ (by omega)
  simp only [spec_FarmRight.G0, spec_FarmRight.R0, rd_cast, hp, F_l02Id, F_l02Want, F_l02Weight, Option.bind_some, hw]
  have hn : p < 0 ↔ ¬ hasP l l.length (g4 l i).2.1 := by
   rcases hq with ⟨h, rfl⟩ | ⟨q, rfl, h1, h2, _⟩
   ·exact ⟨fun _ => h, fun _ => by omega⟩
   ·exact ⟨fun h => by omega, fun h => absurd ⟨q, h1, h2⟩ h⟩
  have hd : decide (i < (l.length : Int)) = true := decide_eq_true (by omega)
  unfold grpS
  by_cases h0 : 0 < i
  ·have hw' : w64 ((i : Int) - 1) = ((i - 1 : Nat) : Int) := (w64_in _ (by omega)).trans (by omega)
   rw [hw']
   simp only [rd_cast]
   grind [= bb_iff]
  ·have : i = 0 := by omega
   subst this
   grind [= bb_iff]
 ·simp only [spec_FarmRight.G0, spec_FarmRight.R0]
  rw [decide_eq_false (by omega), cond_false, h3]
def risingP (l : List I4) (n : Nat) : Prop := ∀ b, b < n → ∀ a, a < b → (g4 l a).1 < (g4 l b).1
theorem rising_of (l : List I4) (n : Nat) (h : ∀ i, i < n → 0 < i → (g4 l (i - 1)).1 < (g4 l i).1) : risingP l n := by
 intro b
 induction b with
 | zero => intro _ a ha; omega
 | succ b ih =>
  intro hb a ha
  have h1 := h (b + 1) hb (by omega)
  rw [show b + 1 - 1 = b by omega] at h1
  by_cases hab : a = b
  ·subst hab; exact h1
  ·exact Int.lt_trans (ih (by omega) a (by omega)) h1
theorem grpS_iff (l : List I4) : (∀ i, i < l.length → grpS l i) ↔ (∀ i, i < l.length → grpP l i) := by
 constructor
 ·intro h
  have hr := rising_of l l.length fun i hi => (h i hi).2.1
  intro i hi
  obtain ⟨h1, h2, h3, h4, h5⟩ := h i hi
  refine ⟨h1, h2, ?_, h4, h5⟩
  rcases h3 with h3 | ⟨⟨p, hp, hu⟩, h3⟩
  ·exact Or.inl h3
  ·refine Or.inr ⟨p, ?_, hu⟩
   rcases Nat.lt_trichotomy p i with h | h | h
   ·exact h
   ·subst h; omega
   ·have := hr p hp i h; omega
 ·intro h
  have hr := rising_of l l.length fun i hi => (h i hi).2.1
  intro i hi
  obtain ⟨h1, h2, h3, h4, h5⟩ := h i hi
  refine ⟨h1, h2, ?_, h4, h5⟩
  rcases h3 with h3 | ⟨p, hp, hu⟩
  ·exact Or.inl h3
  ·exact Or.inr ⟨⟨p, by omega, hu⟩, by have := hr i hi p hp; omega⟩
theorem specFarm (c : Int) (l m : List I4) (hl : l.length ≤ 1048576) (hm : m.length ≤ 1048576) : F_spec_FarmRight (c, l, m, ()) = some (bb (farmP c l m), ()) := by
 show spec_FarmRight.FF (300 + l.length + m.length) c l m = _
 simp only [spec_FarmRight.FF, spec_FarmRight.T, F_l02Want, Option.bind_some]
 have e1 := fun k0 => specFarm1 k0 c l m hl hm (fun t => spec_FarmRight.A2 c l m t) (fun _ => spec_FarmRight.A3 c l m ()) rfl rfl
 have e0 := specFarm0 (300 + l.length + m.length) c l m _ hl (fun t f f3 f4 => spec_FarmRight.A0 c l m t f f3 f4)
  (fun f f3 f4 => spec_FarmRight.A1 (fun i f f3 f4 => spec_FarmRight.G1 (300 + l.length + m.length) (fun t => spec_FarmRight.A2 c l m t) (fun _ => spec_FarmRight.A3 c l m ()) (300 + l.length + m.length) i f f3 f4) c l m f f3 f4) rfl
  (e1 _ _ (by omega)) (300 + l.length + m.length) (by omega)
 rw [e0, grpS_iff]
 unfold farmP
 grind [= bb_iff]
/-- comparing ids -/
def cmpZ (a b : Int) : Int := if a < b then -1 else if a > b then 1 else 0
theorem F_cmp (a b : Int) : F_cmp_Compare_int64 (a, b, ()) = some (cmpZ a b, ()) := by
 have h : ∀ x : Int, F_cmp_isNaN_int64 (x, ()) = some (false, ()) := fun x => by simp [F_cmp_isNaN_int64, cmp_isNaN_int64.T]
 simp only [F_cmp_Compare_int64, cmp_Compare_int64.T, h, Option.bind_some, cond_false]
 unfold cmpZ
 grind [= bb_iff]
theorem cmpZ_lt (a b : Int) : cmpZ a b < 0 ↔ a < b := by unfold cmpZ; split; omega; split <;> omega
theorem cmpZ_eq (a b : Int) : cmpZ a b = 0 ↔ a = b := by unfold cmpZ; split; omega; split <;> omega
theorem half_in (i j : Nat) (h : i + j ≤ 4194304) : w64 (Int.fdiv (IntKind.u64.wrap (w64 ((i : Int) + (j : Int)))) (2 ^ 1)) = (((i + j) / 2 : Nat) : Int) := by
 rw [w64_in ((i : Int) + j) (by omega), u64_in _ (by omega)]
 rw [show Int.fdiv ((i : Int) + (j : Int)) (2 ^ 1) = (((i + j) / 2 : Nat) : Int) by
  rw [Int.fdiv_eq_ediv_of_nonneg _ (by decide)]; omega]
 exact w64_in _ (by omega)
/-- a search by halves among rising ids -/
theorem bsearch (l : List I4) (u : Int) (hl : l.length ≤ 1048576) (hr : risingP l l.length) :
  ∃ p : Nat, F_slices_BinarySearchFunc_impl_Group_impl_Group_int64_at_impl_Farm_group_1 (l, u, ()) = some ((p : Int), bb (hasP l l.length u), ()) ∧ p ≤ l.length ∧ (∀ q, q < p → (g4 l q).1 < u) ∧ (∀ q, p ≤ q → q < l.length → u ≤ (g4 l q).1) ∧ (hasP l l.length u → p < l.length ∧ (g4 l p).1 = u) := by
 have key : ∀ (k0 k i j : Nat), i ≤ j → j ≤ l.length → j - i < k → (∀ q, q < i → (g4 l q).1 < u) → (∀ q, j ≤ q → q < l.length → u ≤ (g4 l q).1) →
   ∃ p : Nat, slices_BinarySearchFunc_impl_Group_impl_Group_int64_at_impl_Farm_group_1.G0 k0 (fun x2 t n i => slices_BinarySearchFunc_impl_Group_impl_Group_int64_at_impl_Farm_group_1.A0 l u x2 t n i) k l u (l.length : Int) i j = some ((p : Int), bb (hasP l l.length u), ()) ∧ p ≤ l.length ∧ (∀ q, q < p → (g4 l q).1 < u) ∧ (∀ q, p ≤ q → q < l.length → u ≤ (g4 l q).1) := by
  intro k0 k
  induction k with
  | zero => intro i j _ _ h; omega
  | succ k ih =>
   intro i j hij hj hk hlo hhi
   simp only [slices_BinarySearchFunc_impl_Group_impl_Group_int64_at_impl_Farm_group_1.G0, slices_BinarySearchFunc_impl_Group_impl_Group_int64_at_impl_Farm_group_1.R0, half_in i j (by omega), F_impl_Farm_group_1, impl_Farm_group_1.T, F_cmp, Option.bind_some, rd_cast]
   by_cases h : i < j
   ·have hw : w64 ((((i + j) / 2 : Nat) : Int) + 1) = (((i + j) / 2 + 1 : Nat) : Int) := w64_in _ (by omega)
    rw [hw, decide_eq_true (by omega), cond_true, if_pos (by omega)]
    by_cases hc : (g4 l ((i + j) / 2)).1 < u
    ·rw [decide_eq_true ((cmpZ_lt _ _).2 hc), cond_true]
     refine ih _ _ (by omega) hj (by omega) (fun q hq => ?_) hhi
     by_cases h2 : q = (i + j) / 2
     ·subst h2; exact hc
     ·exact Int.lt_trans (hr _ (by omega) q (by omega)) hc
    ·rw [decide_eq_false (fun h => hc ((cmpZ_lt _ _).1 h)), cond_false]
     refine ih _ _ (by omega) (by omega) (by omega) hlo (fun q h1 h2 => ?_)
     by_cases h3 : q = (i + j) / 2
     ·subst h3; omega
     ·have := hr q h2 ((i + j) / 2) (by omega); omega
   ·have : i = j := by omega
    subst this
    rw [decide_eq_false (by omega), cond_false]
    simp only [slices_BinarySearchFunc_impl_Group_impl_Group_int64_at_impl_Farm_group_1.A0, F_impl_Farm_group_1, impl_Farm_group_1.T, F_cmp, Option.bind_some, rd_cast]
    refine ⟨i, ?_, hj, hlo, hhi⟩
    by_cases h4 : i < l.length
    ·rw [decide_eq_true (by omega), cond_true, if_pos (by omega)]
     congr 3
     by_cases h5 : (g4 l i).1 = u
     ·rw [bb_true ⟨i, h4, h5⟩]
      exact beq_iff_eq.2 ((cmpZ_eq _ _).2 h5)
     ·rw [bb_neg]
      ·exact beq_eq_false_iff_ne.2 fun h => h5 ((cmpZ_eq _ _).1 h)
      ·rintro ⟨p, hp, hpu⟩
       by_cases h6 : p < i
       ·have := hlo p h6; omega
       ·have := hhi i (by omega) h4
        by_cases h7 : p = i
        ·subst h7; exact h5 hpu
        ·have := hr p hp i (by omega); omega
    ·rw [decide_eq_false (by omega), cond_false]
     congr 3
     rw [bb_neg]
     rintro ⟨p, hp, hpu⟩
     have := hlo p (by omega); omega
 obtain ⟨p, h1, h2, h3, h4⟩ := key (300 + l.length) (300 + l.length) 0 l.length (by omega) (by omega) (by omega) (by intro q hq; omega) (by intro q h1 h2; omega)
 refine ⟨p, h1, h2, h3, h4, ?_⟩
 rintro ⟨q, hq, hqu⟩
 by_cases h5 : q < p
 ·have := h3 q h5; omega
 ·have h6 := h4 p (by omega) (by omega)
  refine ⟨by omega, ?_⟩
  by_cases h7 : p = q
  ·subst h7; exact hqu
  ·have := hr q hq p (by omega); omega
theorem F_iGroup (c : Int) (l m : List I4) (u : Int) (hl : l.length ≤ 1048576) (hr : risingP l l.length) :
  ∃ p : Nat, F_impl_Farm_group (c, l, m, u, ()) = some ((p : Int), bb (hasP l l.length u), ()) ∧ p ≤ l.length ∧ (hasP l l.length u → p < l.length ∧ (g4 l p).1 = u) := by
 obtain ⟨p, h1, h2, h3, h4, h5⟩ := bsearch l u hl hr
 exact ⟨p, by simp only [F_impl_Farm_group, impl_Farm_group.T, h1, Option.bind_some], h2, h5⟩
theorem F_iHas (c : Int) (l m : List I4) (u : Int) (hl : l.length ≤ 1048576) (hr : risingP l l.length) : F_impl_Farm_hasGroup (c, l, m, u, ()) = some (bb (u = 0 ∨ hasP l l.length u), ()) := by
 obtain ⟨p, h1, h2, h3⟩ := F_iGroup c l m u hl hr
 simp only [F_impl_Farm_hasGroup, impl_Farm_hasGroup.T, h1, Option.bind_some]
 grind [= bb_iff]

theorem rising_take (l : List I4) (i : Nat) (h : ∀ j, j < i → grpP l j) (hi : i ≤ l.length) : risingP (l.take i) (l.take i).length := by
 have hr := rising_of l i fun j hj => (h j hj).2.1
 intro b hb a ha
 rw [List.length_take] at hb
 have := hr b (by omega) a ha
 simp only [g4, List.getD_eq_getElem?_getD, List.getElem?_take] at this ⊢
 rw [if_pos (by omega), if_pos (by omega)]
 exact this
theorem has_take (l : List I4) (i : Nat) (u : Int) (hi : i ≤ l.length) : hasP (l.take i) (l.take i).length u ↔ hasP l i u := by
 have e : ∀ p, p < i → g4 (l.take i) p = g4 l p := fun p hp => by
  simp only [g4, List.getD_eq_getElem?_getD, List.getElem?_take]
  rw [if_pos hp]
 rw [List.length_take, Nat.min_eq_left hi]
 exact ⟨fun ⟨p, hp, h⟩ => ⟨p, hp, by rw [← e p hp]; exact h⟩, fun ⟨p, hp, h⟩ => ⟨p, hp, by rw [e p hp]; exact h⟩⟩
theorem implFarm0 (k0 : Nat) (c : Int) (l m : List I4) (Q : Prop) (hl : l.length ≤ 1048576) (hx0 : Bool → Int → List I4 → List I4 → Option (Bool × Unit)) (hx1 : Int → List I4 → List I4 → Option (Bool × Unit)) (h2 : hx0 false c l m = some (false, ())) (h3 : (∀ j, j < l.length → grpP l j) → hx1 c l m = some (bb Q, ())) (k : Nat) (hk : l.length < k) :
  impl_FarmRight.G0 k0 hx0 hx1 k l l.length 0 c l m = some (bb ((∀ j, j < l.length → grpP l j) ∧ Q), ()) := by
 refine scanC (g := fun k i => impl_FarmRight.G0 k0 hx0 hx1 k l l.length (i : Nat) c l m) (fun k i hi hb => ?_) (fun hb k => ?_) k hk
 ·have hh := F_iHas 0 (l.take i) [] (g4 l i).2.1 (by rw [List.length_take]; omega) (rising_take l i hb (by omega))
  rw [bb_congr (show ((g4 l i).2.1 = 0 ∨ hasP (l.take i) (l.take i).length (g4 l i).2.1) ↔ ((g4 l i).2.1 = 0 ∨ hasP l i (g4 l i).2.1) by rw [has_take l i _ (by omega)])] at hh
  have hw : w64 ((i : Int) + 1) = ((i + 1 : Nat) : Int) := w64_in _ (by omega)
  simp only [impl_FarmRight.G0, impl_FarmRight.R0, rd_cast, Int.toNat_natCast, hh, F_iId, F_iWant, F_iWeight, Option.bind_some, hw]
  have hd : decide (i < (l.length : Int)) = true := decide_eq_true (by omega)
  unfold grpP
  by_cases h0 : 0 < i
  ·have hw' : w64 ((i : Int) - 1) = ((i - 1 : Nat) : Int) := (w64_in _ (by omega)).trans (by omega)
   rw [hw']
   simp only [rd_cast]
   grind [= bb_iff]
  ·have : i = 0 := by omega
   subst this
   grind [= bb_iff]
 ·simp only [impl_FarmRight.G0, impl_FarmRight.R0]
  rw [decide_eq_false (by omega), cond_false, h3 hb]
theorem implFarm1 (k0 : Nat) (c : Int) (l m : List I4) (hl : l.length ≤ 1048576) (hm : m.length ≤ 1048576) (hr : risingP l l.length) (hx2 : Bool → Option (Bool × Unit)) (hx3 : Unit → Option (Bool × Unit)) (h2 : hx2 false = some (false, ())) (h3 : hx3 () = some (true, ())) (k : Nat) (hk : m.length < k) :
  impl_FarmRight.G1 k0 hx2 hx3 k m m.length 0 c l m = some (bb (∀ j, j < m.length → memP l m j), ()) := by
 refine scanB (g := fun k i => impl_FarmRight.G1 k0 hx2 hx3 k m m.length (i : Nat) c l m) (fun k i hi _ => ?_) (fun _ k => ?_) k hk
 ·have hh := F_iHas c l m (g4 m i).2.1 hl hr
  have hw : w64 ((i : Int) + 1) = ((i + 1 : Nat) : Int) := w64_in _ (by omega)
  simp only [impl_FarmRight.G1, impl_FarmRight.R1, rd_cast, hh, F_iId, F_iWant, F_iWeight, Option.bind_some, hw]
  have hd : decide (i < (m.length : Int)) = true := decide_eq_true (by omega)
  unfold memP
  by_cases h0 : 0 < i
  ·have hw' : w64 ((i : Int) - 1) = ((i - 1 : Nat) : Int) := (w64_in _ (by omega)).trans (by omega)
   rw [hw']
   simp only [rd_cast]
   grind [= bb_iff]
  ·have : i = 0 := by omega
   subst this
   grind [= bb_iff]
 ·simp only [impl_FarmRight.G1, impl_FarmRight.R1]
  rw [decide_eq_false (by omega), cond_false, h3]
theorem implFarm (c : Int) (l m : List I4) (hl : l.length ≤ 1048576) (hm : m.length ≤ 1048576) : F_impl_FarmRight (c, l, m, ()) = some (bb (farmP c l m), ()) := by
 show impl_FarmRight.FF (300 + l.length + m.length) c l m = _
 simp only [impl_FarmRight.FF, impl_FarmRight.T, F_iWant, Option.bind_some]
 have e0 := implFarm0 (300 + l.length + m.length) c l m _ hl (fun t f f3 f4 => impl_FarmRight.A0 c l m t f f3 f4)
  (fun f f3 f4 => impl_FarmRight.A1 (fun t t' i f f3 f4 => impl_FarmRight.G1 (300 + l.length + m.length) (fun t => impl_FarmRight.A2 c l m t) (fun _ => impl_FarmRight.A3 c l m ()) (300 + l.length + m.length) t t' i f f3 f4) c l m f f3 f4) rfl
  (fun hb => implFarm1 _ c l m hl hm (rising_of l _ fun i hi => (hb i hi).2.1) (fun t => impl_FarmRight.A2 c l m t) (fun _ => impl_FarmRight.A3 c l m ()) rfl rfl _ (by omega)) (300 + l.length + m.length) (by omega)
 rw [e0]
 unfold farmP
 grind [= bb_iff]
end Go.Rv
