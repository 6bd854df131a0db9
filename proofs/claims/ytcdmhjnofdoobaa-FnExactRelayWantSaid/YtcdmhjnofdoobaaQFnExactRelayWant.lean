/- The plain part of FnExactRelayWant: no program in sight. -/
import Derived.Test.YtcdmhjnofdoobaaGFnExactRelayWant1
set_option linter.unusedVariables false
set_option linter.unusedSimpArgs false
namespace Go.Rv
abbrev I4 := Int × Int × Int × Int × Unit
abbrev I3 := Int × Int × Int × Unit
abbrev g4 (l : List I4) (i : Nat) : I4 := l.getD i (0, 0, 0, 0, ())
abbrev g3 (l : List I3) (i : Nat) : I3 := l.getD i (0, 0, 0, ())
def idP (z : Int) : Prop := 1 ≤ z ∧ z ≤ 1000000
def wantP (z : Int) : Prop := 0 ≤ z ∧ z ≤ 1125899906842624
def weightP (z : Int) : Prop := 1 ≤ z ∧ z ≤ 1073741824
def timeP (z : Int) : Prop := 0 ≤ z ∧ z ≤ 1000000
def hasP (l : List I4) (n : Nat) (u : Int) : Prop := ∃ p, p < n ∧ (g4 l p).1 = u
def grpP (l : List I4) (i : Nat) : Prop := idP (g4 l i).1 ∧ (0 < i → (g4 l (i - 1)).1 < (g4 l i).1) ∧ ((g4 l i).2.1 = 0 ∨ hasP l i (g4 l i).2.1) ∧ wantP (g4 l i).2.2.1 ∧ weightP (g4 l i).2.2.2.1
def memP (l m : List I4) (i : Nat) : Prop := idP (g4 m i).1 ∧ (0 < i → (g4 m (i - 1)).1 < (g4 m i).1) ∧ ((g4 m i).2.1 = 0 ∨ hasP l l.length (g4 m i).2.1) ∧ wantP (g4 m i).2.2.1 ∧ weightP (g4 m i).2.2.2.1
def farmP (c : Int) (l m : List I4) : Prop := wantP c ∧ l.length ≤ 30 ∧ m.length ≤ 60 ∧ (∀ i, i < l.length → grpP l i) ∧ (∀ i, i < m.length → memP l m i)
theorem F_l02Id (n : Int) : F_spec_l02Id (n, ()) = some (bb (idP n), ()) := by
  simp only [F_spec_l02Id, spec_l02Id.T, ← bb_dec]
  by_cases h : n ≥ 1
  · rw [bb_true h]; simp only [cond_true]; congr 2; exact bb_congr (by unfold idP; omega)
  · rw [bb_neg h]; simp only [cond_false]; congr 2; exact (bb_neg (by unfold idP; omega)).symm
theorem F_l02Want (n : Int) : F_spec_l02Want (n, ()) = some (bb (wantP n), ()) := by
  simp only [F_spec_l02Want, spec_l02Want.T, ← bb_dec]
  by_cases h : n ≥ 0
  · rw [bb_true h]; simp only [cond_true]; congr 2; exact bb_congr (by unfold wantP; omega)
  · rw [bb_neg h]; simp only [cond_false]; congr 2; exact (bb_neg (by unfold wantP; omega)).symm
theorem F_l02Weight (n : Int) : F_spec_l02Weight (n, ()) = some (bb (weightP n), ()) := by
  simp only [F_spec_l02Weight, spec_l02Weight.T, ← bb_dec]
  by_cases h : n ≥ 1
  · rw [bb_true h]; simp only [cond_true]; congr 2; exact bb_congr (by unfold weightP; omega)
  · rw [bb_neg h]; simp only [cond_false]; congr 2; exact (bb_neg (by unfold weightP; omega)).symm
theorem F_iin (n a b : Int) : F_impl_in (n, a, b, ()) = some (bb (a ≤ n ∧ n ≤ b), ()) := by
  simp only [F_impl_in, impl_in.T, ← bb_dec]
  by_cases h : a ≤ n
  · rw [bb_true h]; simp only [cond_true]; congr 2; exact bb_congr (by omega)
  · rw [bb_neg h]; simp only [cond_false]; congr 2; exact (bb_neg (by omega)).symm
theorem F_iId (n : Int) : F_impl_isId (n, ()) = some (bb (idP n), ()) := by simp only [F_impl_isId, impl_isId.T, F_iin, Option.bind_some]; rfl
theorem F_iWant (n : Int) : F_impl_isWant (n, ()) = some (bb (wantP n), ()) := by simp only [F_impl_isWant, impl_isWant.T, F_iin, Option.bind_some]; rfl
theorem F_iWeight (n : Int) : F_impl_isWeight (n, ()) = some (bb (weightP n), ()) := by simp only [F_impl_isWeight, impl_isWeight.T, F_iin, Option.bind_some]; rfl
/-- the first place of an id -/
theorem F_l05Group (c : Int) (l m : List I4) (u : Int) (hl : l.length ≤ 1048576) : ∃ p : Int, F_spec_l05Group (c, l, m, u, ()) = some (p, ()) ∧ ((¬ hasP l l.length u ∧ p = -1) ∨ ∃ q : Nat, p = q ∧ q < l.length ∧ (g4 l q).1 = u ∧ ∀ j, j < q → (g4 l j).1 ≠ u) := by
  have key : ∀ (k0 k i : Nat), i ≤ l.length → l.length - i < k → (∀ j, j < i → (g4 l j).1 ≠ u) → ∃ p : Int, spec_l05Group.G0 k0 (fun t => spec_l05Group.A0 c l m u t) (fun _ => spec_l05Group.A1 c l m u ()) k u i c l m = some (p, ()) ∧ ((¬ hasP l l.length u ∧ p = -1) ∨ ∃ q : Nat, p = q ∧ q < l.length ∧ (g4 l q).1 = u ∧ ∀ j, j < q → (g4 l j).1 ≠ u) := by
    intro k0 k
    induction k with
    | zero => intro i _ h; omega
    | succ k ih =>
      intro i hi hk hb
      rw [spec_l05Group.G0, spec_l05Group.R0]
      by_cases h : i < l.length
      · have hw : w64 ((i : Int) + 1) = ((i + 1 : Nat) : Int) := w64_in _ (by omega)
        rw [hw, decide_eq_true (by omega), cond_true, if_pos (by omega)]
        by_cases hu : (rd (0, 0, 0, 0, ()) l (i : Int)).1 = u
        · rw [show ((rd (0, 0, 0, 0, ()) l (i : Int)).1 == u) = true by simpa using hu]
          exact ⟨i, rfl, Or.inr ⟨i, rfl, h, hu, hb⟩⟩
        · rw [show ((rd (0, 0, 0, 0, ()) l (i : Int)).1 == u) = false by simpa using hu]
          refine ih (i + 1) (by omega) (by omega) fun j hj => ?_
          by_cases hji : j = i
          · subst hji; exact hu
          · exact hb j (by omega)
      · rw [decide_eq_false (by omega), cond_false]
        refine ⟨-1, rfl, Or.inl ⟨?_, rfl⟩⟩
        rintro ⟨p, hp, hpu⟩
        exact hb p (by omega) hpu
  exact key _ _ 0 (by omega) (by show _ < 300 + l.length + m.length; omega) (by intro j hj; omega)

theorem specFarm1 (k0 : Nat) (c : Int) (l m : List I4) (hl : l.length ≤ 1048576) (hm : m.length ≤ 1048576) (hx2 : Bool → Option (Bool × Unit)) (hx3 : Unit → Option (Bool × Unit)) (h2 : hx2 false = some (false, ())) (h3 : hx3 () = some (true, ())) (k : Nat) (hk : m.length < k) :
    spec_FarmRight.G1 k0 hx2 hx3 k 0 c l m = some (bb (∀ j, j < m.length → memP l m j), ()) := by
  refine scanB (g := fun k i => spec_FarmRight.G1 k0 hx2 hx3 k (i : Nat) c l m) (fun k i hi _ => ?_) (fun _ k => ?_) k hk
  · obtain ⟨p, hp, hq⟩ := F_l05Group c l m (g4 m i).2.1 hl
    have hw : w64 ((i : Int) + 1) = ((i + 1 : Nat) : Int) := w64_in _ (by omega)
    simp only [spec_FarmRight.G1, spec_FarmRight.R1, rd_cast, hp, F_l02Id, F_l02Want, F_l02Weight, Option.bind_some, hw]
    have hn : p < 0 ↔ ¬ hasP l l.length (g4 m i).2.1 := by
      rcases hq with ⟨h, rfl⟩ | ⟨q, rfl, h1, h2, _⟩
      · exact ⟨fun _ => h, fun _ => by omega⟩
      · exact ⟨fun h => by omega, fun h => absurd ⟨q, h1, h2⟩ h⟩
    have hd : decide (i < (m.length : Int)) = true := decide_eq_true (by omega)
    unfold memP
    by_cases h0 : 0 < i
    · have hw' : w64 ((i : Int) - 1) = ((i - 1 : Nat) : Int) := (w64_in _ (by omega)).trans (by omega)
      rw [hw']
      simp only [rd_cast]
      grind [= bb_iff]
    · have : i = 0 := by omega
      subst this
      grind [= bb_iff]
  · simp only [spec_FarmRight.G1, spec_FarmRight.R1]
    rw [decide_eq_false (by omega), cond_false, h3]

def grpS (l : List I4) (i : Nat) : Prop := idP (g4 l i).1 ∧ (0 < i → (g4 l (i - 1)).1 < (g4 l i).1) ∧ ((g4 l i).2.1 = 0 ∨ (hasP l l.length (g4 l i).2.1 ∧ (g4 l i).2.1 < (g4 l i).1)) ∧ wantP (g4 l i).2.2.1 ∧ weightP (g4 l i).2.2.2.1
theorem specFarm0 (k0 : Nat) (c : Int) (l m : List I4) (Q : Prop) (hl : l.length ≤ 1048576) (hx0 : Bool → Int → List I4 → List I4 → Option (Bool × Unit)) (hx1 : Int → List I4 → List I4 → Option (Bool × Unit)) (h2 : hx0 false c l m = some (false, ())) (h3 : hx1 c l m = some (bb Q, ())) (k : Nat) (hk : l.length < k) :
    spec_FarmRight.G0 k0 hx0 hx1 k 0 c l m = some (bb ((∀ j, j < l.length → grpS l j) ∧ Q), ()) := by
  refine scanC (g := fun k i => spec_FarmRight.G0 k0 hx0 hx1 k (i : Nat) c l m) (fun k i hi _ => ?_) (fun _ k => ?_) k hk
  · obtain ⟨p, hp, hq⟩ := F_l05Group c l m (g4 l i).2.1 hl
    have hw : w64 ((i : Int) + 1) = ((i + 1 : Nat) : Int) := w64_in _ (by omega)
    simp only [spec_FarmRight.G0, spec_FarmRight.R0, rd_cast, hp, F_l02Id, F_l02Want, F_l02Weight, Option.bind_some, hw]
    have hn : p < 0 ↔ ¬ hasP l l.length (g4 l i).2.1 := by
      rcases hq with ⟨h, rfl⟩ | ⟨q, rfl, h1, h2, _⟩
      · exact ⟨fun _ => h, fun _ => by omega⟩
      · exact ⟨fun h => by omega, fun h => absurd ⟨q, h1, h2⟩ h⟩
    have hd : decide (i < (l.length : Int)) = true := decide_eq_true (by omega)
    unfold grpS
    by_cases h0 : 0 < i
    · have hw' : w64 ((i : Int) - 1) = ((i - 1 : Nat) : Int) := (w64_in _ (by omega)).trans (by omega)
      rw [hw']
      simp only [rd_cast]
      grind [= bb_iff]
    · have : i = 0 := by omega
      subst this
      grind [= bb_iff]
  · simp only [spec_FarmRight.G0, spec_FarmRight.R0]
    rw [decide_eq_false (by omega), cond_false, h3]
def risingP (l : List I4) (n : Nat) : Prop := ∀ b, b < n → ∀ a, a < b → (g4 l a).1 < (g4 l b).1
theorem rising_of (l : List I4) (n : Nat) (h : ∀ i, i < n → 0 < i → (g4 l (i - 1)).1 < (g4 l i).1) : risingP l n := by
  intro b
  induction b with
  | zero => intro _ a ha; omega
  | succ b ih =>
    intro hb a ha
    have h1 := h (b + 1) hb (by omega)
    rw [show b + 1 - 1 = b by omega] at h1
    by_cases hab : a = b
    · subst hab; exact h1
    · exact Int.lt_trans (ih (by omega) a (by omega)) h1
theorem grpS_iff (l : List I4) : (∀ i, i < l.length → grpS l i) ↔ (∀ i, i < l.length → grpP l i) := by
  constructor
  · intro h
    have hr := rising_of l l.length fun i hi => (h i hi).2.1
    intro i hi
    obtain ⟨h1, h2, h3, h4, h5⟩ := h i hi
    refine ⟨h1, h2, ?_, h4, h5⟩
    rcases h3 with h3 | ⟨⟨p, hp, hu⟩, h3⟩
    · exact Or.inl h3
    · refine Or.inr ⟨p, ?_, hu⟩
      rcases Nat.lt_trichotomy p i with h | h | h
      · exact h
      · subst h; omega
      · have := hr p hp i h; omega
  · intro h
    have hr := rising_of l l.length fun i hi => (h i hi).2.1
    intro i hi
    obtain ⟨h1, h2, h3, h4, h5⟩ := h i hi
    refine ⟨h1, h2, ?_, h4, h5⟩
    rcases h3 with h3 | ⟨p, hp, hu⟩
    · exact Or.inl h3
    · exact Or.inr ⟨⟨p, by omega, hu⟩, by have := hr i hi p hp; omega⟩
theorem specFarm (c : Int) (l m : List I4) (hl : l.length ≤ 1048576) (hm : m.length ≤ 1048576) : F_spec_FarmRight (c, l, m, ()) = some (bb (farmP c l m), ()) := by
  show spec_FarmRight.FF (300 + l.length + m.length) c l m = _
  simp only [spec_FarmRight.FF, spec_FarmRight.T, F_l02Want, Option.bind_some]
  have e1 := fun k0 => specFarm1 k0 c l m hl hm (fun t => spec_FarmRight.A2 c l m t) (fun _ => spec_FarmRight.A3 c l m ()) rfl rfl
  have e0 := specFarm0 (300 + l.length + m.length) c l m _ hl (fun t f f3 f4 => spec_FarmRight.A0 c l m t f f3 f4)
    (fun f f3 f4 => spec_FarmRight.A1 (fun i f f3 f4 => spec_FarmRight.G1 (300 + l.length + m.length) (fun t => spec_FarmRight.A2 c l m t) (fun _ => spec_FarmRight.A3 c l m ()) (300 + l.length + m.length) i f f3 f4) c l m f f3 f4) rfl
    (e1 _ _ (by omega)) (300 + l.length + m.length) (by omega)
  rw [e0, grpS_iff]
  unfold farmP
  grind [= bb_iff]
/-- comparing ids -/
def cmpZ (a b : Int) : Int := if a < b then -1 else if a > b then 1 else 0
theorem F_cmp (a b : Int) : F_cmp_Compare_int64 (a, b, ()) = some (cmpZ a b, ()) := by
  have h : ∀ x : Int, F_cmp_isNaN_int64 (x, ()) = some (false, ()) := fun x => by simp [F_cmp_isNaN_int64, cmp_isNaN_int64.T]
  simp only [F_cmp_Compare_int64, cmp_Compare_int64.T, h, Option.bind_some, cond_false]
  unfold cmpZ
  grind [= bb_iff]
theorem cmpZ_lt (a b : Int) : cmpZ a b < 0 ↔ a < b := by unfold cmpZ; split; omega; split <;> omega
theorem cmpZ_eq (a b : Int) : cmpZ a b = 0 ↔ a = b := by unfold cmpZ; split; omega; split <;> omega
theorem half_in (i j : Nat) (h : i + j ≤ 4194304) : w64 (Int.fdiv (IntKind.u64.wrap (w64 ((i : Int) + (j : Int)))) (2 ^ 1)) = (((i + j) / 2 : Nat) : Int) := by
  rw [w64_in ((i : Int) + j) (by omega), u64_in _ (by omega)]
  rw [show Int.fdiv ((i : Int) + (j : Int)) (2 ^ 1) = (((i + j) / 2 : Nat) : Int) by
    rw [Int.fdiv_eq_ediv_of_nonneg _ (by decide)]; omega]
  exact w64_in _ (by omega)
/-- a search by halves among rising ids -/
theorem bsearch (l : List I4) (u : Int) (hl : l.length ≤ 1048576) (hr : risingP l l.length) :
    ∃ p : Nat, F_slices_BinarySearchFunc_impl_Group_impl_Group_int64_at_impl_Farm_group_1 (l, u, ()) = some ((p : Int), bb (hasP l l.length u), ()) ∧ p ≤ l.length ∧ (∀ q, q < p → (g4 l q).1 < u) ∧ (∀ q, p ≤ q → q < l.length → u ≤ (g4 l q).1) ∧ (hasP l l.length u → p < l.length ∧ (g4 l p).1 = u) := by
  have key : ∀ (k0 k i j : Nat), i ≤ j → j ≤ l.length → j - i < k → (∀ q, q < i → (g4 l q).1 < u) → (∀ q, j ≤ q → q < l.length → u ≤ (g4 l q).1) →
      ∃ p : Nat, slices_BinarySearchFunc_impl_Group_impl_Group_int64_at_impl_Farm_group_1.G0 k0 (fun x2 t n i => slices_BinarySearchFunc_impl_Group_impl_Group_int64_at_impl_Farm_group_1.A0 l u x2 t n i) k l u (l.length : Int) i j = some ((p : Int), bb (hasP l l.length u), ()) ∧ p ≤ l.length ∧ (∀ q, q < p → (g4 l q).1 < u) ∧ (∀ q, p ≤ q → q < l.length → u ≤ (g4 l q).1) := by
    intro k0 k
    induction k with
    | zero => intro i j _ _ h; omega
    | succ k ih =>
      intro i j hij hj hk hlo hhi
      simp only [slices_BinarySearchFunc_impl_Group_impl_Group_int64_at_impl_Farm_group_1.G0, slices_BinarySearchFunc_impl_Group_impl_Group_int64_at_impl_Farm_group_1.R0, half_in i j (by omega), F_impl_Farm_group_1, impl_Farm_group_1.T, F_cmp, Option.bind_some, rd_cast]
      by_cases h : i < j
      · have hw : w64 ((((i + j) / 2 : Nat) : Int) + 1) = (((i + j) / 2 + 1 : Nat) : Int) := w64_in _ (by omega)
        rw [hw, decide_eq_true (by omega), cond_true, if_pos (by omega)]
        by_cases hc : (g4 l ((i + j) / 2)).1 < u
        · rw [decide_eq_true ((cmpZ_lt _ _).2 hc), cond_true]
          refine ih _ _ (by omega) hj (by omega) (fun q hq => ?_) hhi
          by_cases h2 : q = (i + j) / 2
          · subst h2; exact hc
          · exact Int.lt_trans (hr _ (by omega) q (by omega)) hc
        · rw [decide_eq_false (fun h => hc ((cmpZ_lt _ _).1 h)), cond_false]
          refine ih _ _ (by omega) (by omega) (by omega) hlo (fun q h1 h2 => ?_)
          by_cases h3 : q = (i + j) / 2
          · subst h3; omega
          · have := hr q h2 ((i + j) / 2) (by omega); omega
      · have : i = j := by omega
        subst this
        rw [decide_eq_false (by omega), cond_false]
        simp only [slices_BinarySearchFunc_impl_Group_impl_Group_int64_at_impl_Farm_group_1.A0, F_impl_Farm_group_1, impl_Farm_group_1.T, F_cmp, Option.bind_some, rd_cast]
        refine ⟨i, ?_, hj, hlo, hhi⟩
        by_cases h4 : i < l.length
        · rw [decide_eq_true (by omega), cond_true, if_pos (by omega)]
          congr 3
          by_cases h5 : (g4 l i).1 = u
          · rw [bb_true ⟨i, h4, h5⟩]
            exact beq_iff_eq.2 ((cmpZ_eq _ _).2 h5)
          · rw [bb_neg]
            · exact beq_eq_false_iff_ne.2 fun h => h5 ((cmpZ_eq _ _).1 h)
            · rintro ⟨p, hp, hpu⟩
              by_cases h6 : p < i
              · have := hlo p h6; omega
              · have := hhi i (by omega) h4
                by_cases h7 : p = i
                · subst h7; exact h5 hpu
                · have := hr p hp i (by omega); omega
        · rw [decide_eq_false (by omega), cond_false]
          congr 3
          rw [bb_neg]
          rintro ⟨p, hp, hpu⟩
          have := hlo p (by omega); omega
  obtain ⟨p, h1, h2, h3, h4⟩ := key (300 + l.length) (300 + l.length) 0 l.length (by omega) (by omega) (by omega) (by intro q hq; omega) (by intro q h1 h2; omega)
  refine ⟨p, h1, h2, h3, h4, ?_⟩
  rintro ⟨q, hq, hqu⟩
  by_cases h5 : q < p
  · have := h3 q h5; omega
  · have h6 := h4 p (by omega) (by omega)
    refine ⟨by omega, ?_⟩
    by_cases h7 : p = q
    · subst h7; exact hqu
    · have := hr q hq p (by omega); omega
theorem F_iGroup (c : Int) (l m : List I4) (u : Int) (hl : l.length ≤ 1048576) (hr : risingP l l.length) :
    ∃ p : Nat, F_impl_Farm_group (c, l, m, u, ()) = some ((p : Int), bb (hasP l l.length u), ()) ∧ p ≤ l.length ∧ (hasP l l.length u → p < l.length ∧ (g4 l p).1 = u) := by
  obtain ⟨p, h1, h2, h3, h4, h5⟩ := bsearch l u hl hr
  exact ⟨p, by simp only [F_impl_Farm_group, impl_Farm_group.T, h1, Option.bind_some], h2, h5⟩
theorem F_iHas (c : Int) (l m : List I4) (u : Int) (hl : l.length ≤ 1048576) (hr : risingP l l.length) : F_impl_Farm_hasGroup (c, l, m, u, ()) = some (bb (u = 0 ∨ hasP l l.length u), ()) := by
  obtain ⟨p, h1, h2, h3⟩ := F_iGroup c l m u hl hr
  simp only [F_impl_Farm_hasGroup, impl_Farm_hasGroup.T, h1, Option.bind_some]
  grind [= bb_iff]

theorem rising_take (l : List I4) (i : Nat) (h : ∀ j, j < i → grpP l j) (hi : i ≤ l.length) : risingP (l.take i) (l.take i).length := by
  have hr := rising_of l i fun j hj => (h j hj).2.1
  intro b hb a ha
  rw [List.length_take] at hb
  have := hr b (by omega) a ha
  simp only [g4, List.getD_eq_getElem?_getD, List.getElem?_take] at this ⊢
  rw [if_pos (by omega), if_pos (by omega)]
  exact this
theorem has_take (l : List I4) (i : Nat) (u : Int) (hi : i ≤ l.length) : hasP (l.take i) (l.take i).length u ↔ hasP l i u := by
  have e : ∀ p, p < i → g4 (l.take i) p = g4 l p := fun p hp => by
    simp only [g4, List.getD_eq_getElem?_getD, List.getElem?_take]
    rw [if_pos hp]
  rw [List.length_take, Nat.min_eq_left hi]
  exact ⟨fun ⟨p, hp, h⟩ => ⟨p, hp, by rw [← e p hp]; exact h⟩, fun ⟨p, hp, h⟩ => ⟨p, hp, by rw [e p hp]; exact h⟩⟩
theorem implFarm0 (k0 : Nat) (c : Int) (l m : List I4) (Q : Prop) (hl : l.length ≤ 1048576) (hx0 : Bool → Int → List I4 → List I4 → Option (Bool × Unit)) (hx1 : Int → List I4 → List I4 → Option (Bool × Unit)) (h2 : hx0 false c l m = some (false, ())) (h3 : (∀ j, j < l.length → grpP l j) → hx1 c l m = some (bb Q, ())) (k : Nat) (hk : l.length < k) :
    impl_FarmRight.G0 k0 hx0 hx1 k l l.length 0 c l m = some (bb ((∀ j, j < l.length → grpP l j) ∧ Q), ()) := by
  refine scanC (g := fun k i => impl_FarmRight.G0 k0 hx0 hx1 k l l.length (i : Nat) c l m) (fun k i hi hb => ?_) (fun hb k => ?_) k hk
  · have hh := F_iHas 0 (l.take i) [] (g4 l i).2.1 (by rw [List.length_take]; omega) (rising_take l i hb (by omega))
    rw [bb_congr (show ((g4 l i).2.1 = 0 ∨ hasP (l.take i) (l.take i).length (g4 l i).2.1) ↔ ((g4 l i).2.1 = 0 ∨ hasP l i (g4 l i).2.1) by rw [has_take l i _ (by omega)])] at hh
    have hw : w64 ((i : Int) + 1) = ((i + 1 : Nat) : Int) := w64_in _ (by omega)
    simp only [impl_FarmRight.G0, impl_FarmRight.R0, rd_cast, Int.toNat_natCast, hh, F_iId, F_iWant, F_iWeight, Option.bind_some, hw]
    have hd : decide (i < (l.length : Int)) = true := decide_eq_true (by omega)
    unfold grpP
    by_cases h0 : 0 < i
    · have hw' : w64 ((i : Int) - 1) = ((i - 1 : Nat) : Int) := (w64_in _ (by omega)).trans (by omega)
      rw [hw']
      simp only [rd_cast]
      grind [= bb_iff]
    · have : i = 0 := by omega
      subst this
      grind [= bb_iff]
  · simp only [impl_FarmRight.G0, impl_FarmRight.R0]
    rw [decide_eq_false (by omega), cond_false, h3 hb]
theorem implFarm1 (k0 : Nat) (c : Int) (l m : List I4) (hl : l.length ≤ 1048576) (hm : m.length ≤ 1048576) (hr : risingP l l.length) (hx2 : Bool → Option (Bool × Unit)) (hx3 : Unit → Option (Bool × Unit)) (h2 : hx2 false = some (false, ())) (h3 : hx3 () = some (true, ())) (k : Nat) (hk : m.length < k) :
    impl_FarmRight.G1 k0 hx2 hx3 k m m.length 0 c l m = some (bb (∀ j, j < m.length → memP l m j), ()) := by
  refine scanB (g := fun k i => impl_FarmRight.G1 k0 hx2 hx3 k m m.length (i : Nat) c l m) (fun k i hi _ => ?_) (fun _ k => ?_) k hk
  · have hh := F_iHas c l m (g4 m i).2.1 hl hr
    have hw : w64 ((i : Int) + 1) = ((i + 1 : Nat) : Int) := w64_in _ (by omega)
    simp only [impl_FarmRight.G1, impl_FarmRight.R1, rd_cast, hh, F_iId, F_iWant, F_iWeight, Option.bind_some, hw]
    have hd : decide (i < (m.length : Int)) = true := decide_eq_true (by omega)
    unfold memP
    by_cases h0 : 0 < i
    · have hw' : w64 ((i : Int) - 1) = ((i - 1 : Nat) : Int) := (w64_in _ (by omega)).trans (by omega)
      rw [hw']
      simp only [rd_cast]
      grind [= bb_iff]
    · have : i = 0 := by omega
      subst this
      grind [= bb_iff]
  · simp only [impl_FarmRight.G1, impl_FarmRight.R1]
    rw [decide_eq_false (by omega), cond_false, h3]
theorem implFarm (c : Int) (l m : List I4) (hl : l.length ≤ 1048576) (hm : m.length ≤ 1048576) : F_impl_FarmRight (c, l, m, ()) = some (bb (farmP c l m), ()) := by
  show impl_FarmRight.FF (300 + l.length + m.length) c l m = _
  simp only [impl_FarmRight.FF, impl_FarmRight.T, F_iWant, Option.bind_some]
  have e0 := implFarm0 (300 + l.length + m.length) c l m _ hl (fun t f f3 f4 => impl_FarmRight.A0 c l m t f f3 f4)
    (fun f f3 f4 => impl_FarmRight.A1 (fun t t' i f f3 f4 => impl_FarmRight.G1 (300 + l.length + m.length) (fun t => impl_FarmRight.A2 c l m t) (fun _ => impl_FarmRight.A3 c l m ()) (300 + l.length + m.length) t t' i f f3 f4) c l m f f3 f4) rfl
    (fun hb => implFarm1 _ c l m hl hm (rising_of l _ fun i hi => (hb i hi).2.1) (fun t => impl_FarmRight.A2 c l m t) (fun _ => impl_FarmRight.A3 c l m ()) rfl rfl _ (by omega)) (300 + l.length + m.length) (by omega)
  rw [e0]
  unfold farmP
  grind [= bb_iff]
theorem F_l10Length (n : Int) : F_spec_l10Length (n, ()) = some (bb (1 ≤ n ∧ n ≤ 1000), ()) := by simp only [F_spec_l10Length, spec_l10Length.T]; grind [= bb_iff]
theorem F_l07Time (n : Int) : F_spec_l07Time (n, ()) = some (bb (timeP n), ()) := by simp only [F_spec_l07Time, spec_l07Time.T, timeP]; grind [= bb_iff]
theorem F_iTime (n : Int) : F_impl_isTime (n, ()) = some (bb (timeP n), ()) := by simp only [F_impl_isTime, impl_isTime.T, F_iin, Option.bind_some, timeP]
def leaseP (x : I3) : Prop := idP x.1 ∧ wantP x.2.1 ∧ timeP x.2.2.1
theorem F_l07Lease (a b c : Int) : F_spec_l07Lease (a, b, c, ()) = some (bb (leaseP (a, b, c, ())), ()) := by
  simp only [F_spec_l07Lease, spec_l07Lease.T, F_l02Id, F_l02Want, F_l07Time, Option.bind_some, leaseP]; grind [= bb_iff]
theorem F_iLease (a b c : Int) : F_impl_Lease_isRight (a, b, c, ()) = some (bb (leaseP (a, b, c, ())), ()) := by
  simp only [F_impl_Lease_isRight, impl_Lease_isRight.T, F_iId, F_iWant, F_iTime, Option.bind_some, leaseP]; grind [= bb_iff]
def lsP (l : List I3) (i : Nat) : Prop := leaseP (g3 l i) ∧ (0 < i → (g3 l (i - 1)).1 < (g3 l i).1)
def leasesP (l : List I3) : Prop := l.length ≤ 60 ∧ ∀ i, i < l.length → lsP l i
theorem specLeases (l : List I3) (hl : l.length ≤ 1048576) : F_spec_LeasesRight (l, ()) = some (bb (leasesP l), ()) := by
  show spec_LeasesRight.FF (300 + l.length) l = _
  simp only [spec_LeasesRight.FF, spec_LeasesRight.T]
  have e : ∀ k0, spec_LeasesRight.G0 k0 (fun t => spec_LeasesRight.A0 l t) (fun _ => spec_LeasesRight.A1 l ()) (300 + l.length) l 0 = some (bb (∀ j, j < l.length → lsP l j), ()) := by
    intro k0
    refine scanB (g := fun k i => spec_LeasesRight.G0 k0 (fun t => spec_LeasesRight.A0 l t) (fun _ => spec_LeasesRight.A1 l ()) k l (i : Nat)) (fun k i hi _ => ?_) (fun _ k => ?_) _ (by omega)
    · have hw : w64 ((i : Int) + 1) = ((i + 1 : Nat) : Int) := w64_in _ (by omega)
      simp only [spec_LeasesRight.G0, spec_LeasesRight.R0, spec_LeasesRight.A0, rd_cast, F_l07Lease, Option.bind_some, hw]
      have hd : decide (i < (l.length : Int)) = true := decide_eq_true (by omega)
      unfold lsP
      by_cases h0 : 0 < i
      · have hw' : w64 ((i : Int) - 1) = ((i - 1 : Nat) : Int) := (w64_in _ (by omega)).trans (by omega)
        rw [hw']
        simp only [rd_cast]
        grind [= bb_iff]
      · have : i = 0 := by omega
        subst this
        grind [= bb_iff]
    · simp only [spec_LeasesRight.G0, spec_LeasesRight.R0]
      rw [decide_eq_false (by omega), cond_false]; rfl
  rw [e]
  unfold leasesP
  grind [= bb_iff]
theorem implLeases (l : List I3) (hl : l.length ≤ 1048576) : F_impl_LeasesRight (l, ()) = some (bb (leasesP l), ()) := by
  show impl_LeasesRight.FF (300 + l.length) l = _
  simp only [impl_LeasesRight.FF, impl_LeasesRight.T]
  have e : ∀ k0, impl_LeasesRight.G0 k0 (fun l2 t => impl_LeasesRight.A0 l l2 t) (fun l2 => impl_LeasesRight.A1 l l2) (300 + l.length) l l l.length 0 = some (bb ((∀ j, j < l.length → lsP l j) ∧ l.length ≤ 60), ()) := by
    intro k0
    refine scanC (g := fun k i => impl_LeasesRight.G0 k0 (fun l2 t => impl_LeasesRight.A0 l l2 t) (fun l2 => impl_LeasesRight.A1 l l2) k l l l.length (i : Nat)) (fun k i hi _ => ?_) (fun _ k => ?_) _ (by omega)
    · have hw : w64 ((i : Int) + 1) = ((i + 1 : Nat) : Int) := w64_in _ (by omega)
      simp only [impl_LeasesRight.G0, impl_LeasesRight.R0, impl_LeasesRight.A0, rd_cast, F_iLease, Option.bind_some, hw]
      have hd : decide (i < (l.length : Int)) = true := decide_eq_true (by omega)
      unfold lsP
      by_cases h0 : 0 < i
      · have hw' : w64 ((i : Int) - 1) = ((i - 1 : Nat) : Int) := (w64_in _ (by omega)).trans (by omega)
        rw [hw']
        simp only [rd_cast]
        grind [= bb_iff]
      · have : i = 0 := by omega
        subst this
        grind [= bb_iff]
    · simp only [impl_LeasesRight.G0, impl_LeasesRight.R0, impl_LeasesRight.A1]
      grind [= bb_iff]
  rw [e]
  unfold leasesP
  congr 2
  exact bb_congr And.comm
def slP (s0 s2 : Int) (m : List I4) (l : List I3) (i : Nat) : Prop := (g3 l i).1 = (g4 m i).1 ∧ s2 < (g3 l i).2.2.1 ∧ (g3 l i).2.2.1 ≤ s2 + s0
def serverP (s0 s1 s2 s3 : Int) (s4 s5 : List I4) (s6 : List I3) : Prop :=
  (1 ≤ s0 ∧ s0 ≤ 1000) ∧ 0 ≤ s1 ∧ s1 ≤ s2 ∧ s2 ≤ 999000 ∧ farmP s3 s4 s5 ∧ leasesP s6 ∧ s6.length = s5.length ∧ ∀ i, i < s6.length → slP s0 s2 s5 s6 i
theorem specServer (s0 s1 s2 s3 : Int) (s4 s5 : List I4) (s6 : List I3) (h4 : s4.length ≤ 1048576) (h5 : s5.length ≤ 1048576) (h6 : s6.length ≤ 1048576) : F_spec_ServerRight (s0, s1, s2, s3, s4, s5, s6, ()) = some (bb (serverP s0 s1 s2 s3 s4 s5 s6), ()) := by
  show spec_ServerRight.FF (300 + s4.length + s5.length + s6.length) s0 s1 s2 s3 s4 s5 s6 = _
  simp only [spec_ServerRight.FF, spec_ServerRight.T, F_l10Length, specFarm s3 s4 s5 h4 h5, specLeases s6 h6, Option.bind_some]
  by_cases h : 1 ≤ s0 ∧ s0 ≤ 1000 ∧ 0 ≤ s2 ∧ s2 ≤ 999000 ∧ s6.length = s5.length
  · have e : ∀ k0, spec_ServerRight.G0 k0 (fun t => spec_ServerRight.A0 s0 s1 s2 s3 s4 s5 s6 t) (fun _ => spec_ServerRight.A1 s0 s1 s2 s3 s4 s5 s6 ()) (300 + s4.length + s5.length + s6.length) 0 s0 s1 s2 s3 s4 s5 s6 = some (bb (∀ j, j < s6.length → slP s0 s2 s5 s6 j), ()) := by
      intro k0
      refine scanB (g := fun k i => spec_ServerRight.G0 k0 (fun t => spec_ServerRight.A0 s0 s1 s2 s3 s4 s5 s6 t) (fun _ => spec_ServerRight.A1 s0 s1 s2 s3 s4 s5 s6 ()) k (i : Nat) s0 s1 s2 s3 s4 s5 s6) (fun k i hi _ => ?_) (fun _ k => ?_) _ (by omega)
      · have hw : w64 ((i : Int) + 1) = ((i + 1 : Nat) : Int) := w64_in _ (by omega)
        have hw2 : w64 (s2 + s0) = s2 + s0 := w64_in _ (by omega)
        simp only [spec_ServerRight.G0, spec_ServerRight.R0, spec_ServerRight.A0, rd_cast, hw, hw2]
        have hd : decide (i < (s6.length : Int)) = true := decide_eq_true (by omega)
        unfold slP
        grind [= bb_iff]
      · simp only [spec_ServerRight.G0, spec_ServerRight.R0]
        rw [decide_eq_false (by omega), cond_false]; rfl
    rw [e]
    unfold serverP
    grind [= bb_iff]
  · unfold serverP
    grind [= bb_iff]
theorem implServer (s0 s1 s2 s3 : Int) (s4 s5 : List I4) (s6 : List I3) (h4 : s4.length ≤ 1048576) (h5 : s5.length ≤ 1048576) (h6 : s6.length ≤ 1048576) : F_impl_ServerRight (s0, s1, s2, s3, s4, s5, s6, ()) = some (bb (serverP s0 s1 s2 s3 s4 s5 s6), ()) := by
  show impl_ServerRight.FF (300 + s4.length + s5.length + s6.length) s0 s1 s2 s3 s4 s5 s6 = _
  simp only [impl_ServerRight.FF, impl_ServerRight.T, F_iin, implFarm s3 s4 s5 h4 h5, implLeases s6 h6, Option.bind_some]
  by_cases h : 1 ≤ s0 ∧ s0 ≤ 1000 ∧ 0 ≤ s2 ∧ s2 ≤ 999000 ∧ s6.length = s5.length
  · have e : ∀ k0, impl_ServerRight.G0 k0 (fun t => impl_ServerRight.A0 s0 s1 s2 s3 s4 s5 s6 t) (fun _ => impl_ServerRight.A1 s0 s1 s2 s3 s4 s5 s6 ()) (300 + s4.length + s5.length + s6.length) s6 s6.length 0 s0 s1 s2 s3 s4 s5 s6 = some (bb (∀ j, j < s6.length → slP s0 s2 s5 s6 j), ()) := by
      intro k0
      refine scanB (g := fun k i => impl_ServerRight.G0 k0 (fun t => impl_ServerRight.A0 s0 s1 s2 s3 s4 s5 s6 t) (fun _ => impl_ServerRight.A1 s0 s1 s2 s3 s4 s5 s6 ()) k s6 s6.length (i : Nat) s0 s1 s2 s3 s4 s5 s6) (fun k i hi _ => ?_) (fun _ k => ?_) _ (by omega)
      · have hw : w64 ((i : Int) + 1) = ((i + 1 : Nat) : Int) := w64_in _ (by omega)
        have hw2 : w64 (s2 + s0) = s2 + s0 := w64_in _ (by omega)
        have hw3 : w64 (s2 + 1) = s2 + 1 := w64_in _ (by omega)
        simp only [impl_ServerRight.G0, impl_ServerRight.R0, impl_ServerRight.A0, rd_cast, hw, hw2, hw3, F_iin, Option.bind_some]
        have hd : decide (i < (s6.length : Int)) = true := decide_eq_true (by omega)
        unfold slP
        grind [= bb_iff]
      · simp only [impl_ServerRight.G0, impl_ServerRight.R0]
        rw [decide_eq_false (by omega), cond_false]; rfl
    rw [e]
    unfold serverP
    grind [= bb_iff]
  · unfold serverP
    grind [= bb_iff]
theorem toGroup (x0 : Int) (x1 : Int) (x2 : Int) (x3 : Int)  : F_laws_toGroup (x0, x1, x2, x3, ()) = some (x0, x1, x2, x3, ()) := by
  rfl
theorem toGroupS (l : List (Int × Int × Int × Int × Unit)) (hl : l.length ≤ 1048576) : F_laws_toGroupS (l, ()) = some (l, ()) := by
  show laws_toGroupS.FF (300 + l.length) l = _
  simp only [laws_toGroupS.FF, laws_toGroupS.T]
  rw [if_pos (by omega)]
  refine copies (n := l.length) (fun i => l.getD i (0, 0, 0, 0, ())) (fun k i out => laws_toGroupS.G0 (300 + l.length) (fun out => laws_toGroupS.A0 l out) k l (i : Nat) out) _ (fun k i out hi ho => ?_) (fun k => ?_) (300 + l.length) 0 _ (by omega) (by omega) (by simp) (by intro j h hj; omega)
  · have hw : w64 ((i : Int) + 1) = ((i + 1 : Nat) : Int) := w64_in _ (by omega)
    simp only [laws_toGroupS.G0, laws_toGroupS.R0, rd_cast, toGroup, Option.bind_some, hw]
    rw [decide_eq_true (by omega), cond_true, if_pos (by omega), if_pos (by omega)]
    rfl
  · simp only [laws_toGroupS.G0, laws_toGroupS.R0]
    rw [decide_eq_false (by omega), cond_false]
    exact congrArg (fun x => some (x, ())) (ofFn_getD l (0, 0, 0, 0, ()))
theorem toMember (x0 : Int) (x1 : Int) (x2 : Int) (x3 : Int)  : F_laws_toMember (x0, x1, x2, x3, ()) = some (x0, x1, x2, x3, ()) := by
  rfl
theorem toMemberS (l : List (Int × Int × Int × Int × Unit)) (hl : l.length ≤ 1048576) : F_laws_toMemberS (l, ()) = some (l, ()) := by
  show laws_toMemberS.FF (300 + l.length) l = _
  simp only [laws_toMemberS.FF, laws_toMemberS.T]
  rw [if_pos (by omega)]
  refine copies (n := l.length) (fun i => l.getD i (0, 0, 0, 0, ())) (fun k i out => laws_toMemberS.G0 (300 + l.length) (fun out => laws_toMemberS.A0 l out) k l (i : Nat) out) _ (fun k i out hi ho => ?_) (fun k => ?_) (300 + l.length) 0 _ (by omega) (by omega) (by simp) (by intro j h hj; omega)
  · have hw : w64 ((i : Int) + 1) = ((i + 1 : Nat) : Int) := w64_in _ (by omega)
    simp only [laws_toMemberS.G0, laws_toMemberS.R0, rd_cast, toMember, Option.bind_some, hw]
    rw [decide_eq_true (by omega), cond_true, if_pos (by omega), if_pos (by omega)]
    rfl
  · simp only [laws_toMemberS.G0, laws_toMemberS.R0]
    rw [decide_eq_false (by omega), cond_false]
    exact congrArg (fun x => some (x, ())) (ofFn_getD l (0, 0, 0, 0, ()))
theorem toFarm (x0 : Int) (x1 : List (Int × Int × Int × Int × Unit)) (x2 : List (Int × Int × Int × Int × Unit)) (h_x1 : x1.length ≤ 1048576) (h_x2 : x2.length ≤ 1048576) : F_laws_toFarm (x0, x1, x2, ()) = some (x0, x1, x2, ()) := by
  simp (disch := assumption) only [F_laws_toFarm, laws_toFarm.T, toGroupS, toMemberS, Option.bind_some]
theorem toLease (x0 : Int) (x1 : Int) (x2 : Int)  : F_laws_toLease (x0, x1, x2, ()) = some (x0, x1, x2, ()) := by
  rfl
theorem toLeaseS (l : List (Int × Int × Int × Unit)) (hl : l.length ≤ 1048576) : F_laws_toLeaseS (l, ()) = some (l, ()) := by
  show laws_toLeaseS.FF (300 + l.length) l = _
  simp only [laws_toLeaseS.FF, laws_toLeaseS.T]
  rw [if_pos (by omega)]
  refine copies (n := l.length) (fun i => l.getD i (0, 0, 0, ())) (fun k i out => laws_toLeaseS.G0 (300 + l.length) (fun out => laws_toLeaseS.A0 l out) k l (i : Nat) out) _ (fun k i out hi ho => ?_) (fun k => ?_) (300 + l.length) 0 _ (by omega) (by omega) (by simp) (by intro j h hj; omega)
  · have hw : w64 ((i : Int) + 1) = ((i + 1 : Nat) : Int) := w64_in _ (by omega)
    simp only [laws_toLeaseS.G0, laws_toLeaseS.R0, rd_cast, toLease, Option.bind_some, hw]
    rw [decide_eq_true (by omega), cond_true, if_pos (by omega), if_pos (by omega)]
    rfl
  · simp only [laws_toLeaseS.G0, laws_toLeaseS.R0]
    rw [decide_eq_false (by omega), cond_false]
    exact congrArg (fun x => some (x, ())) (ofFn_getD l (0, 0, 0, ()))
theorem toServer (x0 : Int) (x1 : Int) (x2 : Int) (x3 : Int) (x4 : List (Int × Int × Int × Int × Unit)) (x5 : List (Int × Int × Int × Int × Unit)) (x6 : List (Int × Int × Int × Unit)) (h_x4 : x4.length ≤ 1048576) (h_x5 : x5.length ≤ 1048576) (h_x6 : x6.length ≤ 1048576) : F_laws_toServer (x0, x1, x2, x3, x4, x5, x6, ()) = some (x0, x1, x2, x3, x4, x5, x6, ()) := by
  simp (disch := assumption) only [F_laws_toServer, laws_toServer.T, toFarm, toLeaseS, Option.bind_some]
theorem toClient (x0 : Int) (x1 : Int) (x2 : Int) (x3 : Int) (x4 : Int) (x5 : Int) (x6 : Int) (x7 : Int) (x8 : Int) (x9 : Int)  : F_laws_toClient (x0, x1, x2, x3, x4, x5, x6, x7, x8, x9, ()) = some (x0, x1, x2, x3, x4, x5, x6, x7, x8, x9, ()) := by
  rfl
theorem toRelay (x0 : Int) (x1 : Int) (x2 : Int) (x3 : Int) (x4 : List (Int × Int × Int × Int × Unit)) (x5 : List (Int × Int × Int × Int × Unit)) (x6 : List (Int × Int × Int × Unit)) (x7 : Int) (x8 : Int) (x9 : Int) (x10 : Int) (x11 : Int) (x12 : Int) (x13 : Int) (x14 : Int) (x15 : Int) (x16 : Int) (h_x4 : x4.length ≤ 1048576) (h_x5 : x5.length ≤ 1048576) (h_x6 : x6.length ≤ 1048576) : F_laws_toRelay (x0, x1, x2, x3, x4, x5, x6, x7, x8, x9, x10, x11, x12, x13, x14, x15, x16, ()) = some (x0, x1, x2, x3, x4, x5, x6, x7, x8, x9, x10, x11, x12, x13, x14, x15, x16, ()) := by
  simp (disch := assumption) only [F_laws_toRelay, laws_toRelay.T, toServer, toClient, Option.bind_some]
theorem eqGroup (x0 : Int) (x1 : Int) (x2 : Int) (x3 : Int)  : F_laws_eqGroup (x0, x1, x2, x3, x0, x1, x2, x3, ()) = some (true, ()) := by
  simp (disch := assumption) only [F_laws_eqGroup, laws_eqGroup.T, Option.bind_some, bne_self_eq_false, cond_false, Bool.not_true]
theorem eqGroupS (l : List (Int × Int × Int × Int × Unit)) (hl : l.length ≤ 1048576) : F_laws_eqGroupS (l, l, ()) = some (true, ()) := by
  show laws_eqGroupS.FF (300 + l.length + l.length) l l = _
  simp only [laws_eqGroupS.FF, laws_eqGroupS.T, bne_self_eq_false, cond_false]
  rw [← bbAll l.length]
  refine scanB (g := fun k i => laws_eqGroupS.G0 (300 + l.length + l.length) (fun t => laws_eqGroupS.A0 l l t) (fun _ => laws_eqGroupS.A1 l l ()) k l l (i : Nat)) (fun k i hi _ => ?_) (fun _ k => ?_) _ (by omega)
  · have hw : w64 ((i : Int) + 1) = ((i + 1 : Nat) : Int) := w64_in _ (by omega)
    simp only [laws_eqGroupS.G0, laws_eqGroupS.R0, rd_cast, eqGroup, Option.bind_some, hw]
    grind [= bb_iff]
  · simp only [laws_eqGroupS.G0, laws_eqGroupS.R0, laws_eqGroupS.A1]; grind [= bb_iff]
theorem eqMember (x0 : Int) (x1 : Int) (x2 : Int) (x3 : Int)  : F_laws_eqMember (x0, x1, x2, x3, x0, x1, x2, x3, ()) = some (true, ()) := by
  simp (disch := assumption) only [F_laws_eqMember, laws_eqMember.T, Option.bind_some, bne_self_eq_false, cond_false, Bool.not_true]
theorem eqMemberS (l : List (Int × Int × Int × Int × Unit)) (hl : l.length ≤ 1048576) : F_laws_eqMemberS (l, l, ()) = some (true, ()) := by
  show laws_eqMemberS.FF (300 + l.length + l.length) l l = _
  simp only [laws_eqMemberS.FF, laws_eqMemberS.T, bne_self_eq_false, cond_false]
  rw [← bbAll l.length]
  refine scanB (g := fun k i => laws_eqMemberS.G0 (300 + l.length + l.length) (fun t => laws_eqMemberS.A0 l l t) (fun _ => laws_eqMemberS.A1 l l ()) k l l (i : Nat)) (fun k i hi _ => ?_) (fun _ k => ?_) _ (by omega)
  · have hw : w64 ((i : Int) + 1) = ((i + 1 : Nat) : Int) := w64_in _ (by omega)
    simp only [laws_eqMemberS.G0, laws_eqMemberS.R0, rd_cast, eqMember, Option.bind_some, hw]
    grind [= bb_iff]
  · simp only [laws_eqMemberS.G0, laws_eqMemberS.R0, laws_eqMemberS.A1]; grind [= bb_iff]
theorem eqFarm (x0 : Int) (x1 : List (Int × Int × Int × Int × Unit)) (x2 : List (Int × Int × Int × Int × Unit)) (h_x1 : x1.length ≤ 1048576) (h_x2 : x2.length ≤ 1048576) : F_laws_eqFarm (x0, x1, x2, x0, x1, x2, ()) = some (true, ()) := by
  simp (disch := assumption) only [F_laws_eqFarm, laws_eqFarm.T, eqGroupS, eqMemberS, Option.bind_some, bne_self_eq_false, cond_false, Bool.not_true]
theorem eqLease (x0 : Int) (x1 : Int) (x2 : Int)  : F_laws_eqLease (x0, x1, x2, x0, x1, x2, ()) = some (true, ()) := by
  simp (disch := assumption) only [F_laws_eqLease, laws_eqLease.T, Option.bind_some, bne_self_eq_false, cond_false, Bool.not_true]
theorem eqLeaseS (l : List (Int × Int × Int × Unit)) (hl : l.length ≤ 1048576) : F_laws_eqLeaseS (l, l, ()) = some (true, ()) := by
  show laws_eqLeaseS.FF (300 + l.length + l.length) l l = _
  simp only [laws_eqLeaseS.FF, laws_eqLeaseS.T, bne_self_eq_false, cond_false]
  rw [← bbAll l.length]
  refine scanB (g := fun k i => laws_eqLeaseS.G0 (300 + l.length + l.length) (fun t => laws_eqLeaseS.A0 l l t) (fun _ => laws_eqLeaseS.A1 l l ()) k l l (i : Nat)) (fun k i hi _ => ?_) (fun _ k => ?_) _ (by omega)
  · have hw : w64 ((i : Int) + 1) = ((i + 1 : Nat) : Int) := w64_in _ (by omega)
    simp only [laws_eqLeaseS.G0, laws_eqLeaseS.R0, rd_cast, eqLease, Option.bind_some, hw]
    grind [= bb_iff]
  · simp only [laws_eqLeaseS.G0, laws_eqLeaseS.R0, laws_eqLeaseS.A1]; grind [= bb_iff]
theorem eqServer (x0 : Int) (x1 : Int) (x2 : Int) (x3 : Int) (x4 : List (Int × Int × Int × Int × Unit)) (x5 : List (Int × Int × Int × Int × Unit)) (x6 : List (Int × Int × Int × Unit)) (h_x4 : x4.length ≤ 1048576) (h_x5 : x5.length ≤ 1048576) (h_x6 : x6.length ≤ 1048576) : F_laws_eqServer (x0, x1, x2, x3, x4, x5, x6, x0, x1, x2, x3, x4, x5, x6, ()) = some (true, ()) := by
  simp (disch := assumption) only [F_laws_eqServer, laws_eqServer.T, eqFarm, eqLeaseS, Option.bind_some, bne_self_eq_false, cond_false, Bool.not_true]
theorem eqClient (x0 : Int) (x1 : Int) (x2 : Int) (x3 : Int) (x4 : Int) (x5 : Int) (x6 : Int) (x7 : Int) (x8 : Int) (x9 : Int)  : F_laws_eqClient (x0, x1, x2, x3, x4, x5, x6, x7, x8, x9, x0, x1, x2, x3, x4, x5, x6, x7, x8, x9, ()) = some (true, ()) := by
  simp (disch := assumption) only [F_laws_eqClient, laws_eqClient.T, Option.bind_some, bne_self_eq_false, cond_false, Bool.not_true]
theorem eqRelay (x0 : Int) (x1 : Int) (x2 : Int) (x3 : Int) (x4 : List (Int × Int × Int × Int × Unit)) (x5 : List (Int × Int × Int × Int × Unit)) (x6 : List (Int × Int × Int × Unit)) (x7 : Int) (x8 : Int) (x9 : Int) (x10 : Int) (x11 : Int) (x12 : Int) (x13 : Int) (x14 : Int) (x15 : Int) (x16 : Int) (h_x4 : x4.length ≤ 1048576) (h_x5 : x5.length ≤ 1048576) (h_x6 : x6.length ≤ 1048576) : F_laws_eqRelay (x0, x1, x2, x3, x4, x5, x6, x7, x8, x9, x10, x11, x12, x13, x14, x15, x16, x0, x1, x2, x3, x4, x5, x6, x7, x8, x9, x10, x11, x12, x13, x14, x15, x16, ()) = some (true, ()) := by
  simp (disch := assumption) only [F_laws_eqRelay, laws_eqRelay.T, eqServer, eqClient, Option.bind_some, bne_self_eq_false, cond_false, Bool.not_true]
theorem szGroupS (l : List (Int × Int × Int × Int × Unit)) (left : Int) (h0 : 0 ≤ left) (h1 : left ≤ 1048576) (hl : l.length ≤ 140737488355328) : ∃ z, F_laws_szGroupS (l, left, ()) = some (z, ()) ∧ lft z left [l.length] := by
  simp only [F_laws_szGroupS, laws_szGroupS.T]
  rw [w64_in (left - l.length) (by omega)]
  by_cases h : left - (l.length : Int) < 0
  · rw [decide_eq_true h]; exact ⟨_, rfl, by omega, by omega⟩
  · rw [decide_eq_false h]; exact ⟨_, rfl, by omega, fun _ n hn => by simp at hn; omega⟩
theorem szMemberS (l : List (Int × Int × Int × Int × Unit)) (left : Int) (h0 : 0 ≤ left) (h1 : left ≤ 1048576) (hl : l.length ≤ 140737488355328) : ∃ z, F_laws_szMemberS (l, left, ()) = some (z, ()) ∧ lft z left [l.length] := by
  simp only [F_laws_szMemberS, laws_szMemberS.T]
  rw [w64_in (left - l.length) (by omega)]
  by_cases h : left - (l.length : Int) < 0
  · rw [decide_eq_true h]; exact ⟨_, rfl, by omega, by omega⟩
  · rw [decide_eq_false h]; exact ⟨_, rfl, by omega, fun _ n hn => by simp at hn; omega⟩
theorem szFarm (x0 : Int) (x1 : List (Int × Int × Int × Int × Unit)) (x2 : List (Int × Int × Int × Int × Unit)) (left : Int) (h0 : 0 ≤ left) (h1 : left ≤ 1048576) (h_x1 : x1.length ≤ 140737488355328) (h_x2 : x2.length ≤ 140737488355328) : ∃ z, F_laws_szFarm (x0, x1, x2, left, ()) = some (z, ()) ∧ lft z left [x1.length, x2.length] := by
  obtain ⟨z0, hz0, ha0, hb0⟩ := szGroupS x1 left (by omega) (by omega) h_x1
  simp only [List.mem_cons, List.not_mem_nil, or_false, forall_eq_or_imp, forall_eq] at hb0
  simp only [F_laws_szFarm, laws_szFarm.T, hz0, Option.bind_some, cond_false]
  by_cases g0 : z0 < 0
  · rw [decide_eq_true g0]; exact ⟨_, rfl, by omega, by omega⟩
  rw [decide_eq_false g0]
  obtain ⟨z1, hz1, ha1, hb1⟩ := szMemberS x2 z0 (by omega) (by omega) h_x2
  simp only [List.mem_cons, List.not_mem_nil, or_false, forall_eq_or_imp, forall_eq] at hb1
  simp only [hz1, Option.bind_some, cond_false]
  by_cases g1 : z1 < 0
  · rw [decide_eq_true g1]; exact ⟨_, rfl, by omega, by omega⟩
  rw [decide_eq_false g1]
  refine ⟨_, rfl, by omega, fun _ n hn => ?_⟩
  simp only [List.mem_cons, List.not_mem_nil, or_false] at hn
  omega
theorem szLeaseS (l : List (Int × Int × Int × Unit)) (left : Int) (h0 : 0 ≤ left) (h1 : left ≤ 1048576) (hl : l.length ≤ 140737488355328) : ∃ z, F_laws_szLeaseS (l, left, ()) = some (z, ()) ∧ lft z left [l.length] := by
  simp only [F_laws_szLeaseS, laws_szLeaseS.T]
  rw [w64_in (left - l.length) (by omega)]
  by_cases h : left - (l.length : Int) < 0
  · rw [decide_eq_true h]; exact ⟨_, rfl, by omega, by omega⟩
  · rw [decide_eq_false h]; exact ⟨_, rfl, by omega, fun _ n hn => by simp at hn; omega⟩
theorem szServer (x0 : Int) (x1 : Int) (x2 : Int) (x3 : Int) (x4 : List (Int × Int × Int × Int × Unit)) (x5 : List (Int × Int × Int × Int × Unit)) (x6 : List (Int × Int × Int × Unit)) (left : Int) (h0 : 0 ≤ left) (h1 : left ≤ 1048576) (h_x4 : x4.length ≤ 140737488355328) (h_x5 : x5.length ≤ 140737488355328) (h_x6 : x6.length ≤ 140737488355328) : ∃ z, F_laws_szServer (x0, x1, x2, x3, x4, x5, x6, left, ()) = some (z, ()) ∧ lft z left [x4.length, x5.length, x6.length] := by
  obtain ⟨z0, hz0, ha0, hb0⟩ := szFarm x3 x4 x5 left (by omega) (by omega) h_x4 h_x5
  simp only [List.mem_cons, List.not_mem_nil, or_false, forall_eq_or_imp, forall_eq] at hb0
  simp only [F_laws_szServer, laws_szServer.T, hz0, Option.bind_some, cond_false]
  by_cases g0 : z0 < 0
  · rw [decide_eq_true g0]; exact ⟨_, rfl, by omega, by omega⟩
  rw [decide_eq_false g0]
  obtain ⟨z1, hz1, ha1, hb1⟩ := szLeaseS x6 z0 (by omega) (by omega) h_x6
  simp only [List.mem_cons, List.not_mem_nil, or_false, forall_eq_or_imp, forall_eq] at hb1
  simp only [hz1, Option.bind_some, cond_false]
  by_cases g1 : z1 < 0
  · rw [decide_eq_true g1]; exact ⟨_, rfl, by omega, by omega⟩
  rw [decide_eq_false g1]
  refine ⟨_, rfl, by omega, fun _ n hn => ?_⟩
  simp only [List.mem_cons, List.not_mem_nil, or_false] at hn
  omega
theorem szRelay (x0 : Int) (x1 : Int) (x2 : Int) (x3 : Int) (x4 : List (Int × Int × Int × Int × Unit)) (x5 : List (Int × Int × Int × Int × Unit)) (x6 : List (Int × Int × Int × Unit)) (x7 : Int) (x8 : Int) (x9 : Int) (x10 : Int) (x11 : Int) (x12 : Int) (x13 : Int) (x14 : Int) (x15 : Int) (x16 : Int) (left : Int) (h0 : 0 ≤ left) (h1 : left ≤ 1048576) (h_x4 : x4.length ≤ 140737488355328) (h_x5 : x5.length ≤ 140737488355328) (h_x6 : x6.length ≤ 140737488355328) : ∃ z, F_laws_szRelay (x0, x1, x2, x3, x4, x5, x6, x7, x8, x9, x10, x11, x12, x13, x14, x15, x16, left, ()) = some (z, ()) ∧ lft z left [x4.length, x5.length, x6.length] := by
  obtain ⟨z0, hz0, ha0, hb0⟩ := szServer x0 x1 x2 x3 x4 x5 x6 left (by omega) (by omega) h_x4 h_x5 h_x6
  simp only [List.mem_cons, List.not_mem_nil, or_false, forall_eq_or_imp, forall_eq] at hb0
  simp only [F_laws_szRelay, laws_szRelay.T, hz0, Option.bind_some, cond_false]
  by_cases g0 : z0 < 0
  · rw [decide_eq_true g0]; exact ⟨_, rfl, by omega, by omega⟩
  rw [decide_eq_false g0]
  refine ⟨_, rfl, by omega, fun _ n hn => ?_⟩
  simp only [List.mem_cons, List.not_mem_nil, or_false] at hn
  omega
def clientP (c0 c1 c2 c3 c4 c5 c6 c7 c8 c9 : Int) : Prop := idP c0 ∧ (c1 = 0 ∨ idP c1) ∧ wantP c2 ∧ weightP c3 ∧ wantP c4 ∧ timeP c5 ∧ timeP c6 ∧ timeP c7 ∧ timeP c9 ∧ 1 ≤ c8 ∧ c8 ≤ 64
theorem specClient (c0 c1 c2 c3 c4 c5 c6 c7 c8 c9 : Int) : F_spec_ClientRight (c0, c1, c2, c3, c4, c5, c6, c7, c8, c9, ()) = some (bb (clientP c0 c1 c2 c3 c4 c5 c6 c7 c8 c9), ()) := by
  simp only [F_spec_ClientRight, spec_ClientRight.T, F_l02Id, F_l02Want, F_l02Weight, F_l07Time, Option.bind_some, clientP]
  grind [= bb_iff]
theorem implClient (c0 c1 c2 c3 c4 c5 c6 c7 c8 c9 : Int) : F_impl_ClientRight (c0, c1, c2, c3, c4, c5, c6, c7, c8, c9, ()) = some (bb (clientP c0 c1 c2 c3 c4 c5 c6 c7 c8 c9), ()) := by
  simp only [F_impl_ClientRight, impl_ClientRight.T, F_iId, F_iWant, F_iWeight, F_iTime, F_iin, Option.bind_some, clientP]
  grind [= bb_iff]
def relayP (s0 s1 s2 s3 : Int) (s4 s5 : List I4) (s6 : List I3) (c0 c1 c2 c3 c4 c5 c6 c7 c8 c9 : Int) : Prop := serverP s0 s1 s2 s3 s4 s5 s6 ∧ clientP c0 c1 c2 c3 c4 c5 c6 c7 c8 c9
theorem specRelay (s0 s1 s2 s3 : Int) (s4 s5 : List I4) (s6 : List I3) (c0 c1 c2 c3 c4 c5 c6 c7 c8 c9 : Int) (h4 : s4.length ≤ 1048576) (h5 : s5.length ≤ 1048576) (h6 : s6.length ≤ 1048576) :
    F_spec_RelayRight (s0, s1, s2, s3, s4, s5, s6, c0, c1, c2, c3, c4, c5, c6, c7, c8, c9, ()) = some (bb (relayP s0 s1 s2 s3 s4 s5 s6 c0 c1 c2 c3 c4 c5 c6 c7 c8 c9), ()) := by
  simp only [F_spec_RelayRight, spec_RelayRight.T, specServer s0 s1 s2 s3 s4 s5 s6 h4 h5 h6, specClient, Option.bind_some, relayP]
  grind [= bb_iff]
theorem implRelay (s0 s1 s2 s3 : Int) (s4 s5 : List I4) (s6 : List I3) (c0 c1 c2 c3 c4 c5 c6 c7 c8 c9 : Int) (h4 : s4.length ≤ 1048576) (h5 : s5.length ≤ 1048576) (h6 : s6.length ≤ 1048576) :
    F_impl_RelayRight (s0, s1, s2, s3, s4, s5, s6, c0, c1, c2, c3, c4, c5, c6, c7, c8, c9, ()) = some (bb (relayP s0 s1 s2 s3 s4 s5 s6 c0 c1 c2 c3 c4 c5 c6 c7 c8 c9), ()) := by
  simp only [F_impl_RelayRight, impl_RelayRight.T, implServer s0 s1 s2 s3 s4 s5 s6 h4 h5 h6, implClient, Option.bind_some, relayP]
  grind [= bb_iff]
abbrev fI (F : List (Int × Unit)) (q : Nat) : Int := (F.getD q (0, ())).1
def gW (l : List I4) (F : Nat → Int) (id : Int) (q : Nat) : Int := if (g4 l q).2.1 = id then F q else 0
def mW (m : List I4) (id : Int) (q : Nat) : Int := if (g4 m q).2.1 = id then (g4 m q).2.2.1 else 0
def wq (l m : List I4) (F : Nat → Int) (id : Int) : Int := sumTo l.length (gW l F id) + sumTo m.length (mW m id)
def smallF (F : Nat → Int) : Prop := ∀ q, 0 ≤ F q ∧ F q ≤ 1125899906842624
def isW (l m : List I4) (F : Nat → Int) : Prop := ∀ i, i < l.length → F i = mn (wq l m F (g4 l i).1) (g4 l i).2.2.1
theorem gW_bd (l : List I4) (F : Nat → Int) (id : Int) (h : smallF F) (q : Nat) : 0 ≤ gW l F id q ∧ gW l F id q ≤ 1125899906842624 := by
  unfold gW; have := h q; split <;> omega
section
variable {c : Int} {l m : List I4} (h : farmP c l m)
include h
theorem mW_bd (id : Int) (q : Nat) (hq : q < m.length) : 0 ≤ mW m id q ∧ mW m id q ≤ 1125899906842624 := by
  unfold mW; have := (h.2.2.2.2 q hq).2.2.2.1; unfold wantP at this; split <;> omega
theorem sG_bd (F : Nat → Int) (id : Int) (hF : smallF F) (j : Nat) (hj : j ≤ l.length) : 0 ≤ sumTo j (gW l F id) ∧ sumTo j (gW l F id) ≤ 33776997205278720 := by
  have h1 := sumTo_bd 1125899906842624 (gW l F id) j fun q _ => gW_bd l F id hF q
  have := h.2.1
  omega
theorem sM_bd (id : Int) (j : Nat) (hj : j ≤ m.length) : 0 ≤ sumTo j (mW m id) ∧ sumTo j (mW m id) ≤ 67553994410557440 := by
  have h1 := sumTo_bd 1125899906842624 (mW m id) j fun q hq => mW_bd h id q (by omega)
  have := h.2.2.1
  omega
theorem rise : risingP l l.length := rising_of l _ fun i hi => (h.2.2.2.1 i hi).2.1
theorem id_pos (i : Nat) (hi : i < l.length) : 1 ≤ (g4 l i).1 := (h.2.2.2.1 i hi).1.1
/-- kids stand behind -/
theorem kid_behind (i q : Nat) (hi : i < l.length) (hq : q < l.length) (hu : (g4 l q).2.1 = (g4 l i).1) : i < q := by
  have h1 := (h.2.2.2.1 q hq).2.2.1
  have h2 := id_pos h i hi
  rcases h1 with h1 | ⟨p, hp, hpu⟩
  · omega
  · rcases Nat.lt_trichotomy i p with h3 | h3 | h3
    · omega
    · omega
    · have := rise h i hi p h3
      omega
theorem sw1 (k0 : Nat) (hx1 : Int → Int → Int → List I4 → List I4 → List (Int × Unit) → Option (List (Int × Unit) × Unit)) (out : List (Int × Unit)) (i : Nat) (hi : i < l.length) (ho : out.length = l.length) (hs : smallF (fI out)) (k : Nat) (hk : l.length < k) :
    spec_l05Wants.G1 k0 hx1 k i 0 ((i + 1 : Nat) : Int) c l m out = hx1 i (sumTo l.length (gW l (fI out) (g4 l i).1)) c l m out := by
  have e : sumTo (i + 1) (gW l (fI out) (g4 l i).1) = 0 := sumTo_zero _ _ fun q hq => by
    unfold gW
    rw [if_neg]
    intro hu
    have := kid_behind h i q hi (by omega) hu
    omega
  have := h.2.1
  refine Eq.trans (congrArg (fun z => spec_l05Wants.G1 k0 hx1 k i z ((i + 1 : Nat) : Int) c l m out) e.symm)
    (run (i + 1) l.length (fun k j => spec_l05Wants.G1 k0 hx1 k i (sumTo j (gW l (fI out) (g4 l i).1)) (j : Nat) c l m out) _ (fun k j h1 h2 => ?_) (fun k => ?_) k (by omega) (by omega))
  · have hw : w64 ((j : Int) + 1) = ((j + 1 : Nat) : Int) := w64_in _ (by omega)
    have b := sG_bd h (fI out) (g4 l i).1 hs j (by omega)
    have b' := hs j
    have hv : w64 (sumTo j (gW l (fI out) (g4 l i).1) + fI out j) = sumTo j (gW l (fI out) (g4 l i).1) + fI out j := w64_in _ (by omega)
    simp only [spec_l05Wants.G1, spec_l05Wants.R1, rd_cast, Int.toNat_natCast, hw, hv, sumTo]
    rw [decide_eq_true (by omega), cond_true, if_pos (by omega), if_pos (by omega), if_pos (by omega)]
    by_cases hu : (g4 l j).2.1 = (g4 l i).1
    · rw [show ((l.getD j (0, 0, 0, 0, ())).2.1 == (l.getD i (0, 0, 0, 0, ())).1) = true from beq_iff_eq.2 hu, cond_true, show gW l (fI out) (g4 l i).1 j = fI out j from if_pos hu]
    · rw [show ((l.getD j (0, 0, 0, 0, ())).2.1 == (l.getD i (0, 0, 0, 0, ())).1) = false from beq_eq_false_iff_ne.2 hu, cond_false, show gW l (fI out) (g4 l i).1 j = 0 from if_neg hu, Int.add_zero]
  · simp only [spec_l05Wants.G1, spec_l05Wants.R1]
    rw [decide_eq_false (by omega), cond_false]
theorem sw2 (k0 : Nat) (hx2 : Int → Int → Int → List I4 → List I4 → List (Int × Unit) → Option (List (Int × Unit) × Unit)) (out : List (Int × Unit)) (i : Nat) (hi : i < l.length) (s : Int) (hs0 : 0 ≤ s) (hs1 : s ≤ 33776997205278720) (k : Nat) (hk : m.length < k) :
    spec_l05Wants.G2 k0 hx2 k i s 0 c l m out = hx2 i (s + sumTo m.length (mW m (g4 l i).1)) c l m out := by
  have := h.2.1
  have := h.2.2.1
  refine Eq.trans (congrArg (fun z => spec_l05Wants.G2 k0 hx2 k i z 0 c l m out) (show s = s + sumTo 0 (mW m (g4 l i).1) from (Int.add_zero s).symm))
    (run 0 m.length (fun k j => spec_l05Wants.G2 k0 hx2 k i (s + sumTo j (mW m (g4 l i).1)) (j : Nat) c l m out) _ (fun k j h1 h2 => ?_) (fun k => ?_) k (by omega) (by omega))
  · have hw : w64 ((j : Int) + 1) = ((j + 1 : Nat) : Int) := w64_in _ (by omega)
    have b := sM_bd h (g4 l i).1 j (by omega)
    have b' := (h.2.2.2.2 j h2).2.2.2.1
    unfold wantP at b'
    have hv : w64 (s + sumTo j (mW m (g4 l i).1) + (g4 m j).2.2.1) = s + (sumTo j (mW m (g4 l i).1) + (g4 m j).2.2.1) := (w64_in _ (by omega)).trans (by omega)
    simp only [spec_l05Wants.G2, spec_l05Wants.R2, rd_cast, Int.toNat_natCast, hw, hv, sumTo]
    rw [decide_eq_true (by omega), cond_true, if_pos (by omega), if_pos (by omega), if_pos (by omega)]
    by_cases hu : (g4 m j).2.1 = (g4 l i).1
    · rw [show ((m.getD j (0, 0, 0, 0, ())).2.1 == (l.getD i (0, 0, 0, 0, ())).1) = true from beq_iff_eq.2 hu, cond_true, show mW m (g4 l i).1 j = (g4 m j).2.2.1 from if_pos hu]
    · rw [show ((m.getD j (0, 0, 0, 0, ())).2.1 == (l.getD i (0, 0, 0, 0, ())).1) = false from beq_eq_false_iff_ne.2 hu, cond_false, show mW m (g4 l i).1 j = 0 from if_neg hu, Int.add_zero]
  · simp only [spec_l05Wants.G2, spec_l05Wants.R2]
    rw [decide_eq_false (by omega), cond_false]
end
theorem l01Min (a b : Int) : F_spec_l01Min (a, b, ()) = some (mn a b, ()) := by
  simp only [F_spec_l01Min, spec_l01Min.T]
  unfold mn
  by_cases h : a < b
  · rw [decide_eq_true h, cond_true, if_neg (by omega)]
  · rw [decide_eq_false h, cond_false]
    by_cases h' : b < a
    · rw [if_pos h']
    · rw [if_neg h', show a = b by omega]
theorem implCap0 (c : Int) (l m : List I4) : F_impl_Farm_cap (c, l, m, 0, ()) = some (c, ()) := rfl
theorem wq_congr (l m : List I4) (F F' : Nat → Int) (id : Int) (h : ∀ q, q < l.length → (g4 l q).2.1 = id → F q = F' q) : wq l m F id = wq l m F' id := by
  unfold wq
  rw [sumTo_congr (gW l F id) (gW l F' id) l.length fun q hq => ?_]
  unfold gW
  by_cases hu : (g4 l q).2.1 = id
  · rw [if_pos hu, if_pos hu, h q hq hu]
  · rw [if_neg hu, if_neg hu]
theorem fI_set (out : List (Int × Unit)) (i q : Nat) (v : Int) (hi : i < out.length) : fI (out.set i (v, ())) q = if q = i then v else fI out q := by
  unfold fI
  simp only [List.getD_eq_getElem?_getD, List.getElem?_set]
  by_cases h : q = i
  · rw [if_pos h, if_pos h.symm, if_pos (by omega)]; rfl
  · rw [if_neg h, if_neg (fun h' => h h'.symm)]
theorem fI_zero (n q : Nat) : fI (List.replicate n ((0 : Int), ())) q = 0 := by
  unfold fI
  simp only [List.getD_eq_getElem?_getD, List.getElem?_replicate]
  split <;> rfl
section
variable {c : Int} {l m : List I4} (h : farmP c l m)
include h
theorem wq_bd (F : Nat → Int) (id : Int) (hF : smallF F) : 0 ≤ wq l m F id ∧ wq l m F id ≤ 101330991615836160 := by
  have h1 := sG_bd h F id hF l.length (Nat.le_refl _)
  have h2 := sM_bd h id m.length (Nat.le_refl _)
  unfold wq; omega
theorem sw0 (k0 : Nat) (hk0 : l.length + m.length < k0) (s : Nat) : ∀ (out : List (Int × Unit)) (k : Nat), s ≤ l.length → s < k → out.length = l.length → smallF (fI out) → (∀ j, s ≤ j → j < l.length → fI out j = mn (wq l m (fI out) (g4 l j).1) (g4 l j).2.2.1) →
    ∃ F, spec_l05Wants.G0 k0 (fun out => spec_l05Wants.A0 c l m out) k ((s : Int) - 1) c l m out = some (F, ()) ∧ F.length = l.length ∧ smallF (fI F) ∧ isW l m (fI F) := by
  have hl := h.2.1
  induction s with
  | zero =>
    intro out k _ hk ho hs hw
    obtain ⟨k, rfl⟩ : ∃ k', k = k' + 1 := ⟨k - 1, by omega⟩
    refine ⟨out, ?_, ho, hs, fun i hi => hw i (by omega) hi⟩
    simp only [spec_l05Wants.G0, spec_l05Wants.R0]
    rw [decide_eq_false (by omega), cond_false]
    rfl
  | succ s ih =>
    intro out k hs1 hk ho hs hw
    obtain ⟨k, rfl⟩ : ∃ k', k = k' + 1 := ⟨k - 1, by omega⟩
    have e1 : (((s + 1 : Nat) : Int) - 1) = (s : Int) := by omega
    have e2 : w64 ((s : Int) + 1) = ((s + 1 : Nat) : Int) := w64_in _ (by omega)
    have e3 : w64 ((s : Int) - 1) = (s : Int) - 1 := w64_in _ (by omega)
    have b1 := sG_bd h (fI out) (g4 l s).1 hs l.length (Nat.le_refl _)
    have b2 := sM_bd h (g4 l s).1 m.length (Nat.le_refl _)
    have b3 := (h.2.2.2.1 s (by omega)).2.2.2.1
    unfold wantP at b3
    simp only [spec_l05Wants.G0, spec_l05Wants.R0, e1, e2]
    rw [decide_eq_true (by omega), cond_true, sw1 h k0 _ out s (by omega) ho hs k0 (by omega)]
    simp only [spec_l05Wants.A1]
    rw [sw2 h k0 _ out s (by omega) _ b1.1 b1.2 k0 (by omega)]
    simp only [spec_l05Wants.A2, rd_cast, l01Min, Option.bind_some, e3, Int.toNat_natCast]
    rw [if_pos (by omega), if_pos (by omega)]
    have hv : 0 ≤ mn (wq l m (fI out) (g4 l s).1) (g4 l s).2.2.1 ∧ mn (wq l m (fI out) (g4 l s).1) (g4 l s).2.2.1 ≤ 1125899906842624 := by
      have := wq_bd h (fI out) (g4 l s).1 hs
      unfold mn; split <;> omega
    have hset := fun q => fI_set out s q (mn (wq l m (fI out) (g4 l s).1) (g4 l s).2.2.1) (by omega)
    have hwq : ∀ j, s ≤ j → j < l.length → wq l m (fI (out.set s (mn (wq l m (fI out) (g4 l s).1) (g4 l s).2.2.1, ()))) (g4 l j).1 = wq l m (fI out) (g4 l j).1 := fun j hj hjl =>
      wq_congr l m _ _ _ fun q hq hu => by
        have := kid_behind h j q hjl hq hu
        rw [hset, if_neg (by omega)]
    refine ih (out.set s (mn (wq l m (fI out) (g4 l s).1) (g4 l s).2.2.1, ())) k (by omega) (by omega) (by simp [ho]) (fun q => ?_) (fun j hj hjl => ?_)
    · rw [hset]; split
      · exact hv
      · exact hs q
    · rw [hwq j hj hjl, hset]
      by_cases hjs : j = s
      · rw [if_pos hjs, hjs]
      · rw [if_neg hjs]; exact hw j (by omega) hjl
theorem specWants : ∃ F, F_spec_l05Wants (c, l, m, ()) = some (F, ()) ∧ F.length = l.length ∧ smallF (fI F) ∧ isW l m (fI F) := by
  have hl := h.2.1
  have hm := h.2.2.1
  obtain ⟨F, h1, h2⟩ := sw0 h (300 + l.length + m.length) (by omega) l.length (List.replicate l.length (0, ())) (300 + l.length + m.length) (Nat.le_refl _) (by omega) (by simp) (fun q => by rw [fI_zero]; omega) (fun j h1 h2 => by omega)
  refine ⟨F, ?_, h2⟩
  show spec_l05Wants.FF (300 + l.length + m.length) c l m = _
  simp only [spec_l05Wants.FF, spec_l05Wants.T]
  rw [if_pos (by omega), w64_in _ (by omega)]
  exact h1
theorem sfw0 (k0 : Nat) (hx0 : Int → Int → List I4 → List I4 → Option (Int × Unit)) (F : List (Int × Unit)) (hFl : F.length = l.length) (hF : smallF (fI F)) (k : Nat) (hk : l.length < k) :
    spec_FarmWant.G0 k0 hx0 k 0 0 c l m F = hx0 (sumTo l.length (gW l (fI F) 0)) c l m := by
  have := h.2.1
  refine run 0 l.length (fun k j => spec_FarmWant.G0 k0 hx0 k (sumTo j (gW l (fI F) 0)) (j : Nat) c l m F) _ (fun k j h1 h2 => ?_) (fun k => ?_) k (by omega) (by omega)
  · have hw : w64 ((j : Int) + 1) = ((j + 1 : Nat) : Int) := w64_in _ (by omega)
    have b := sG_bd h (fI F) 0 hF j (by omega)
    have b' := hF j
    have hv : w64 (sumTo j (gW l (fI F) 0) + fI F j) = sumTo j (gW l (fI F) 0) + fI F j := w64_in _ (by omega)
    simp only [spec_FarmWant.G0, spec_FarmWant.R0, rd_cast, Int.toNat_natCast, hw, hv, sumTo]
    rw [decide_eq_true (by omega), cond_true, if_pos (by omega), if_pos (by omega)]
    by_cases hu : (g4 l j).2.1 = 0
    · rw [show ((l.getD j (0, 0, 0, 0, ())).2.1 == 0) = true from beq_iff_eq.2 hu, cond_true, show gW l (fI F) 0 j = fI F j from if_pos hu]
    · rw [show ((l.getD j (0, 0, 0, 0, ())).2.1 == 0) = false from beq_eq_false_iff_ne.2 hu, cond_false, show gW l (fI F) 0 j = 0 from if_neg hu, Int.add_zero]
  · simp only [spec_FarmWant.G0, spec_FarmWant.R0]
    rw [decide_eq_false (by omega), cond_false]
theorem sfw1 (k0 : Nat) (hx1 : Int → Int → List I4 → List I4 → Option (Int × Unit)) (s : Int) (hs0 : 0 ≤ s) (hs1 : s ≤ 33776997205278720) (k : Nat) (hk : m.length < k) :
    spec_FarmWant.G1 k0 hx1 k s 0 c l m = hx1 (s + sumTo m.length (mW m 0)) c l m := by
  have := h.2.2.1
  refine Eq.trans (congrArg (fun z => spec_FarmWant.G1 k0 hx1 k z 0 c l m) (show s = s + sumTo 0 (mW m 0) from (Int.add_zero s).symm))
    (run 0 m.length (fun k j => spec_FarmWant.G1 k0 hx1 k (s + sumTo j (mW m 0)) (j : Nat) c l m) _ (fun k j h1 h2 => ?_) (fun k => ?_) k (by omega) (by omega))
  · have hw : w64 ((j : Int) + 1) = ((j + 1 : Nat) : Int) := w64_in _ (by omega)
    have b := sM_bd h 0 j (by omega)
    have b' := (h.2.2.2.2 j h2).2.2.2.1
    unfold wantP at b'
    have hv : w64 (s + sumTo j (mW m 0) + (g4 m j).2.2.1) = s + (sumTo j (mW m 0) + (g4 m j).2.2.1) := (w64_in _ (by omega)).trans (by omega)
    simp only [spec_FarmWant.G1, spec_FarmWant.R1, rd_cast, Int.toNat_natCast, hw, hv, sumTo]
    rw [decide_eq_true (by omega), cond_true, if_pos (by omega), if_pos (by omega)]
    by_cases hu : (g4 m j).2.1 = 0
    · rw [show ((m.getD j (0, 0, 0, 0, ())).2.1 == 0) = true from beq_iff_eq.2 hu, cond_true, show mW m 0 j = (g4 m j).2.2.1 from if_pos hu]
    · rw [show ((m.getD j (0, 0, 0, 0, ())).2.1 == 0) = false from beq_eq_false_iff_ne.2 hu, cond_false, show mW m 0 j = 0 from if_neg hu, Int.add_zero]
  · simp only [spec_FarmWant.G1, spec_FarmWant.R1]
    rw [decide_eq_false (by omega), cond_false]
/-- the whole's want, as the reference has it -/
theorem specFarmWant0 : ∃ F : Nat → Int, smallF F ∧ isW l m F ∧ F_spec_FarmWant (c, l, m, 0, ()) = some (mn (wq l m F 0) c, ()) := by
  have hl := h.2.1
  have hm := h.2.2.1
  obtain ⟨F, h1, h2, h3, h4⟩ := specWants h
  refine ⟨fI F, h3, h4, ?_⟩
  have b1 := sG_bd h (fI F) 0 h3 l.length (Nat.le_refl _)
  show spec_FarmWant.FF (300 + l.length + m.length) c l m 0 = _
  simp only [spec_FarmWant.FF, spec_FarmWant.T, specFarm c l m (by omega) (by omega), bb_true h, h1, Option.bind_some, Bool.not_true, cond_false, bne_self_eq_false]
  rw [sfw0 h _ _ F h2 h3 _ (by omega)]
  simp only [spec_FarmWant.A0]
  rw [sfw1 h _ _ _ b1.1 b1.2 _ (by omega)]
  simp only [spec_FarmWant.A1, l01Min, Option.bind_some]
  rfl
theorem implCap (id : Int) (i : Nat) (hi : i < l.length) (hid : (g4 l i).1 = id) : F_impl_Farm_cap (c, l, m, id, ()) = some ((g4 l i).2.2.1, ()) := by
  have hl := h.2.1
  obtain ⟨p, h1, h2, h3⟩ := F_iGroup c l m id (by omega) (rise h)
  obtain ⟨h4, h5⟩ := h3 ⟨i, hi, hid⟩
  have h6 := id_pos h i hi
  have hp : p = i := by
    rcases Nat.lt_trichotomy p i with h7 | h7 | h7
    · have := rise h i hi p h7; omega
    · exact h7
    · have := rise h p h4 i h7; omega
  simp only [F_impl_Farm_cap, impl_Farm_cap.T, h1, Option.bind_some]
  rw [show (id == 0) = false from beq_eq_false_iff_ne.2 (by omega), cond_false, if_pos (by omega), hp]
  rfl
theorem iw0 (rc : Int × List I4 × List I4 × Int × Unit → Option (Int × Unit)) (k0 : Nat) (hx0 : Int → Int → Int → List I4 → List I4 → Option (Int × Unit)) (F : Nat → Int) (hF : smallF F) (id : Int) (hrc : ∀ q, q < l.length → (g4 l q).2.1 = id → rc (c, l, m, (g4 l q).1, ()) = some (F q, ())) (k : Nat) (hk : l.length < k) :
    impl_Farm_want.G0 rc k0 hx0 k id 0 l l.length 0 c l m = hx0 id (sumTo l.length (gW l F id)) c l m := by
  have := h.2.1
  refine run 0 l.length (fun k j => impl_Farm_want.G0 rc k0 hx0 k id (sumTo j (gW l F id)) l l.length (j : Nat) c l m) _ (fun k j h1 h2 => ?_) (fun k => ?_) k (by omega) (by omega)
  · have hw : w64 ((j : Int) + 1) = ((j + 1 : Nat) : Int) := w64_in _ (by omega)
    have b := sG_bd h F id hF j (by omega)
    have b' := hF j
    have hv : w64 (sumTo j (gW l F id) + F j) = sumTo j (gW l F id) + F j := w64_in _ (by omega)
    simp only [impl_Farm_want.G0, impl_Farm_want.R0, rd_cast, Int.toNat_natCast, hw, sumTo]
    rw [decide_eq_true (by omega), cond_true, if_pos (by omega)]
    by_cases hu : (g4 l j).2.1 = id
    · rw [show ((l.getD j (0, 0, 0, 0, ())).2.1 == id) = true from beq_iff_eq.2 hu, cond_true, show gW l F id j = F j from if_pos hu, show rc (c, l, m, (l.getD j (0, 0, 0, 0, ())).1, ()) = _ from hrc j h2 hu, Option.bind_some]
      simp only [hv]
    · rw [show ((l.getD j (0, 0, 0, 0, ())).2.1 == id) = false from beq_eq_false_iff_ne.2 hu, cond_false, show gW l F id j = 0 from if_neg hu, Int.add_zero]
  · simp only [impl_Farm_want.G0, impl_Farm_want.R0]
    rw [decide_eq_false (by omega), cond_false]
theorem iw1 (rc : Int × List I4 × List I4 × Int × Unit → Option (Int × Unit)) (k0 : Nat) (hx1 : Int → Int → Int → List I4 → List I4 → Option (Int × Unit)) (id s : Int) (hs0 : 0 ≤ s) (hs1 : s ≤ 33776997205278720) (k : Nat) (hk : m.length < k) :
    impl_Farm_want.G1 rc k0 hx1 k id s m m.length 0 c l m = hx1 id (s + sumTo m.length (mW m id)) c l m := by
  have := h.2.2.1
  refine Eq.trans (congrArg (fun z => impl_Farm_want.G1 rc k0 hx1 k id z m m.length 0 c l m) (show s = s + sumTo 0 (mW m id) from (Int.add_zero s).symm))
    (run 0 m.length (fun k j => impl_Farm_want.G1 rc k0 hx1 k id (s + sumTo j (mW m id)) m m.length (j : Nat) c l m) _ (fun k j h1 h2 => ?_) (fun k => ?_) k (by omega) (by omega))
  · have hw : w64 ((j : Int) + 1) = ((j + 1 : Nat) : Int) := w64_in _ (by omega)
    have b := sM_bd h id j (by omega)
    have b' := (h.2.2.2.2 j h2).2.2.2.1
    unfold wantP at b'
    have hv : w64 (s + sumTo j (mW m id) + (g4 m j).2.2.1) = s + (sumTo j (mW m id) + (g4 m j).2.2.1) := (w64_in _ (by omega)).trans (by omega)
    simp only [impl_Farm_want.G1, impl_Farm_want.R1, rd_cast, Int.toNat_natCast, hw, hv, sumTo]
    rw [decide_eq_true (by omega), cond_true, if_pos (by omega)]
    by_cases hu : (g4 m j).2.1 = id
    · rw [show ((m.getD j (0, 0, 0, 0, ())).2.1 == id) = true from beq_iff_eq.2 hu, cond_true, show mW m id j = (g4 m j).2.2.1 from if_pos hu]
    · rw [show ((m.getD j (0, 0, 0, 0, ())).2.1 == id) = false from beq_eq_false_iff_ne.2 hu, cond_false, show mW m id j = 0 from if_neg hu, Int.add_zero]
  · simp only [impl_Farm_want.G1, impl_Farm_want.R1]
    rw [decide_eq_false (by omega), cond_false]
/-- one call of want, its kids' wants known -/
theorem iwF (rc : Int × List I4 × List I4 × Int × Unit → Option (Int × Unit)) (F : Nat → Int) (hF : smallF F) (id cap : Int) (hcap : F_impl_Farm_cap (c, l, m, id, ()) = some (cap, ())) (hrc : ∀ q, q < l.length → (g4 l q).2.1 = id → rc (c, l, m, (g4 l q).1, ()) = some (F q, ())) :
    impl_Farm_want.FF rc (300 + l.length + m.length) c l m id = some (mn (wq l m F id) cap, ()) := by
  have b1 := sG_bd h F id hF l.length (Nat.le_refl _)
  simp only [impl_Farm_want.FF, impl_Farm_want.T]
  rw [iw0 h rc _ _ F hF id hrc _ (by omega)]
  simp only [impl_Farm_want.A0]
  rw [iw1 h rc _ _ id _ b1.1 b1.2 _ (by omega)]
  simp only [impl_Farm_want.A1, hcap, Option.bind_some]
  rfl
theorem iwR (F : Nat → Int) (hF : smallF F) (hW : isW l m F) (d : Nat) : ∀ i k, i < l.length → l.length - i ≤ d → d ≤ k → FR_impl_Farm_want k (c, l, m, (g4 l i).1, ()) = some (F i, ()) := by
  induction d with
  | zero => intro i k h1 h2; omega
  | succ d ih =>
    intro i k hi hd hk
    obtain ⟨k, rfl⟩ : ∃ k', k = k' + 1 := ⟨k - 1, by omega⟩
    simp only [FR_impl_Farm_want]
    rw [iwF h _ F hF (g4 l i).1 _ (implCap h _ i hi rfl) fun q hq hu => ih q k hq (by have := kid_behind h i q hi hq hu; omega) (by omega), hW i hi]
theorem implWantAt (F : Nat → Int) (hF : smallF F) (hW : isW l m F) (i : Nat) (hi : i < l.length) : F_impl_Farm_want (c, l, m, (g4 l i).1, ()) = some (F i, ()) :=
  iwR h F hF hW (300 + l.length + m.length) i (300 + l.length + m.length) hi (by omega) (Nat.le_refl _)
theorem implWant0 (F : Nat → Int) (hF : smallF F) (hW : isW l m F) : F_impl_Farm_want (c, l, m, 0, ()) = some (mn (wq l m F 0) c, ()) := by
  show FR_impl_Farm_want (300 + l.length + m.length) (c, l, m, 0, ()) = _
  obtain ⟨k, hk⟩ : ∃ k', 300 + l.length + m.length = k' + 1 := ⟨299 + l.length + m.length, by omega⟩
  rw [hk]
  simp only [FR_impl_Farm_want]
  exact iwF h _ F hF 0 c (implCap0 c l m) fun q hq _ => iwR h F hF hW l.length q k hq (by omega) (by omega)
end
theorem sameRelayWant (s0 s1 s2 s3 : Int) (s4 s5 : List I4) (s6 : List I3) (c0 c1 c2 c3 c4 c5 c6 c7 c8 c9 : Int) (h4 : s4.length ≤ 1048576) (h5 : s5.length ≤ 1048576) (h6 : s6.length ≤ 1048576) :
    ∃ v : Int, F_spec_RelayWant (s0, s1, s2, s3, s4, s5, s6, c0, c1, c2, c3, c4, c5, c6, c7, c8, c9, ()) = some (v, ()) ∧ F_impl_RelayWant (s0, s1, s2, s3, s4, s5, s6, c0, c1, c2, c3, c4, c5, c6, c7, c8, c9, ()) = some (v, ()) := by
  simp only [F_spec_RelayWant, spec_RelayWant.T, F_impl_RelayWant, impl_RelayWant.T, specRelay s0 s1 s2 s3 s4 s5 s6 c0 c1 c2 c3 c4 c5 c6 c7 c8 c9 h4 h5 h6, implRelay s0 s1 s2 s3 s4 s5 s6 c0 c1 c2 c3 c4 c5 c6 c7 c8 c9 h4 h5 h6, Option.bind_some]
  by_cases h : relayP s0 s1 s2 s3 s4 s5 s6 c0 c1 c2 c3 c4 c5 c6 c7 c8 c9
  · have hf : farmP 1125899906842624 s4 s5 := ⟨by unfold wantP; omega, h.1.2.2.2.2.1.2⟩
    obtain ⟨F, h1, h2, h3⟩ := specFarmWant0 hf
    simp only [bb_true h, Bool.not_true, cond_false, h3, Option.bind_some, F_impl_Relay_want, impl_Relay_want.T, implWant0 hf F h1 h2]
    exact ⟨_, rfl, rfl⟩
  · rw [bb_neg h]
    exact ⟨_, rfl, rfl⟩
theorem lawRelayWant (s0 s1 s2 s3 : Int) (s4 s5 : List I4) (s6 : List I3) (c0 c1 c2 c3 c4 c5 c6 c7 c8 c9 : Int) (h4 : s4.length ≤ 140737488355328) (h5 : s5.length ≤ 140737488355328) (h6 : s6.length ≤ 140737488355328) :
    F_laws_FnExactRelayWant (s0, s1, s2, s3, s4, s5, s6, c0, c1, c2, c3, c4, c5, c6, c7, c8, c9, ()) = some (true, ()) := by
  obtain ⟨z, hz, h2, h3⟩ := szRelay s0 s1 s2 s3 s4 s5 s6 c0 c1 c2 c3 c4 c5 c6 c7 c8 c9 1048576 (by omega) (by omega) h4 h5 h6
  simp only [F_laws_FnExactRelayWant, laws_FnExactRelayWant.T, hz, Option.bind_some]
  simp only [List.mem_cons, List.not_mem_nil, or_false, forall_eq_or_imp, forall_eq] at h3
  by_cases h : z < 0
  · rw [decide_eq_true h]; rfl
  · rw [decide_eq_false h]
    obtain ⟨k4, k5, k6⟩ := h3 (by omega)
    have k4' : s4.length ≤ 1048576 := by omega
    have k5' : s5.length ≤ 1048576 := by omega
    have k6' : s6.length ≤ 1048576 := by omega
    obtain ⟨v, h7, h8⟩ := sameRelayWant s0 s1 s2 s3 s4 s5 s6 c0 c1 c2 c3 c4 c5 c6 c7 c8 c9 k4' k5' k6'
    simp only [toRelay s0 s1 s2 s3 s4 s5 s6 c0 c1 c2 c3 c4 c5 c6 c7 c8 c9 k4' k5' k6', h7, h8,
      eqRelay s0 s1 s2 s3 s4 s5 s6 c0 c1 c2 c3 c4 c5 c6 c7 c8 c9 k4' k5' k6', Option.bind_some, cond_false, Bool.not_true, bne_self_eq_false]
theorem pureRelayWant : ∀ x : CTs.V (insC ins_laws_FnExactRelayWant), CTs.ok (insC ins_laws_FnExactRelayWant) x → F_laws_FnExactRelayWant x = some (true, ()) := by
  rintro ⟨s0, s1, s2, s3, s4, s5, s6, c0, c1, c2, c3, c4, c5, c6, c7, c8, c9, ⟨⟩⟩ h
  obtain ⟨-, -, -, -, ⟨h4, -⟩, ⟨h5, -⟩, ⟨h6, -⟩, -⟩ := h
  exact lawRelayWant s0 s1 s2 s3 s4 s5 s6 c0 c1 c2 c3 c4 c5 c6 c7 c8 c9 (len_of (α := I4) 32 (by omega) h4) (len_of (α := I4) 32 (by omega) h5) (len_of (α := I3) 24 (by omega) h6)
end Go.Rv
