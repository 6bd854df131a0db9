/- The plain part of FnExactRelayNew: no program in sight. -/
import Derived.Test.YtcdmhjnofdoobaaGFnExactRelayNew1
set_option linter.unusedVariables false
set_option linter.unusedSimpArgs false
namespace Go.Rv
abbrev I4 := Int × Int × Int × Int × Unit
abbrev I3 := Int × Int × Int × Unit
abbrev g4 (l : List I4) (i : Nat) : I4 := l.getD i (0, 0, 0, 0, ())
abbrev g3 (l : List I3) (i : Nat) : I3 := l.getD i (0, 0, 0, ())
def idP (z : Int) : Prop := 1 ≤ z ∧ z ≤ 1000000
def wantP (z : Int) : Prop := 0 ≤ z ∧ z ≤ 1125899906842624
def weightP (z : Int) : Prop := 1 ≤ z ∧ z ≤ 1073741824
def timeP (z : Int) : Prop := 0 ≤ z ∧ z ≤ 1000000
def hasP (l : List I4) (n : Nat) (u : Int) : Prop := ∃ p, p < n ∧ (g4 l p).1 = u
def grpP (l : List I4) (i : Nat) : Prop := idP (g4 l i).1 ∧ (0 < i → (g4 l (i - 1)).1 < (g4 l i).1) ∧ ((g4 l i).2.1 = 0 ∨ hasP l i (g4 l i).2.1) ∧ wantP (g4 l i).2.2.1 ∧ weightP (g4 l i).2.2.2.1
def memP (l m : List I4) (i : Nat) : Prop := idP (g4 m i).1 ∧ (0 < i → (g4 m (i - 1)).1 < (g4 m i).1) ∧ ((g4 m i).2.1 = 0 ∨ hasP l l.length (g4 m i).2.1) ∧ wantP (g4 m i).2.2.1 ∧ weightP (g4 m i).2.2.2.1
def farmP (c : Int) (l m : List I4) : Prop := wantP c ∧ l.length ≤ 30 ∧ m.length ≤ 60 ∧ (∀ i, i < l.length → grpP l i) ∧ (∀ i, i < m.length → memP l m i)
theorem F_l02Id (n : Int) : F_spec_l02Id (n, ()) = some (bb (idP n), ()) := by
  simp only [F_spec_l02Id, spec_l02Id.T, ← bb_dec]
  by_cases h : n ≥ 1
  · rw [bb_true h]; simp only [cond_true]; congr 2; exact bb_congr (by unfold idP; omega)
  · rw [bb_neg h]; simp only [cond_false]; congr 2; exact (bb_neg (by unfold idP; omega)).symm
theorem F_l02Want (n : Int) : F_spec_l02Want (n, ()) = some (bb (wantP n), ()) := by
  simp only [F_spec_l02Want, spec_l02Want.T, ← bb_dec]
  by_cases h : n ≥ 0
  · rw [bb_true h]; simp only [cond_true]; congr 2; exact bb_congr (by unfold wantP; omega)
  · rw [bb_neg h]; simp only [cond_false]; congr 2; exact (bb_neg (by unfold wantP; omega)).symm
theorem F_l02Weight (n : Int) : F_spec_l02Weight (n, ()) = some (bb (weightP n), ()) := by
  simp only [F_spec_l02Weight, spec_l02Weight.T, ← bb_dec]
  by_cases h : n ≥ 1
  · rw [bb_true h]; simp only [cond_true]; congr 2; exact bb_congr (by unfold weightP; omega)
  · rw [bb_neg h]; simp only [cond_false]; congr 2; exact (bb_neg (by unfold weightP; omega)).symm
theorem F_iin (n a b : Int) : F_impl_in (n, a, b, ()) = some (bb (a ≤ n ∧ n ≤ b), ()) := by
  simp only [F_impl_in, impl_in.T, ← bb_dec]
  by_cases h : a ≤ n
  · rw [bb_true h]; simp only [cond_true]; congr 2; exact bb_congr (by omega)
  · rw [bb_neg h]; simp only [cond_false]; congr 2; exact (bb_neg (by omega)).symm
theorem F_iId (n : Int) : F_impl_isId (n, ()) = some (bb (idP n), ()) := by simp only [F_impl_isId, impl_isId.T, F_iin, Option.bind_some]; rfl
theorem F_iWant (n : Int) : F_impl_isWant (n, ()) = some (bb (wantP n), ()) := by simp only [F_impl_isWant, impl_isWant.T, F_iin, Option.bind_some]; rfl
theorem F_iWeight (n : Int) : F_impl_isWeight (n, ()) = some (bb (weightP n), ()) := by simp only [F_impl_isWeight, impl_isWeight.T, F_iin, Option.bind_some]; rfl
/-- the first place of an id -/
theorem F_l05Group (c : Int) (l m : List I4) (u : Int) (hl : l.length ≤ 1048576) : ∃ p : Int, F_spec_l05Group (c, l, m, u, ()) = some (p, ()) ∧ ((¬ hasP l l.length u ∧ p = -1) ∨ ∃ q : Nat, p = q ∧ q < l.length ∧ (g4 l q).1 = u ∧ ∀ j, j < q → (g4 l j).1 ≠ u) := by
  have key : ∀ (k0 k i : Nat), i ≤ l.length → l.length - i < k → (∀ j, j < i → (g4 l j).1 ≠ u) → ∃ p : Int, spec_l05Group.G0 k0 (fun t => spec_l05Group.A0 c l m u t) (fun _ => spec_l05Group.A1 c l m u ()) k u i c l m = some (p, ()) ∧ ((¬ hasP l l.length u ∧ p = -1) ∨ ∃ q : Nat, p = q ∧ q < l.length ∧ (g4 l q).1 = u ∧ ∀ j, j < q → (g4 l j).1 ≠ u) := by
    intro k0 k
    induction k with
    | zero => intro i _ h; omega
    | succ k ih =>
      intro i hi hk hb
      rw [spec_l05Group.G0, spec_l05Group.R0]
      by_cases h : i < l.length
      · have hw : w64 ((i : Int) + 1) = ((i + 1 : Nat) : Int) := w64_in _ (by omega)
        rw [hw, decide_eq_true (by omega), cond_true, if_pos (by omega)]
        by_cases hu : (rd (0, 0, 0, 0, ()) l (i : Int)).1 = u
        · rw [show ((rd (0, 0, 0, 0, ()) l (i : Int)).1 == u) = true by simpa using hu]
          exact ⟨i, rfl, Or.inr ⟨i, rfl, h, hu, hb⟩⟩
        · rw [show ((rd (0, 0, 0, 0, ()) l (i : Int)).1 == u) = false by simpa using hu]
          refine ih (i + 1) (by omega) (by omega) fun j hj => ?_
          by_cases hji : j = i
          · subst hji; exact hu
          · exact hb j (by omega)
      · rw [decide_eq_false (by omega), cond_false]
        refine ⟨-1, rfl, Or.inl ⟨?_, rfl⟩⟩
        rintro ⟨p, hp, hpu⟩
        exact hb p (by omega) hpu
  exact key _ _ 0 (by omega) (by show _ < 300 + l.length + m.length; omega) (by intro j hj; omega)

theorem specFarm1 (k0 : Nat) (c : Int) (l m : List I4) (hl : l.length ≤ 1048576) (hm : m.length ≤ 1048576) (hx2 : Bool → Option (Bool × Unit)) (hx3 : Unit → Option (Bool × Unit)) (h2 : hx2 false = some (false, ())) (h3 : hx3 () = some (true, ())) (k : Nat) (hk : m.length < k) :
    spec_FarmRight.G1 k0 hx2 hx3 k 0 c l m = some (bb (∀ j, j < m.length → memP l m j), ()) := by
  refine scanB (g := fun k i => spec_FarmRight.G1 k0 hx2 hx3 k (i : Nat) c l m) (fun k i hi _ => ?_) (fun _ k => ?_) k hk
  · obtain ⟨p, hp, hq⟩ := F_l05Group c l m (g4 m i).2.1 hl
    have hw : w64 ((i : Int) + 1) = ((i + 1 : Nat) : Int) := w64_in _ (by omega)
    simp only [spec_FarmRight.G1, spec_FarmRight.R1, rd_cast, hp, F_l02Id, F_l02Want, F_l02Weight, Option.bind_some, hw]
    have hn : p < 0 ↔ ¬ hasP l l.length (g4 m i).2.1 := by
      rcases hq with ⟨h, rfl⟩ | ⟨q, rfl, h1, h2, _⟩
      · exact ⟨fun _ => h, fun _ => by omega⟩
      · exact ⟨fun h => by omega, fun h => absurd ⟨q, h1, h2⟩ h⟩
    have hd : decide (i < (m.length : Int)) = true := decide_eq_true (by omega)
    unfold memP
    by_cases h0 : 0 < i
    · have hw' : w64 ((i : Int) - 1) = ((i - 1 : Nat) : Int) := (w64_in _ (by omega)).trans (by omega)
      rw [hw']
      simp only [rd_cast]
      grind [= bb_iff]
    · have : i = 0 := by omega
      subst this
      grind [= bb_iff]
  · simp only [spec_FarmRight.G1, spec_FarmRight.R1]
    rw [decide_eq_false (by omega), cond_false, h3]

def grpS (l : List I4) (i : Nat) : Prop := idP (g4 l i).1 ∧ (0 < i → (g4 l (i - 1)).1 < (g4 l i).1) ∧ ((g4 l i).2.1 = 0 ∨ (hasP l l.length (g4 l i).2.1 ∧ (g4 l i).2.1 < (g4 l i).1)) ∧ wantP (g4 l i).2.2.1 ∧ weightP (g4 l i).2.2.2.1
theorem specFarm0 (k0 : Nat) (c : Int) (l m : List I4) (Q : Prop) (hl : l.length ≤ 1048576) (hx0 : Bool → Int → List I4 → List I4 → Option (Bool × Unit)) (hx1 : Int → List I4 → List I4 → Option (Bool × Unit)) (h2 : hx0 false c l m = some (false, ())) (h3 : hx1 c l m = some (bb Q, ())) (k : Nat) (hk : l.length < k) :
    spec_FarmRight.G0 k0 hx0 hx1 k 0 c l m = some (bb ((∀ j, j < l.length → grpS l j) ∧ Q), ()) := by
  refine scanC (g := fun k i => spec_FarmRight.G0 k0 hx0 hx1 k (i : Nat) c l m) (fun k i hi _ => ?_) (fun _ k => ?_) k hk
  · obtain ⟨p, hp, hq⟩ := F_l05Group c l m (g4 l i).2.1 hl
    have hw : w64 ((i : Int) + 1) = ((i + 1 : Nat) : Int) := w64_in _ (by omega)
    simp only [spec_FarmRight.G0, spec_FarmRight.R0, rd_cast, hp, F_l02Id, F_l02Want, F_l02Weight, Option.bind_some, hw]
    have hn : p < 0 ↔ ¬ hasP l l.length (g4 l i).2.1 := by
      rcases hq with ⟨h, rfl⟩ | ⟨q, rfl, h1, h2, _⟩
      · exact ⟨fun _ => h, fun _ => by omega⟩
      · exact ⟨fun h => by omega, fun h => absurd ⟨q, h1, h2⟩ h⟩
    have hd : decide (i < (l.length : Int)) = true := decide_eq_true (by omega)
    unfold grpS
    by_cases h0 : 0 < i
    · have hw' : w64 ((i : Int) - 1) = ((i - 1 : Nat) : Int) := (w64_in _ (by omega)).trans (by omega)
      rw [hw']
      simp only [rd_cast]
      grind [= bb_iff]
    · have : i = 0 := by omega
      subst this
      grind [= bb_iff]
  · simp only [spec_FarmRight.G0, spec_FarmRight.R0]
    rw [decide_eq_false (by omega), cond_false, h3]
def risingP (l : List I4) (n : Nat) : Prop := ∀ b, b < n → ∀ a, a < b → (g4 l a).1 < (g4 l b).1
theorem rising_of (l : List I4) (n : Nat) (h : ∀ i, i < n → 0 < i → (g4 l (i - 1)).1 < (g4 l i).1) : risingP l n := by
  intro b
  induction b with
  | zero => intro _ a ha; omega
  | succ b ih =>
    intro hb a ha
    have h1 := h (b + 1) hb (by omega)
    rw [show b + 1 - 1 = b by omega] at h1
    by_cases hab : a = b
    · subst hab; exact h1
    · exact Int.lt_trans (ih (by omega) a (by omega)) h1
theorem grpS_iff (l : List I4) : (∀ i, i < l.length → grpS l i) ↔ (∀ i, i < l.length → grpP l i) := by
  constructor
  · intro h
    have hr := rising_of l l.length fun i hi => (h i hi).2.1
    intro i hi
    obtain ⟨h1, h2, h3, h4, h5⟩ := h i hi
    refine ⟨h1, h2, ?_, h4, h5⟩
    rcases h3 with h3 | ⟨⟨p, hp, hu⟩, h3⟩
    · exact Or.inl h3
    · refine Or.inr ⟨p, ?_, hu⟩
      rcases Nat.lt_trichotomy p i with h | h | h
      · exact h
      · subst h; omega
      · have := hr p hp i h; omega
  · intro h
    have hr := rising_of l l.length fun i hi => (h i hi).2.1
    intro i hi
    obtain ⟨h1, h2, h3, h4, h5⟩ := h i hi
    refine ⟨h1, h2, ?_, h4, h5⟩
    rcases h3 with h3 | ⟨p, hp, hu⟩
    · exact Or.inl h3
    · exact Or.inr ⟨⟨p, by omega, hu⟩, by have := hr i hi p hp; omega⟩
theorem specFarm (c : Int) (l m : List I4) (hl : l.length ≤ 1048576) (hm : m.length ≤ 1048576) : F_spec_FarmRight (c, l, m, ()) = some (bb (farmP c l m), ()) := by
  show spec_FarmRight.FF (300 + l.length + m.length) c l m = _
  simp only [spec_FarmRight.FF, spec_FarmRight.T, F_l02Want, Option.bind_some]
  have e1 := fun k0 => specFarm1 k0 c l m hl hm (fun t => spec_FarmRight.A2 c l m t) (fun _ => spec_FarmRight.A3 c l m ()) rfl rfl
  have e0 := specFarm0 (300 + l.length + m.length) c l m _ hl (fun t f f3 f4 => spec_FarmRight.A0 c l m t f f3 f4)
    (fun f f3 f4 => spec_FarmRight.A1 (fun i f f3 f4 => spec_FarmRight.G1 (300 + l.length + m.length) (fun t => spec_FarmRight.A2 c l m t) (fun _ => spec_FarmRight.A3 c l m ()) (300 + l.length + m.length) i f f3 f4) c l m f f3 f4) rfl
    (e1 _ _ (by omega)) (300 + l.length + m.length) (by omega)
  rw [e0, grpS_iff]
  unfold farmP
  grind [= bb_iff]
/-- comparing ids -/
def cmpZ (a b : Int) : Int := if a < b then -1 else if a > b then 1 else 0
theorem F_cmp (a b : Int) : F_cmp_Compare_int64 (a, b, ()) = some (cmpZ a b, ()) := by
  have h : ∀ x : Int, F_cmp_isNaN_int64 (x, ()) = some (false, ()) := fun x => by simp [F_cmp_isNaN_int64, cmp_isNaN_int64.T]
  simp only [F_cmp_Compare_int64, cmp_Compare_int64.T, h, Option.bind_some, cond_false]
  unfold cmpZ
  grind [= bb_iff]
theorem cmpZ_lt (a b : Int) : cmpZ a b < 0 ↔ a < b := by unfold cmpZ; split; omega; split <;> omega
theorem cmpZ_eq (a b : Int) : cmpZ a b = 0 ↔ a = b := by unfold cmpZ; split; omega; split <;> omega
theorem half_in (i j : Nat) (h : i + j ≤ 4194304) : w64 (Int.fdiv (IntKind.u64.wrap (w64 ((i : Int) + (j : Int)))) (2 ^ 1)) = (((i + j) / 2 : Nat) : Int) := by
  rw [w64_in ((i : Int) + j) (by omega), u64_in _ (by omega)]
  rw [show Int.fdiv ((i : Int) + (j : Int)) (2 ^ 1) = (((i + j) / 2 : Nat) : Int) by
    rw [Int.fdiv_eq_ediv_of_nonneg _ (by decide)]; omega]
  exact w64_in _ (by omega)
/-- a search by halves among rising ids -/
theorem bsearch (l : List I4) (u : Int) (hl : l.length ≤ 1048576) (hr : risingP l l.length) :
    ∃ p : Nat, F_slices_BinarySearchFunc_impl_Group_impl_Group_int64_at_impl_Farm_group_1 (l, u, ()) = some ((p : Int), bb (hasP l l.length u), ()) ∧ p ≤ l.length ∧ (∀ q, q < p → (g4 l q).1 < u) ∧ (∀ q, p ≤ q → q < l.length → u ≤ (g4 l q).1) ∧ (hasP l l.length u → p < l.length ∧ (g4 l p).1 = u) := by
  have key : ∀ (k0 k i j : Nat), i ≤ j → j ≤ l.length → j - i < k → (∀ q, q < i → (g4 l q).1 < u) → (∀ q, j ≤ q → q < l.length → u ≤ (g4 l q).1) →
      ∃ p : Nat, slices_BinarySearchFunc_impl_Group_impl_Group_int64_at_impl_Farm_group_1.G0 k0 (fun x2 t n i => slices_BinarySearchFunc_impl_Group_impl_Group_int64_at_impl_Farm_group_1.A0 l u x2 t n i) k l u (l.length : Int) i j = some ((p : Int), bb (hasP l l.length u), ()) ∧ p ≤ l.length ∧ (∀ q, q < p → (g4 l q).1 < u) ∧ (∀ q, p ≤ q → q < l.length → u ≤ (g4 l q).1) := by
    intro k0 k
    induction k with
    | zero => intro i j _ _ h; omega
    | succ k ih =>
      intro i j hij hj hk hlo hhi
      simp only [slices_BinarySearchFunc_impl_Group_impl_Group_int64_at_impl_Farm_group_1.G0, slices_BinarySearchFunc_impl_Group_impl_Group_int64_at_impl_Farm_group_1.R0, half_in i j (by omega), F_impl_Farm_group_1, impl_Farm_group_1.T, F_cmp, Option.bind_some, rd_cast]
      by_cases h : i < j
      · have hw : w64 ((((i + j) / 2 : Nat) : Int) + 1) = (((i + j) / 2 + 1 : Nat) : Int) := w64_in _ (by omega)
        rw [hw, decide_eq_true (by omega), cond_true, if_pos (by omega)]
        by_cases hc : (g4 l ((i + j) / 2)).1 < u
        · rw [decide_eq_true ((cmpZ_lt _ _).2 hc), cond_true]
          refine ih _ _ (by omega) hj (by omega) (fun q hq => ?_) hhi
          by_cases h2 : q = (i + j) / 2
          · subst h2; exact hc
          · exact Int.lt_trans (hr _ (by omega) q (by omega)) hc
        · rw [decide_eq_false (fun h => hc ((cmpZ_lt _ _).1 h)), cond_false]
          refine ih _ _ (by omega) (by omega) (by omega) hlo (fun q h1 h2 => ?_)
          by_cases h3 : q = (i + j) / 2
          · subst h3; omega
          · have := hr q h2 ((i + j) / 2) (by omega); omega
      · have : i = j := by omega
        subst this
        rw [decide_eq_false (by omega), cond_false]
        simp only [slices_BinarySearchFunc_impl_Group_impl_Group_int64_at_impl_Farm_group_1.A0, F_impl_Farm_group_1, impl_Farm_group_1.T, F_cmp, Option.bind_some, rd_cast]
        refine ⟨i, ?_, hj, hlo, hhi⟩
        by_cases h4 : i < l.length
        · rw [decide_eq_true (by omega), cond_true, if_pos (by omega)]
          congr 3
          by_cases h5 : (g4 l i).1 = u
          · rw [bb_true ⟨i, h4, h5⟩]
            exact beq_iff_eq.2 ((cmpZ_eq _ _).2 h5)
          · rw [bb_neg]
            · exact beq_eq_false_iff_ne.2 fun h => h5 ((cmpZ_eq _ _).1 h)
            · rintro ⟨p, hp, hpu⟩
              by_cases h6 : p < i
              · have := hlo p h6; omega
              · have := hhi i (by omega) h4
                by_cases h7 : p = i
                · subst h7; exact h5 hpu
                · have := hr p hp i (by omega); omega
        · rw [decide_eq_false (by omega), cond_false]
          congr 3
          rw [bb_neg]
          rintro ⟨p, hp, hpu⟩
          have := hlo p (by omega); omega
  obtain ⟨p, h1, h2, h3, h4⟩ := key (300 + l.length) (300 + l.length) 0 l.length (by omega) (by omega) (by omega) (by intro q hq; omega) (by intro q h1 h2; omega)
  refine ⟨p, h1, h2, h3, h4, ?_⟩
  rintro ⟨q, hq, hqu⟩
  by_cases h5 : q < p
  · have := h3 q h5; omega
  · have h6 := h4 p (by omega) (by omega)
    refine ⟨by omega, ?_⟩
    by_cases h7 : p = q
    · subst h7; exact hqu
    · have := hr q hq p (by omega); omega
theorem F_iGroup (c : Int) (l m : List I4) (u : Int) (hl : l.length ≤ 1048576) (hr : risingP l l.length) :
    ∃ p : Nat, F_impl_Farm_group (c, l, m, u, ()) = some ((p : Int), bb (hasP l l.length u), ()) ∧ p ≤ l.length ∧ (hasP l l.length u → p < l.length ∧ (g4 l p).1 = u) := by
  obtain ⟨p, h1, h2, h3, h4, h5⟩ := bsearch l u hl hr
  exact ⟨p, by simp only [F_impl_Farm_group, impl_Farm_group.T, h1, Option.bind_some], h2, h5⟩
theorem F_iHas (c : Int) (l m : List I4) (u : Int) (hl : l.length ≤ 1048576) (hr : risingP l l.length) : F_impl_Farm_hasGroup (c, l, m, u, ()) = some (bb (u = 0 ∨ hasP l l.length u), ()) := by
  obtain ⟨p, h1, h2, h3⟩ := F_iGroup c l m u hl hr
  simp only [F_impl_Farm_hasGroup, impl_Farm_hasGroup.T, h1, Option.bind_some]
  grind [= bb_iff]

theorem rising_take (l : List I4) (i : Nat) (h : ∀ j, j < i → grpP l j) (hi : i ≤ l.length) : risingP (l.take i) (l.take i).length := by
  have hr := rising_of l i fun j hj => (h j hj).2.1
  intro b hb a ha
  rw [List.length_take] at hb
  have := hr b (by omega) a ha
  simp only [g4, List.getD_eq_getElem?_getD, List.getElem?_take] at this ⊢
  rw [if_pos (by omega), if_pos (by omega)]
  exact this
theorem has_take (l : List I4) (i : Nat) (u : Int) (hi : i ≤ l.length) : hasP (l.take i) (l.take i).length u ↔ hasP l i u := by
  have e : ∀ p, p < i → g4 (l.take i) p = g4 l p := fun p hp => by
    simp only [g4, List.getD_eq_getElem?_getD, List.getElem?_take]
    rw [if_pos hp]
  rw [List.length_take, Nat.min_eq_left hi]
  exact ⟨fun ⟨p, hp, h⟩ => ⟨p, hp, by rw [← e p hp]; exact h⟩, fun ⟨p, hp, h⟩ => ⟨p, hp, by rw [e p hp]; exact h⟩⟩
theorem implFarm0 (k0 : Nat) (c : Int) (l m : List I4) (Q : Prop) (hl : l.length ≤ 1048576) (hx0 : Bool → Int → List I4 → List I4 → Option (Bool × Unit)) (hx1 : Int → List I4 → List I4 → Option (Bool × Unit)) (h2 : hx0 false c l m = some (false, ())) (h3 : (∀ j, j < l.length → grpP l j) → hx1 c l m = some (bb Q, ())) (k : Nat) (hk : l.length < k) :
    impl_FarmRight.G0 k0 hx0 hx1 k l l.length 0 c l m = some (bb ((∀ j, j < l.length → grpP l j) ∧ Q), ()) := by
  refine scanC (g := fun k i => impl_FarmRight.G0 k0 hx0 hx1 k l l.length (i : Nat) c l m) (fun k i hi hb => ?_) (fun hb k => ?_) k hk
  · have hh := F_iHas 0 (l.take i) [] (g4 l i).2.1 (by rw [List.length_take]; omega) (rising_take l i hb (by omega))
    rw [bb_congr (show ((g4 l i).2.1 = 0 ∨ hasP (l.take i) (l.take i).length (g4 l i).2.1) ↔ ((g4 l i).2.1 = 0 ∨ hasP l i (g4 l i).2.1) by rw [has_take l i _ (by omega)])] at hh
    have hw : w64 ((i : Int) + 1) = ((i + 1 : Nat) : Int) := w64_in _ (by omega)
    simp only [impl_FarmRight.G0, impl_FarmRight.R0, rd_cast, Int.toNat_natCast, hh, F_iId, F_iWant, F_iWeight, Option.bind_some, hw]
    have hd : decide (i < (l.length : Int)) = true := decide_eq_true (by omega)
    unfold grpP
    by_cases h0 : 0 < i
    · have hw' : w64 ((i : Int) - 1) = ((i - 1 : Nat) : Int) := (w64_in _ (by omega)).trans (by omega)
      rw [hw']
      simp only [rd_cast]
      grind [= bb_iff]
    · have : i = 0 := by omega
      subst this
      grind [= bb_iff]
  · simp only [impl_FarmRight.G0, impl_FarmRight.R0]
    rw [decide_eq_false (by omega), cond_false, h3 hb]
theorem implFarm1 (k0 : Nat) (c : Int) (l m : List I4) (hl : l.length ≤ 1048576) (hm : m.length ≤ 1048576) (hr : risingP l l.length) (hx2 : Bool → Option (Bool × Unit)) (hx3 : Unit → Option (Bool × Unit)) (h2 : hx2 false = some (false, ())) (h3 : hx3 () = some (true, ())) (k : Nat) (hk : m.length < k) :
    impl_FarmRight.G1 k0 hx2 hx3 k m m.length 0 c l m = some (bb (∀ j, j < m.length → memP l m j), ()) := by
  refine scanB (g := fun k i => impl_FarmRight.G1 k0 hx2 hx3 k m m.length (i : Nat) c l m) (fun k i hi _ => ?_) (fun _ k => ?_) k hk
  · have hh := F_iHas c l m (g4 m i).2.1 hl hr
    have hw : w64 ((i : Int) + 1) = ((i + 1 : Nat) : Int) := w64_in _ (by omega)
    simp only [impl_FarmRight.G1, impl_FarmRight.R1, rd_cast, hh, F_iId, F_iWant, F_iWeight, Option.bind_some, hw]
    have hd : decide (i < (m.length : Int)) = true := decide_eq_true (by omega)
    unfold memP
    by_cases h0 : 0 < i
    · have hw' : w64 ((i : Int) - 1) = ((i - 1 : Nat) : Int) := (w64_in _ (by omega)).trans (by omega)
      rw [hw']
      simp only [rd_cast]
      grind [= bb_iff]
    · have : i = 0 := by omega
      subst this
      grind [= bb_iff]
  · simp only [impl_FarmRight.G1, impl_FarmRight.R1]
    rw [decide_eq_false (by omega), cond_false, h3]
theorem implFarm (c : Int) (l m : List I4) (hl : l.length ≤ 1048576) (hm : m.length ≤ 1048576) : F_impl_FarmRight (c, l, m, ()) = some (bb (farmP c l m), ()) := by
  show impl_FarmRight.FF (300 + l.length + m.length) c l m = _
  simp only [impl_FarmRight.FF, impl_FarmRight.T, F_iWant, Option.bind_some]
  have e0 := implFarm0 (300 + l.length + m.length) c l m _ hl (fun t f f3 f4 => impl_FarmRight.A0 c l m t f f3 f4)
    (fun f f3 f4 => impl_FarmRight.A1 (fun t t' i f f3 f4 => impl_FarmRight.G1 (300 + l.length + m.length) (fun t => impl_FarmRight.A2 c l m t) (fun _ => impl_FarmRight.A3 c l m ()) (300 + l.length + m.length) t t' i f f3 f4) c l m f f3 f4) rfl
    (fun hb => implFarm1 _ c l m hl hm (rising_of l _ fun i hi => (hb i hi).2.1) (fun t => impl_FarmRight.A2 c l m t) (fun _ => impl_FarmRight.A3 c l m ()) rfl rfl _ (by omega)) (300 + l.length + m.length) (by omega)
  rw [e0]
  unfold farmP
  grind [= bb_iff]
theorem F_l10Length (n : Int) : F_spec_l10Length (n, ()) = some (bb (1 ≤ n ∧ n ≤ 1000), ()) := by simp only [F_spec_l10Length, spec_l10Length.T]; grind [= bb_iff]
theorem F_l07Time (n : Int) : F_spec_l07Time (n, ()) = some (bb (timeP n), ()) := by simp only [F_spec_l07Time, spec_l07Time.T, timeP]; grind [= bb_iff]
theorem F_iTime (n : Int) : F_impl_isTime (n, ()) = some (bb (timeP n), ()) := by simp only [F_impl_isTime, impl_isTime.T, F_iin, Option.bind_some, timeP]
def leaseP (x : I3) : Prop := idP x.1 ∧ wantP x.2.1 ∧ timeP x.2.2.1
theorem F_l07Lease (a b c : Int) : F_spec_l07Lease (a, b, c, ()) = some (bb (leaseP (a, b, c, ())), ()) := by
  simp only [F_spec_l07Lease, spec_l07Lease.T, F_l02Id, F_l02Want, F_l07Time, Option.bind_some, leaseP]; grind [= bb_iff]
theorem F_iLease (a b c : Int) : F_impl_Lease_isRight (a, b, c, ()) = some (bb (leaseP (a, b, c, ())), ()) := by
  simp only [F_impl_Lease_isRight, impl_Lease_isRight.T, F_iId, F_iWant, F_iTime, Option.bind_some, leaseP]; grind [= bb_iff]
def lsP (l : List I3) (i : Nat) : Prop := leaseP (g3 l i) ∧ (0 < i → (g3 l (i - 1)).1 < (g3 l i).1)
def leasesP (l : List I3) : Prop := l.length ≤ 60 ∧ ∀ i, i < l.length → lsP l i
theorem specLeases (l : List I3) (hl : l.length ≤ 1048576) : F_spec_LeasesRight (l, ()) = some (bb (leasesP l), ()) := by
  show spec_LeasesRight.FF (300 + l.length) l = _
  simp only [spec_LeasesRight.FF, spec_LeasesRight.T]
  have e : ∀ k0, spec_LeasesRight.G0 k0 (fun t => spec_LeasesRight.A0 l t) (fun _ => spec_LeasesRight.A1 l ()) (300 + l.length) l 0 = some (bb (∀ j, j < l.length → lsP l j), ()) := by
    intro k0
    refine scanB (g := fun k i => spec_LeasesRight.G0 k0 (fun t => spec_LeasesRight.A0 l t) (fun _ => spec_LeasesRight.A1 l ()) k l (i : Nat)) (fun k i hi _ => ?_) (fun _ k => ?_) _ (by omega)
    · have hw : w64 ((i : Int) + 1) = ((i + 1 : Nat) : Int) := w64_in _ (by omega)
      simp only [spec_LeasesRight.G0, spec_LeasesRight.R0, spec_LeasesRight.A0, rd_cast, F_l07Lease, Option.bind_some, hw]
      have hd : decide (i < (l.length : Int)) = true := decide_eq_true (by omega)
      unfold lsP
      by_cases h0 : 0 < i
      · have hw' : w64 ((i : Int) - 1) = ((i - 1 : Nat) : Int) := (w64_in _ (by omega)).trans (by omega)
        rw [hw']
        simp only [rd_cast]
        grind [= bb_iff]
      · have : i = 0 := by omega
        subst this
        grind [= bb_iff]
    · simp only [spec_LeasesRight.G0, spec_LeasesRight.R0]
      rw [decide_eq_false (by omega), cond_false]; rfl
  rw [e]
  unfold leasesP
  grind [= bb_iff]
theorem implLeases (l : List I3) (hl : l.length ≤ 1048576) : F_impl_LeasesRight (l, ()) = some (bb (leasesP l), ()) := by
  show impl_LeasesRight.FF (300 + l.length) l = _
  simp only [impl_LeasesRight.FF, impl_LeasesRight.T]
  have e : ∀ k0, impl_LeasesRight.G0 k0 (fun l2 t => impl_LeasesRight.A0 l l2 t) (fun l2 => impl_LeasesRight.A1 l l2) (300 + l.length) l l l.length 0 = some (bb ((∀ j, j < l.length → lsP l j) ∧ l.length ≤ 60), ()) := by
    intro k0
    refine scanC (g := fun k i => impl_LeasesRight.G0 k0 (fun l2 t => impl_LeasesRight.A0 l l2 t) (fun l2 => impl_LeasesRight.A1 l l2) k l l l.length (i : Nat)) (fun k i hi _ => ?_) (fun _ k => ?_) _ (by omega)
    · have hw : w64 ((i : Int) + 1) = ((i + 1 : Nat) : Int) := w64_in _ (by omega)
      simp only [impl_LeasesRight.G0, impl_LeasesRight.R0, impl_LeasesRight.A0, rd_cast, F_iLease, Option.bind_some, hw]
      have hd : decide (i < (l.length : Int)) = true := decide_eq_true (by omega)
      unfold lsP
      by_cases h0 : 0 < i
      · have hw' : w64 ((i : Int) - 1) = ((i - 1 : Nat) : Int) := (w64_in _ (by omega)).trans (by omega)
        rw [hw']
        simp only [rd_cast]
        grind [= bb_iff]
      · have : i = 0 := by omega
        subst this
        grind [= bb_iff]
    · simp only [impl_LeasesRight.G0, impl_LeasesRight.R0, impl_LeasesRight.A1]
      grind [= bb_iff]
  rw [e]
  unfold leasesP
  congr 2
  exact bb_congr And.comm
def slP (s0 s2 : Int) (m : List I4) (l : List I3) (i : Nat) : Prop := (g3 l i).1 = (g4 m i).1 ∧ s2 < (g3 l i).2.2.1 ∧ (g3 l i).2.2.1 ≤ s2 + s0
def serverP (s0 s1 s2 s3 : Int) (s4 s5 : List I4) (s6 : List I3) : Prop :=
  (1 ≤ s0 ∧ s0 ≤ 1000) ∧ 0 ≤ s1 ∧ s1 ≤ s2 ∧ s2 ≤ 999000 ∧ farmP s3 s4 s5 ∧ leasesP s6 ∧ s6.length = s5.length ∧ ∀ i, i < s6.length → slP s0 s2 s5 s6 i
theorem specServer (s0 s1 s2 s3 : Int) (s4 s5 : List I4) (s6 : List I3) (h4 : s4.length ≤ 1048576) (h5 : s5.length ≤ 1048576) (h6 : s6.length ≤ 1048576) : F_spec_ServerRight (s0, s1, s2, s3, s4, s5, s6, ()) = some (bb (serverP s0 s1 s2 s3 s4 s5 s6), ()) := by
  show spec_ServerRight.FF (300 + s4.length + s5.length + s6.length) s0 s1 s2 s3 s4 s5 s6 = _
  simp only [spec_ServerRight.FF, spec_ServerRight.T, F_l10Length, specFarm s3 s4 s5 h4 h5, specLeases s6 h6, Option.bind_some]
  by_cases h : 1 ≤ s0 ∧ s0 ≤ 1000 ∧ 0 ≤ s2 ∧ s2 ≤ 999000 ∧ s6.length = s5.length
  · have e : ∀ k0, spec_ServerRight.G0 k0 (fun t => spec_ServerRight.A0 s0 s1 s2 s3 s4 s5 s6 t) (fun _ => spec_ServerRight.A1 s0 s1 s2 s3 s4 s5 s6 ()) (300 + s4.length + s5.length + s6.length) 0 s0 s1 s2 s3 s4 s5 s6 = some (bb (∀ j, j < s6.length → slP s0 s2 s5 s6 j), ()) := by
      intro k0
      refine scanB (g := fun k i => spec_ServerRight.G0 k0 (fun t => spec_ServerRight.A0 s0 s1 s2 s3 s4 s5 s6 t) (fun _ => spec_ServerRight.A1 s0 s1 s2 s3 s4 s5 s6 ()) k (i : Nat) s0 s1 s2 s3 s4 s5 s6) (fun k i hi _ => ?_) (fun _ k => ?_) _ (by omega)
      · have hw : w64 ((i : Int) + 1) = ((i + 1 : Nat) : Int) := w64_in _ (by omega)
        have hw2 : w64 (s2 + s0) = s2 + s0 := w64_in _ (by omega)
        simp only [spec_ServerRight.G0, spec_ServerRight.R0, spec_ServerRight.A0, rd_cast, hw, hw2]
        have hd : decide (i < (s6.length : Int)) = true := decide_eq_true (by omega)
        unfold slP
        grind [= bb_iff]
      · simp only [spec_ServerRight.G0, spec_ServerRight.R0]
        rw [decide_eq_false (by omega), cond_false]; rfl
    rw [e]
    unfold serverP
    grind [= bb_iff]
  · unfold serverP
    grind [= bb_iff]
theorem implServer (s0 s1 s2 s3 : Int) (s4 s5 : List I4) (s6 : List I3) (h4 : s4.length ≤ 1048576) (h5 : s5.length ≤ 1048576) (h6 : s6.length ≤ 1048576) : F_impl_ServerRight (s0, s1, s2, s3, s4, s5, s6, ()) = some (bb (serverP s0 s1 s2 s3 s4 s5 s6), ()) := by
  show impl_ServerRight.FF (300 + s4.length + s5.length + s6.length) s0 s1 s2 s3 s4 s5 s6 = _
  simp only [impl_ServerRight.FF, impl_ServerRight.T, F_iin, implFarm s3 s4 s5 h4 h5, implLeases s6 h6, Option.bind_some]
  by_cases h : 1 ≤ s0 ∧ s0 ≤ 1000 ∧ 0 ≤ s2 ∧ s2 ≤ 999000 ∧ s6.length = s5.length
  · have e : ∀ k0, impl_ServerRight.G0 k0 (fun t => impl_ServerRight.A0 s0 s1 s2 s3 s4 s5 s6 t) (fun _ => impl_ServerRight.A1 s0 s1 s2 s3 s4 s5 s6 ()) (300 + s4.length + s5.length + s6.length) s6 s6.length 0 s0 s1 s2 s3 s4 s5 s6 = some (bb (∀ j, j < s6.length → slP s0 s2 s5 s6 j), ()) := by
      intro k0
      refine scanB (g := fun k i => impl_ServerRight.G0 k0 (fun t => impl_ServerRight.A0 s0 s1 s2 s3 s4 s5 s6 t) (fun _ => impl_ServerRight.A1 s0 s1 s2 s3 s4 s5 s6 ()) k s6 s6.length (i : Nat) s0 s1 s2 s3 s4 s5 s6) (fun k i hi _ => ?_) (fun _ k => ?_) _ (by omega)
      · have hw : w64 ((i : Int) + 1) = ((i + 1 : Nat) : Int) := w64_in _ (by omega)
        have hw2 : w64 (s2 + s0) = s2 + s0 := w64_in _ (by omega)
        have hw3 : w64 (s2 + 1) = s2 + 1 := w64_in _ (by omega)
        simp only [impl_ServerRight.G0, impl_ServerRight.R0, impl_ServerRight.A0, rd_cast, hw, hw2, hw3, F_iin, Option.bind_some]
        have hd : decide (i < (s6.length : Int)) = true := decide_eq_true (by omega)
        unfold slP
        grind [= bb_iff]
      · simp only [impl_ServerRight.G0, impl_ServerRight.R0]
        rw [decide_eq_false (by omega), cond_false]; rfl
    rw [e]
    unfold serverP
    grind [= bb_iff]
  · unfold serverP
    grind [= bb_iff]
def mkGroupS (k : Int) (i : Nat) : Int × Int × Int × Int × Unit := ((k + 4 * (i : Int)), (k + 4 * (i : Int) + 1), (k + 4 * (i : Int) + 2), (k + 4 * (i : Int) + 3), ())
theorem mhGroupS (l : List (Int × Int × Int × Int × Unit)) (k : Int) (h0 : 0 ≤ k) (h1 : k ≤ 72057594037927936) (hl : l.length ≤ 1048576) : ∃ y : List (Int × Int × Int × Int × Unit), F_laws_markGroupS (l, k, ()) = some (k + 4 * (l.length : Int), y, ()) ∧ F_laws_heldGroupS (y, k, ()) = some (k + 4 * (l.length : Int), ()) := by
  refine ⟨List.ofFn fun i : Fin l.length => mkGroupS k i, ?_, ?_⟩
  · show laws_markGroupS.FF (300 + l.length) l k = _
    simp only [laws_markGroupS.FF, laws_markGroupS.T]
    refine Eq.trans (congrArg (fun z => laws_markGroupS.G0 (300 + l.length) (fun kx o => laws_markGroupS.A0 l k kx o) (300 + l.length) z 0 l) (show k = k + 4 * ((0 : Nat) : Int) by omega))
      (copies (n := l.length) (mkGroupS k) (fun q i out => laws_markGroupS.G0 (300 + l.length) (fun kx o => laws_markGroupS.A0 l k kx o) q (k + 4 * ((i : Nat) : Int)) (i : Nat) out) (some (k + 4 * (l.length : Int), List.ofFn fun i : Fin l.length => mkGroupS k i, ())) (fun q i out hi ho => ?_) (fun q => ?_) (300 + l.length) 0 l (by omega) (by omega) rfl (by intro j h hj; omega))
    · have hw : w64 ((i : Int) + 1) = ((i + 1 : Nat) : Int) := w64_in _ (by omega)
      have v1 : w64 (k + 4 * (i : Int) + 1) = k + 4 * (i : Int) + 1 := (w64_in _ (by omega)).trans (by omega)
      have v2 : w64 (k + 4 * (i : Int) + 1 + 1) = k + 4 * (i : Int) + 2 := (w64_in _ (by omega)).trans (by omega)
      have v3 : w64 (k + 4 * (i : Int) + 2 + 1) = k + 4 * (i : Int) + 3 := (w64_in _ (by omega)).trans (by omega)
      have v4 : w64 (k + 4 * (i : Int) + 3 + 1) = k + 4 * (i : Int) + 4 := (w64_in _ (by omega)).trans (by omega)
      have hnx : k + 4 * ((i + 1 : Nat) : Int) = k + 4 * (i : Int) + 4 := by omega
      simp only [laws_markGroupS.G0, laws_markGroupS.R0, hw, v1, v2, v3, v4, hnx, List.length_set, Int.toNat_natCast, List.set_set, ho]
      rw [decide_eq_true (by omega), cond_true]
      simp only [if_pos (show 0 ≤ (i : Int) ∧ (i : Int) < (l.length : Int) by omega), getD_set_self _ _ _ _ (show i < out.length by omega)]
      rfl
    · simp only [laws_markGroupS.G0, laws_markGroupS.R0]
      rw [decide_eq_false (by simp), cond_false]
      rfl
  · show laws_heldGroupS.FF (300 + (List.ofFn fun i : Fin l.length => mkGroupS k i).length) _ k = _
    simp only [laws_heldGroupS.FF, laws_heldGroupS.T, List.length_ofFn]
    generalize hy : (List.ofFn fun i : Fin l.length => mkGroupS k i) = y
    have hyl : y.length = l.length := by rw [← hy, List.length_ofFn]
    have hyg : ∀ i : Nat, i < l.length → y.getD i (0, 0, 0, 0, ()) = ((k + 4 * (i : Int)), (k + 4 * (i : Int) + 1), (k + 4 * (i : Int) + 2), (k + 4 * (i : Int) + 3), ()) := fun i hi => by rw [← hy]; exact ofFn_at (mkGroupS k) _ _ hi
    refine Eq.trans (congrArg (fun z => laws_heldGroupS.G0 (300 + l.length) (fun kx t => laws_heldGroupS.A0 y k kx t) (fun kx => laws_heldGroupS.A1 y k kx) (300 + l.length) y z 0) (show k = k + 4 * ((0 : Nat) : Int) by omega))
      ((scan (α := Option (Int × Unit)) l.length (fun _ => True) (fun q i => laws_heldGroupS.G0 (300 + l.length) (fun kx t => laws_heldGroupS.A0 y k kx t) (fun kx => laws_heldGroupS.A1 y k kx) q y (k + 4 * ((i : Nat) : Int)) (i : Nat)) (some (k + 4 * (l.length : Int), ())) none (fun q i hi _ => ⟨fun _ => ?_, fun h => absurd trivial h⟩) (fun _ q => ?_) (300 + l.length) 0 (by omega) (by omega) (fun _ _ => trivial)).1 (fun _ _ => trivial))
    · have hw : w64 ((i : Int) + 1) = ((i + 1 : Nat) : Int) := w64_in _ (by omega)
      have v1 : w64 (k + 4 * (i : Int) + 1) = k + 4 * (i : Int) + 1 := (w64_in _ (by omega)).trans (by omega)
      have v2 : w64 (k + 4 * (i : Int) + 1 + 1) = k + 4 * (i : Int) + 2 := (w64_in _ (by omega)).trans (by omega)
      have v3 : w64 (k + 4 * (i : Int) + 2 + 1) = k + 4 * (i : Int) + 3 := (w64_in _ (by omega)).trans (by omega)
      have v4 : w64 (k + 4 * (i : Int) + 3 + 1) = k + 4 * (i : Int) + 4 := (w64_in _ (by omega)).trans (by omega)
      have hnx : k + 4 * ((i + 1 : Nat) : Int) = k + 4 * (i : Int) + 4 := by omega
      simp only [laws_heldGroupS.G0, laws_heldGroupS.R0, rd_cast, hyg i hi, hw, v1, v2, v3, v4, hnx, hyl, bne_self_eq_false, cond_false]
      rw [decide_eq_true (by omega), cond_true]
      simp only [if_pos (show 0 ≤ (i : Int) ∧ (i : Int) < (l.length : Int) by omega)]
    · simp only [laws_heldGroupS.G0, laws_heldGroupS.R0, hyl]
      rw [decide_eq_false (by omega), cond_false]
      rfl
def mkMemberS (k : Int) (i : Nat) : Int × Int × Int × Int × Unit := ((k + 4 * (i : Int)), (k + 4 * (i : Int) + 1), (k + 4 * (i : Int) + 2), (k + 4 * (i : Int) + 3), ())
theorem mhMemberS (l : List (Int × Int × Int × Int × Unit)) (k : Int) (h0 : 0 ≤ k) (h1 : k ≤ 72057594037927936) (hl : l.length ≤ 1048576) : ∃ y : List (Int × Int × Int × Int × Unit), F_laws_markMemberS (l, k, ()) = some (k + 4 * (l.length : Int), y, ()) ∧ F_laws_heldMemberS (y, k, ()) = some (k + 4 * (l.length : Int), ()) := by
  refine ⟨List.ofFn fun i : Fin l.length => mkMemberS k i, ?_, ?_⟩
  · show laws_markMemberS.FF (300 + l.length) l k = _
    simp only [laws_markMemberS.FF, laws_markMemberS.T]
    refine Eq.trans (congrArg (fun z => laws_markMemberS.G0 (300 + l.length) (fun kx o => laws_markMemberS.A0 l k kx o) (300 + l.length) z 0 l) (show k = k + 4 * ((0 : Nat) : Int) by omega))
      (copies (n := l.length) (mkMemberS k) (fun q i out => laws_markMemberS.G0 (300 + l.length) (fun kx o => laws_markMemberS.A0 l k kx o) q (k + 4 * ((i : Nat) : Int)) (i : Nat) out) (some (k + 4 * (l.length : Int), List.ofFn fun i : Fin l.length => mkMemberS k i, ())) (fun q i out hi ho => ?_) (fun q => ?_) (300 + l.length) 0 l (by omega) (by omega) rfl (by intro j h hj; omega))
    · have hw : w64 ((i : Int) + 1) = ((i + 1 : Nat) : Int) := w64_in _ (by omega)
      have v1 : w64 (k + 4 * (i : Int) + 1) = k + 4 * (i : Int) + 1 := (w64_in _ (by omega)).trans (by omega)
      have v2 : w64 (k + 4 * (i : Int) + 1 + 1) = k + 4 * (i : Int) + 2 := (w64_in _ (by omega)).trans (by omega)
      have v3 : w64 (k + 4 * (i : Int) + 2 + 1) = k + 4 * (i : Int) + 3 := (w64_in _ (by omega)).trans (by omega)
      have v4 : w64 (k + 4 * (i : Int) + 3 + 1) = k + 4 * (i : Int) + 4 := (w64_in _ (by omega)).trans (by omega)
      have hnx : k + 4 * ((i + 1 : Nat) : Int) = k + 4 * (i : Int) + 4 := by omega
      simp only [laws_markMemberS.G0, laws_markMemberS.R0, hw, v1, v2, v3, v4, hnx, List.length_set, Int.toNat_natCast, List.set_set, ho]
      rw [decide_eq_true (by omega), cond_true]
      simp only [if_pos (show 0 ≤ (i : Int) ∧ (i : Int) < (l.length : Int) by omega), getD_set_self _ _ _ _ (show i < out.length by omega)]
      rfl
    · simp only [laws_markMemberS.G0, laws_markMemberS.R0]
      rw [decide_eq_false (by simp), cond_false]
      rfl
  · show laws_heldMemberS.FF (300 + (List.ofFn fun i : Fin l.length => mkMemberS k i).length) _ k = _
    simp only [laws_heldMemberS.FF, laws_heldMemberS.T, List.length_ofFn]
    generalize hy : (List.ofFn fun i : Fin l.length => mkMemberS k i) = y
    have hyl : y.length = l.length := by rw [← hy, List.length_ofFn]
    have hyg : ∀ i : Nat, i < l.length → y.getD i (0, 0, 0, 0, ()) = ((k + 4 * (i : Int)), (k + 4 * (i : Int) + 1), (k + 4 * (i : Int) + 2), (k + 4 * (i : Int) + 3), ()) := fun i hi => by rw [← hy]; exact ofFn_at (mkMemberS k) _ _ hi
    refine Eq.trans (congrArg (fun z => laws_heldMemberS.G0 (300 + l.length) (fun kx t => laws_heldMemberS.A0 y k kx t) (fun kx => laws_heldMemberS.A1 y k kx) (300 + l.length) y z 0) (show k = k + 4 * ((0 : Nat) : Int) by omega))
      ((scan (α := Option (Int × Unit)) l.length (fun _ => True) (fun q i => laws_heldMemberS.G0 (300 + l.length) (fun kx t => laws_heldMemberS.A0 y k kx t) (fun kx => laws_heldMemberS.A1 y k kx) q y (k + 4 * ((i : Nat) : Int)) (i : Nat)) (some (k + 4 * (l.length : Int), ())) none (fun q i hi _ => ⟨fun _ => ?_, fun h => absurd trivial h⟩) (fun _ q => ?_) (300 + l.length) 0 (by omega) (by omega) (fun _ _ => trivial)).1 (fun _ _ => trivial))
    · have hw : w64 ((i : Int) + 1) = ((i + 1 : Nat) : Int) := w64_in _ (by omega)
      have v1 : w64 (k + 4 * (i : Int) + 1) = k + 4 * (i : Int) + 1 := (w64_in _ (by omega)).trans (by omega)
      have v2 : w64 (k + 4 * (i : Int) + 1 + 1) = k + 4 * (i : Int) + 2 := (w64_in _ (by omega)).trans (by omega)
      have v3 : w64 (k + 4 * (i : Int) + 2 + 1) = k + 4 * (i : Int) + 3 := (w64_in _ (by omega)).trans (by omega)
      have v4 : w64 (k + 4 * (i : Int) + 3 + 1) = k + 4 * (i : Int) + 4 := (w64_in _ (by omega)).trans (by omega)
      have hnx : k + 4 * ((i + 1 : Nat) : Int) = k + 4 * (i : Int) + 4 := by omega
      simp only [laws_heldMemberS.G0, laws_heldMemberS.R0, rd_cast, hyg i hi, hw, v1, v2, v3, v4, hnx, hyl, bne_self_eq_false, cond_false]
      rw [decide_eq_true (by omega), cond_true]
      simp only [if_pos (show 0 ≤ (i : Int) ∧ (i : Int) < (l.length : Int) by omega)]
    · simp only [laws_heldMemberS.G0, laws_heldMemberS.R0, hyl]
      rw [decide_eq_false (by omega), cond_false]
      rfl
theorem mhFarm (x0 : Int) (x1 : List (Int × Int × Int × Int × Unit)) (x2 : List (Int × Int × Int × Int × Unit)) (k : Int) (h0 : 0 ≤ k) (h1 : k ≤ 9007199254740992) (h_x1 : x1.length ≤ 1048576) (h_x2 : x2.length ≤ 1048576) : ∃ (y_x1 : List (Int × Int × Int × Int × Unit)) (y_x2 : List (Int × Int × Int × Int × Unit)), F_laws_markFarm (x0, x1, x2, k, ()) = some (k + 4 * (x1.length : Int) + 4 * (x2.length : Int), x0, y_x1, y_x2, ()) ∧ F_laws_heldFarm (x0, y_x1, y_x2, k, ()) = some (k + 4 * (x1.length : Int) + 4 * (x2.length : Int), ()) := by
  obtain ⟨y_x1, a0, b0⟩ := mhGroupS x1 (k) (by omega) (by omega) h_x1
  obtain ⟨y_x2, a1, b1⟩ := mhMemberS x2 (k + 4 * (x1.length : Int)) (by omega) (by omega) h_x2
  have n0 : decide (k + 4 * (x1.length : Int) < 0) = false := decide_eq_false (by omega)
  have n1 : decide (k + 4 * (x1.length : Int) + 4 * (x2.length : Int) < 0) = false := decide_eq_false (by omega)
  exact ⟨y_x1, y_x2, by simp only [F_laws_markFarm, laws_markFarm.T, a0, a1, Option.bind_some], by simp only [F_laws_heldFarm, laws_heldFarm.T, b0, b1, n0, n1, Option.bind_some, cond_false]⟩
def mkLeaseS (k : Int) (i : Nat) : Int × Int × Int × Unit := ((k + 3 * (i : Int)), (k + 3 * (i : Int) + 1), (k + 3 * (i : Int) + 2), ())
theorem mhLeaseS (l : List (Int × Int × Int × Unit)) (k : Int) (h0 : 0 ≤ k) (h1 : k ≤ 72057594037927936) (hl : l.length ≤ 1048576) : ∃ y : List (Int × Int × Int × Unit), F_laws_markLeaseS (l, k, ()) = some (k + 3 * (l.length : Int), y, ()) ∧ F_laws_heldLeaseS (y, k, ()) = some (k + 3 * (l.length : Int), ()) := by
  refine ⟨List.ofFn fun i : Fin l.length => mkLeaseS k i, ?_, ?_⟩
  · show laws_markLeaseS.FF (300 + l.length) l k = _
    simp only [laws_markLeaseS.FF, laws_markLeaseS.T]
    refine Eq.trans (congrArg (fun z => laws_markLeaseS.G0 (300 + l.length) (fun kx o => laws_markLeaseS.A0 l k kx o) (300 + l.length) z 0 l) (show k = k + 3 * ((0 : Nat) : Int) by omega))
      (copies (n := l.length) (mkLeaseS k) (fun q i out => laws_markLeaseS.G0 (300 + l.length) (fun kx o => laws_markLeaseS.A0 l k kx o) q (k + 3 * ((i : Nat) : Int)) (i : Nat) out) (some (k + 3 * (l.length : Int), List.ofFn fun i : Fin l.length => mkLeaseS k i, ())) (fun q i out hi ho => ?_) (fun q => ?_) (300 + l.length) 0 l (by omega) (by omega) rfl (by intro j h hj; omega))
    · have hw : w64 ((i : Int) + 1) = ((i + 1 : Nat) : Int) := w64_in _ (by omega)
      have v1 : w64 (k + 3 * (i : Int) + 1) = k + 3 * (i : Int) + 1 := (w64_in _ (by omega)).trans (by omega)
      have v2 : w64 (k + 3 * (i : Int) + 1 + 1) = k + 3 * (i : Int) + 2 := (w64_in _ (by omega)).trans (by omega)
      have v3 : w64 (k + 3 * (i : Int) + 2 + 1) = k + 3 * (i : Int) + 3 := (w64_in _ (by omega)).trans (by omega)
      have hnx : k + 3 * ((i + 1 : Nat) : Int) = k + 3 * (i : Int) + 3 := by omega
      simp only [laws_markLeaseS.G0, laws_markLeaseS.R0, hw, v1, v2, v3, hnx, List.length_set, Int.toNat_natCast, List.set_set, ho]
      rw [decide_eq_true (by omega), cond_true]
      simp only [if_pos (show 0 ≤ (i : Int) ∧ (i : Int) < (l.length : Int) by omega), getD_set_self _ _ _ _ (show i < out.length by omega)]
      rfl
    · simp only [laws_markLeaseS.G0, laws_markLeaseS.R0]
      rw [decide_eq_false (by simp), cond_false]
      rfl
  · show laws_heldLeaseS.FF (300 + (List.ofFn fun i : Fin l.length => mkLeaseS k i).length) _ k = _
    simp only [laws_heldLeaseS.FF, laws_heldLeaseS.T, List.length_ofFn]
    generalize hy : (List.ofFn fun i : Fin l.length => mkLeaseS k i) = y
    have hyl : y.length = l.length := by rw [← hy, List.length_ofFn]
    have hyg : ∀ i : Nat, i < l.length → y.getD i (0, 0, 0, ()) = ((k + 3 * (i : Int)), (k + 3 * (i : Int) + 1), (k + 3 * (i : Int) + 2), ()) := fun i hi => by rw [← hy]; exact ofFn_at (mkLeaseS k) _ _ hi
    refine Eq.trans (congrArg (fun z => laws_heldLeaseS.G0 (300 + l.length) (fun kx t => laws_heldLeaseS.A0 y k kx t) (fun kx => laws_heldLeaseS.A1 y k kx) (300 + l.length) y z 0) (show k = k + 3 * ((0 : Nat) : Int) by omega))
      ((scan (α := Option (Int × Unit)) l.length (fun _ => True) (fun q i => laws_heldLeaseS.G0 (300 + l.length) (fun kx t => laws_heldLeaseS.A0 y k kx t) (fun kx => laws_heldLeaseS.A1 y k kx) q y (k + 3 * ((i : Nat) : Int)) (i : Nat)) (some (k + 3 * (l.length : Int), ())) none (fun q i hi _ => ⟨fun _ => ?_, fun h => absurd trivial h⟩) (fun _ q => ?_) (300 + l.length) 0 (by omega) (by omega) (fun _ _ => trivial)).1 (fun _ _ => trivial))
    · have hw : w64 ((i : Int) + 1) = ((i + 1 : Nat) : Int) := w64_in _ (by omega)
      have v1 : w64 (k + 3 * (i : Int) + 1) = k + 3 * (i : Int) + 1 := (w64_in _ (by omega)).trans (by omega)
      have v2 : w64 (k + 3 * (i : Int) + 1 + 1) = k + 3 * (i : Int) + 2 := (w64_in _ (by omega)).trans (by omega)
      have v3 : w64 (k + 3 * (i : Int) + 2 + 1) = k + 3 * (i : Int) + 3 := (w64_in _ (by omega)).trans (by omega)
      have hnx : k + 3 * ((i + 1 : Nat) : Int) = k + 3 * (i : Int) + 3 := by omega
      simp only [laws_heldLeaseS.G0, laws_heldLeaseS.R0, rd_cast, hyg i hi, hw, v1, v2, v3, hnx, hyl, bne_self_eq_false, cond_false]
      rw [decide_eq_true (by omega), cond_true]
      simp only [if_pos (show 0 ≤ (i : Int) ∧ (i : Int) < (l.length : Int) by omega)]
    · simp only [laws_heldLeaseS.G0, laws_heldLeaseS.R0, hyl]
      rw [decide_eq_false (by omega), cond_false]
      rfl
theorem mhServer (x0 : Int) (x1 : Int) (x2 : Int) (x3 : Int) (x4 : List (Int × Int × Int × Int × Unit)) (x5 : List (Int × Int × Int × Int × Unit)) (x6 : List (Int × Int × Int × Unit)) (k : Int) (h0 : 0 ≤ k) (h1 : k ≤ 1125899906842624) (h_x4 : x4.length ≤ 1048576) (h_x5 : x5.length ≤ 1048576) (h_x6 : x6.length ≤ 1048576) : ∃ (y_x4 : List (Int × Int × Int × Int × Unit)) (y_x5 : List (Int × Int × Int × Int × Unit)) (y_x6 : List (Int × Int × Int × Unit)), F_laws_markServer (x0, x1, x2, x3, x4, x5, x6, k, ()) = some (k + 4 * (x4.length : Int) + 4 * (x5.length : Int) + 3 * (x6.length : Int), x0, x1, x2, x3, y_x4, y_x5, y_x6, ()) ∧ F_laws_heldServer (x0, x1, x2, x3, y_x4, y_x5, y_x6, k, ()) = some (k + 4 * (x4.length : Int) + 4 * (x5.length : Int) + 3 * (x6.length : Int), ()) := by
  obtain ⟨y_x4, y_x5, a0, b0⟩ := mhFarm x3 x4 x5 (k) (by omega) (by omega) h_x4 h_x5
  obtain ⟨y_x6, a1, b1⟩ := mhLeaseS x6 (k + 4 * (x4.length : Int) + 4 * (x5.length : Int)) (by omega) (by omega) h_x6
  have n0 : decide (k + 4 * (x4.length : Int) + 4 * (x5.length : Int) < 0) = false := decide_eq_false (by omega)
  have n1 : decide (k + 4 * (x4.length : Int) + 4 * (x5.length : Int) + 3 * (x6.length : Int) < 0) = false := decide_eq_false (by omega)
  exact ⟨y_x4, y_x5, y_x6, by simp only [F_laws_markServer, laws_markServer.T, a0, a1, Option.bind_some], by simp only [F_laws_heldServer, laws_heldServer.T, b0, b1, n0, n1, Option.bind_some, cond_false]⟩
theorem mhRelay (x0 : Int) (x1 : Int) (x2 : Int) (x3 : Int) (x4 : List (Int × Int × Int × Int × Unit)) (x5 : List (Int × Int × Int × Int × Unit)) (x6 : List (Int × Int × Int × Unit)) (x7 : Int) (x8 : Int) (x9 : Int) (x10 : Int) (x11 : Int) (x12 : Int) (x13 : Int) (x14 : Int) (x15 : Int) (x16 : Int) (k : Int) (h0 : 0 ≤ k) (h1 : k ≤ 140737488355328) (h_x4 : x4.length ≤ 1048576) (h_x5 : x5.length ≤ 1048576) (h_x6 : x6.length ≤ 1048576) : ∃ (y_x4 : List (Int × Int × Int × Int × Unit)) (y_x5 : List (Int × Int × Int × Int × Unit)) (y_x6 : List (Int × Int × Int × Unit)), F_laws_markRelay (x0, x1, x2, x3, x4, x5, x6, x7, x8, x9, x10, x11, x12, x13, x14, x15, x16, k, ()) = some (k + 4 * (x4.length : Int) + 4 * (x5.length : Int) + 3 * (x6.length : Int), x0, x1, x2, x3, y_x4, y_x5, y_x6, x7, x8, x9, x10, x11, x12, x13, x14, x15, x16, ()) ∧ F_laws_heldRelay (x0, x1, x2, x3, y_x4, y_x5, y_x6, x7, x8, x9, x10, x11, x12, x13, x14, x15, x16, k, ()) = some (k + 4 * (x4.length : Int) + 4 * (x5.length : Int) + 3 * (x6.length : Int), ()) := by
  obtain ⟨y_x4, y_x5, y_x6, a0, b0⟩ := mhServer x0 x1 x2 x3 x4 x5 x6 (k) (by omega) (by omega) h_x4 h_x5 h_x6
  have n0 : decide (k + 4 * (x4.length : Int) + 4 * (x5.length : Int) + 3 * (x6.length : Int) < 0) = false := decide_eq_false (by omega)
  exact ⟨y_x4, y_x5, y_x6, by simp only [F_laws_markRelay, laws_markRelay.T, a0, Option.bind_some], by simp only [F_laws_heldRelay, laws_heldRelay.T, b0, n0, Option.bind_some, cond_false]⟩
theorem eqGroup (x0 : Int) (x1 : Int) (x2 : Int) (x3 : Int)  : F_laws_eqGroup (x0, x1, x2, x3, x0, x1, x2, x3, ()) = some (true, ()) := by
  simp (disch := assumption) only [F_laws_eqGroup, laws_eqGroup.T, Option.bind_some, bne_self_eq_false, cond_false, Bool.not_true]
theorem eqGroupS (l : List (Int × Int × Int × Int × Unit)) (hl : l.length ≤ 1048576) : F_laws_eqGroupS (l, l, ()) = some (true, ()) := by
  show laws_eqGroupS.FF (300 + l.length + l.length) l l = _
  simp only [laws_eqGroupS.FF, laws_eqGroupS.T, bne_self_eq_false, cond_false]
  rw [← bbAll l.length]
  refine scanB (g := fun k i => laws_eqGroupS.G0 (300 + l.length + l.length) (fun t => laws_eqGroupS.A0 l l t) (fun _ => laws_eqGroupS.A1 l l ()) k l l (i : Nat)) (fun k i hi _ => ?_) (fun _ k => ?_) _ (by omega)
  · have hw : w64 ((i : Int) + 1) = ((i + 1 : Nat) : Int) := w64_in _ (by omega)
    simp only [laws_eqGroupS.G0, laws_eqGroupS.R0, rd_cast, eqGroup, Option.bind_some, hw]
    grind [= bb_iff]
  · simp only [laws_eqGroupS.G0, laws_eqGroupS.R0, laws_eqGroupS.A1]; grind [= bb_iff]
theorem eqMember (x0 : Int) (x1 : Int) (x2 : Int) (x3 : Int)  : F_laws_eqMember (x0, x1, x2, x3, x0, x1, x2, x3, ()) = some (true, ()) := by
  simp (disch := assumption) only [F_laws_eqMember, laws_eqMember.T, Option.bind_some, bne_self_eq_false, cond_false, Bool.not_true]
theorem eqMemberS (l : List (Int × Int × Int × Int × Unit)) (hl : l.length ≤ 1048576) : F_laws_eqMemberS (l, l, ()) = some (true, ()) := by
  show laws_eqMemberS.FF (300 + l.length + l.length) l l = _
  simp only [laws_eqMemberS.FF, laws_eqMemberS.T, bne_self_eq_false, cond_false]
  rw [← bbAll l.length]
  refine scanB (g := fun k i => laws_eqMemberS.G0 (300 + l.length + l.length) (fun t => laws_eqMemberS.A0 l l t) (fun _ => laws_eqMemberS.A1 l l ()) k l l (i : Nat)) (fun k i hi _ => ?_) (fun _ k => ?_) _ (by omega)
  · have hw : w64 ((i : Int) + 1) = ((i + 1 : Nat) : Int) := w64_in _ (by omega)
    simp only [laws_eqMemberS.G0, laws_eqMemberS.R0, rd_cast, eqMember, Option.bind_some, hw]
    grind [= bb_iff]
  · simp only [laws_eqMemberS.G0, laws_eqMemberS.R0, laws_eqMemberS.A1]; grind [= bb_iff]
theorem eqFarm (x0 : Int) (x1 : List (Int × Int × Int × Int × Unit)) (x2 : List (Int × Int × Int × Int × Unit)) (h_x1 : x1.length ≤ 1048576) (h_x2 : x2.length ≤ 1048576) : F_laws_eqFarm (x0, x1, x2, x0, x1, x2, ()) = some (true, ()) := by
  simp (disch := assumption) only [F_laws_eqFarm, laws_eqFarm.T, eqGroupS, eqMemberS, Option.bind_some, bne_self_eq_false, cond_false, Bool.not_true]
theorem eqLease (x0 : Int) (x1 : Int) (x2 : Int)  : F_laws_eqLease (x0, x1, x2, x0, x1, x2, ()) = some (true, ()) := by
  simp (disch := assumption) only [F_laws_eqLease, laws_eqLease.T, Option.bind_some, bne_self_eq_false, cond_false, Bool.not_true]
theorem eqLeaseS (l : List (Int × Int × Int × Unit)) (hl : l.length ≤ 1048576) : F_laws_eqLeaseS (l, l, ()) = some (true, ()) := by
  show laws_eqLeaseS.FF (300 + l.length + l.length) l l = _
  simp only [laws_eqLeaseS.FF, laws_eqLeaseS.T, bne_self_eq_false, cond_false]
  rw [← bbAll l.length]
  refine scanB (g := fun k i => laws_eqLeaseS.G0 (300 + l.length + l.length) (fun t => laws_eqLeaseS.A0 l l t) (fun _ => laws_eqLeaseS.A1 l l ()) k l l (i : Nat)) (fun k i hi _ => ?_) (fun _ k => ?_) _ (by omega)
  · have hw : w64 ((i : Int) + 1) = ((i + 1 : Nat) : Int) := w64_in _ (by omega)
    simp only [laws_eqLeaseS.G0, laws_eqLeaseS.R0, rd_cast, eqLease, Option.bind_some, hw]
    grind [= bb_iff]
  · simp only [laws_eqLeaseS.G0, laws_eqLeaseS.R0, laws_eqLeaseS.A1]; grind [= bb_iff]
theorem eqServer (x0 : Int) (x1 : Int) (x2 : Int) (x3 : Int) (x4 : List (Int × Int × Int × Int × Unit)) (x5 : List (Int × Int × Int × Int × Unit)) (x6 : List (Int × Int × Int × Unit)) (h_x4 : x4.length ≤ 1048576) (h_x5 : x5.length ≤ 1048576) (h_x6 : x6.length ≤ 1048576) : F_laws_eqServer (x0, x1, x2, x3, x4, x5, x6, x0, x1, x2, x3, x4, x5, x6, ()) = some (true, ()) := by
  simp (disch := assumption) only [F_laws_eqServer, laws_eqServer.T, eqFarm, eqLeaseS, Option.bind_some, bne_self_eq_false, cond_false, Bool.not_true]
theorem eqClient (x0 : Int) (x1 : Int) (x2 : Int) (x3 : Int) (x4 : Int) (x5 : Int) (x6 : Int) (x7 : Int) (x8 : Int) (x9 : Int)  : F_laws_eqClient (x0, x1, x2, x3, x4, x5, x6, x7, x8, x9, x0, x1, x2, x3, x4, x5, x6, x7, x8, x9, ()) = some (true, ()) := by
  simp (disch := assumption) only [F_laws_eqClient, laws_eqClient.T, Option.bind_some, bne_self_eq_false, cond_false, Bool.not_true]
theorem eqRelay (x0 : Int) (x1 : Int) (x2 : Int) (x3 : Int) (x4 : List (Int × Int × Int × Int × Unit)) (x5 : List (Int × Int × Int × Int × Unit)) (x6 : List (Int × Int × Int × Unit)) (x7 : Int) (x8 : Int) (x9 : Int) (x10 : Int) (x11 : Int) (x12 : Int) (x13 : Int) (x14 : Int) (x15 : Int) (x16 : Int) (h_x4 : x4.length ≤ 1048576) (h_x5 : x5.length ≤ 1048576) (h_x6 : x6.length ≤ 1048576) : F_laws_eqRelay (x0, x1, x2, x3, x4, x5, x6, x7, x8, x9, x10, x11, x12, x13, x14, x15, x16, x0, x1, x2, x3, x4, x5, x6, x7, x8, x9, x10, x11, x12, x13, x14, x15, x16, ()) = some (true, ()) := by
  simp (disch := assumption) only [F_laws_eqRelay, laws_eqRelay.T, eqServer, eqClient, Option.bind_some, bne_self_eq_false, cond_false, Bool.not_true]
def clientP (c0 c1 c2 c3 c4 c5 c6 c7 c8 c9 : Int) : Prop := idP c0 ∧ (c1 = 0 ∨ idP c1) ∧ wantP c2 ∧ weightP c3 ∧ wantP c4 ∧ timeP c5 ∧ timeP c6 ∧ timeP c7 ∧ timeP c9 ∧ 1 ≤ c8 ∧ c8 ≤ 64
theorem specClient (c0 c1 c2 c3 c4 c5 c6 c7 c8 c9 : Int) : F_spec_ClientRight (c0, c1, c2, c3, c4, c5, c6, c7, c8, c9, ()) = some (bb (clientP c0 c1 c2 c3 c4 c5 c6 c7 c8 c9), ()) := by
  simp only [F_spec_ClientRight, spec_ClientRight.T, F_l02Id, F_l02Want, F_l02Weight, F_l07Time, Option.bind_some, clientP]
  grind [= bb_iff]
theorem implClient (c0 c1 c2 c3 c4 c5 c6 c7 c8 c9 : Int) : F_impl_ClientRight (c0, c1, c2, c3, c4, c5, c6, c7, c8, c9, ()) = some (bb (clientP c0 c1 c2 c3 c4 c5 c6 c7 c8 c9), ()) := by
  simp only [F_impl_ClientRight, impl_ClientRight.T, F_iId, F_iWant, F_iWeight, F_iTime, F_iin, Option.bind_some, clientP]
  grind [= bb_iff]
def relayP (s0 s1 s2 s3 : Int) (s4 s5 : List I4) (s6 : List I3) (c0 c1 c2 c3 c4 c5 c6 c7 c8 c9 : Int) : Prop := serverP s0 s1 s2 s3 s4 s5 s6 ∧ clientP c0 c1 c2 c3 c4 c5 c6 c7 c8 c9
theorem specRelay (s0 s1 s2 s3 : Int) (s4 s5 : List I4) (s6 : List I3) (c0 c1 c2 c3 c4 c5 c6 c7 c8 c9 : Int) (h4 : s4.length ≤ 1048576) (h5 : s5.length ≤ 1048576) (h6 : s6.length ≤ 1048576) :
    F_spec_RelayRight (s0, s1, s2, s3, s4, s5, s6, c0, c1, c2, c3, c4, c5, c6, c7, c8, c9, ()) = some (bb (relayP s0 s1 s2 s3 s4 s5 s6 c0 c1 c2 c3 c4 c5 c6 c7 c8 c9), ()) := by
  simp only [F_spec_RelayRight, spec_RelayRight.T, specServer s0 s1 s2 s3 s4 s5 s6 h4 h5 h6, specClient, Option.bind_some, relayP]
  grind [= bb_iff]
theorem implRelay (s0 s1 s2 s3 : Int) (s4 s5 : List I4) (s6 : List I3) (c0 c1 c2 c3 c4 c5 c6 c7 c8 c9 : Int) (h4 : s4.length ≤ 1048576) (h5 : s5.length ≤ 1048576) (h6 : s6.length ≤ 1048576) :
    F_impl_RelayRight (s0, s1, s2, s3, s4, s5, s6, c0, c1, c2, c3, c4, c5, c6, c7, c8, c9, ()) = some (bb (relayP s0 s1 s2 s3 s4 s5 s6 c0 c1 c2 c3 c4 c5 c6 c7 c8 c9), ()) := by
  simp only [F_impl_RelayRight, impl_RelayRight.T, implServer s0 s1 s2 s3 s4 s5 s6 h4 h5 h6, implClient, Option.bind_some, relayP]
  grind [= bb_iff]
theorem specClientNew (a b c d : Int) : F_spec_ClientNew (a, b, c, d, ()) = cond (bb (clientP a b c d 0 0 0 0 1 0)) (some (a, b, c, d, 0, 0, 0, 0, 1, 0, ())) (some (0, 0, 0, 0, 0, 0, 0, 0, 0, 0, ())) := by
  simp only [F_spec_ClientNew, spec_ClientNew.T, F_l02Id, F_l02Want, F_l02Weight, Option.bind_some]
  have h : clientP a b c d 0 0 0 0 1 0 ↔ idP a ∧ (b = 0 ∨ idP b) ∧ wantP c ∧ weightP d := by
    have h1 : wantP 0 := by unfold wantP; omega
    have h2 : timeP 0 := by unfold timeP; omega
    exact ⟨fun h => ⟨h.1, h.2.1, h.2.2.1, h.2.2.2.1⟩, fun h => ⟨h.1, h.2.1, h.2.2.1, h.2.2.2, h1, h2, h2, h2, h2, by omega, by omega⟩⟩
  rw [bb_congr h]
  grind [= bb_iff]
theorem implClientNew (a b c d : Int) : F_impl_ClientNew (a, b, c, d, ()) = cond (bb (clientP a b c d 0 0 0 0 1 0)) (some (a, b, c, d, 0, 0, 0, 0, 1, 0, ())) (some (0, 0, 0, 0, 0, 0, 0, 0, 0, 0, ())) := by
  simp only [F_impl_ClientNew, impl_ClientNew.T, implClient, Option.bind_some]
  grind [= bb_iff]
def beginP (a b : Int) : Prop := (1 ≤ a ∧ a ≤ 1000) ∧ wantP b
theorem specServerNew (a b : Int) : F_spec_ServerNew (a, b, ()) = cond (bb (beginP a b)) (some (a, 0, 0, b, [], [], [], ())) (some (0, 0, 0, 0, [], [], [], ())) := by
  simp only [F_spec_ServerNew, spec_ServerNew.T, F_l10Length, F_l02Want, Option.bind_some, beginP]
  grind [= bb_iff]
theorem implServerNew (a b : Int) : F_impl_ServerNew (a, b, ()) = cond (bb (beginP a b)) (some (a, 0, 0, b, [], [], [], ())) (some (0, 0, 0, 0, [], [], [], ())) := by
  simp only [F_impl_ServerNew, impl_ServerNew.T, F_impl_mayStart, impl_mayStart.T, F_iin, F_iWant, Option.bind_some, beginP]
  grind [= bb_iff]
theorem relayNews (id w n : Int) : ∃ s0 s1 s2 s3 c0 c1 c2 c3 c4 c5 c6 c7 c8 c9 : Int, F_spec_RelayNew (id, w, n, ()) = some (s0, s1, s2, s3, [], [], [], c0, c1, c2, c3, c4, c5, c6, c7, c8, c9, ()) ∧ F_impl_RelayNew (id, w, n, ()) = some (s0, s1, s2, s3, [], [], [], c0, c1, c2, c3, c4, c5, c6, c7, c8, c9, ()) := by
  have hs : ∃ s0 s1 s2 s3 : Int, F_spec_ServerNew (n, 0, ()) = some (s0, s1, s2, s3, [], [], [], ()) ∧ F_impl_ServerNew (n, 0, ()) = some (s0, s1, s2, s3, [], [], [], ()) := by
    rw [specServerNew, implServerNew]
    cases bb (beginP n 0)
    · exact ⟨_, _, _, _, rfl, rfl⟩
    · exact ⟨_, _, _, _, rfl, rfl⟩
  have hc : ∃ c0 c1 c2 c3 c4 c5 c6 c7 c8 c9 : Int, F_spec_ClientNew (id, 0, 0, w, ()) = some (c0, c1, c2, c3, c4, c5, c6, c7, c8, c9, ()) ∧ F_impl_ClientNew (id, 0, 0, w, ()) = some (c0, c1, c2, c3, c4, c5, c6, c7, c8, c9, ()) := by
    rw [specClientNew, implClientNew]
    cases bb (clientP id 0 0 w 0 0 0 0 1 0)
    · exact ⟨_, _, _, _, _, _, _, _, _, _, rfl, rfl⟩
    · exact ⟨_, _, _, _, _, _, _, _, _, _, rfl, rfl⟩
  obtain ⟨s0, s1, s2, s3, h1, h2⟩ := hs
  obtain ⟨c0, c1, c2, c3, c4, c5, c6, c7, c8, c9, h3, h4⟩ := hc
  simp only [F_spec_RelayNew, spec_RelayNew.T, F_impl_RelayNew, impl_RelayNew.T, h1, h2, h3, h4, Option.bind_some,
    specRelay s0 s1 s2 s3 [] [] [] c0 c1 c2 c3 c4 c5 c6 c7 c8 c9 (Nat.zero_le _) (Nat.zero_le _) (Nat.zero_le _), implRelay s0 s1 s2 s3 [] [] [] c0 c1 c2 c3 c4 c5 c6 c7 c8 c9 (Nat.zero_le _) (Nat.zero_le _) (Nat.zero_le _)]
  cases bb (relayP s0 s1 s2 s3 [] [] [] c0 c1 c2 c3 c4 c5 c6 c7 c8 c9)
  · exact ⟨_, _, _, _, _, _, _, _, _, _, _, _, _, _, rfl, rfl⟩
  · exact ⟨_, _, _, _, _, _, _, _, _, _, _, _, _, _, rfl, rfl⟩
theorem lawRelayNew (id w n : Int) : F_laws_FnExactRelayNew (id, w, n, ()) = some (true, ()) := by
  obtain ⟨s0, s1, s2, s3, c0, c1, c2, c3, c4, c5, c6, c7, c8, c9, h1, h2⟩ := relayNews id w n
  have h3 := eqRelay s0 s1 s2 s3 [] [] [] c0 c1 c2 c3 c4 c5 c6 c7 c8 c9 (Nat.zero_le _) (Nat.zero_le _) (Nat.zero_le _)
  obtain ⟨y4, y5, y6, h4, h5⟩ := mhRelay s0 s1 s2 s3 [] [] [] c0 c1 c2 c3 c4 c5 c6 c7 c8 c9 1 (by omega) (by omega) (Nat.zero_le _) (Nat.zero_le _) (Nat.zero_le _)
  simp only [F_laws_FnExactRelayNew, laws_FnExactRelayNew.T, h1, h2, h3, h4, h5, Option.bind_some, Bool.not_true, cond_false]
  simp
theorem pureRelayNew : ∀ x : CTs.V (insC ins_laws_FnExactRelayNew), CTs.ok (insC ins_laws_FnExactRelayNew) x → F_laws_FnExactRelayNew x = some (true, ()) := by
  rintro ⟨a, b, c, ⟨⟩⟩ h
  exact lawRelayNew a b c
end Go.Rv
