/- Plain facts: draw1. -/
import Derived.Test.YtnebddbibpbloaaM19
set_option linter.unusedVariables false
set_option linter.unusedSimpArgs false
set_option linter.unusedSectionVars false
namespace Go.Rv
/-! ### the draw of a farm -/
def farmQ (y : Int × List I4 × List I4 × List (Int × Unit) × Int × Int × Int × Unit) : Prop := y.2.1.length ≤ 100 ∧ y.2.2.1.length ≤ 200 ∧ srcP y.2.2.2.1 y.2.2.2.2.1 y.2.2.2.2.2.2.1
theorem gA2 (s0 : List (Int × Unit)) (s1 s2 s3 id : Int) {s : List (Int × Unit)} {a b z : Int} (t f : Int) (h : srcP s a z) : Good farmQ (spec_l01Src_l05Farm.A2 s0 s1 s2 s3 id s a b z t f) := by
  simp only [spec_l01Src_l05Farm.A2]
  repeat' first
    | (refine good_bind (gN (by assumption) (by omega)) fun y hy => ?_; obtain ⟨hy, _, _⟩ := hy)
    | (refine good_bind (gOne (by assumption) (by omega)) fun y hy => ?_)
    | (refine good_bind (gWant (by assumption)) fun y hy => ?_)
    | (refine good_bind (gWeight (by assumption)) fun y hy => ?_)
    | (refine good_cond (fun h => absurd (of_decide_eq_true h) (by omega)) fun _ => ?_)
    | (refine good_cond (fun _ => ?_) fun h => absurd (of_decide_eq_false h) (by omega))
    | (refine good_cond (fun hb => ?_) fun hb => ?_ <;> (try simp only [decide_eq_true_eq, decide_eq_false_iff_not] at hb))
    | (refine good_if (by simp only [List.length_cons, List.length_nil, maxRow]; omega) ?_)
    | (refine good_if (by omega) ?_)
    | exact good_some ⟨by simp only [List.length_append, List.length_cons, List.length_nil]; omega, by simp only [List.length_append, List.length_cons, List.length_nil]; omega, by assumption⟩
theorem gA3 (s0 : List (Int × Unit)) (s1 s2 s3 id : Int) {s : List (Int × Unit)} {a b z : Int} (t f : Int) (o3 : List I4) (ho3 : o3.length ≤ 99) (h : srcP s a z) : Good farmQ (spec_l01Src_l05Farm.A3 s0 s1 s2 s3 id s a b z t f o3) := by
  simp only [spec_l01Src_l05Farm.A3]
  repeat' first
    | (refine good_bind (gN (by assumption) (by omega)) fun y hy => ?_; obtain ⟨hy, _, _⟩ := hy)
    | (refine good_bind (gOne (by assumption) (by omega)) fun y hy => ?_)
    | (refine good_bind (gWant (by assumption)) fun y hy => ?_)
    | (refine good_bind (gWeight (by assumption)) fun y hy => ?_)
    | (refine good_cond (fun h => absurd (of_decide_eq_true h) (by omega)) fun _ => ?_)
    | (refine good_cond (fun _ => ?_) fun h => absurd (of_decide_eq_false h) (by omega))
    | (refine good_cond (fun hb => ?_) fun hb => ?_ <;> (try simp only [decide_eq_true_eq, decide_eq_false_iff_not] at hb))
    | (refine good_if (by simp only [List.length_cons, List.length_nil, maxRow]; omega) ?_)
    | (refine good_if (by omega) ?_)
    | exact good_some ⟨by simp only [List.length_append, List.length_cons, List.length_nil]; omega, by simp only [List.length_append, List.length_cons, List.length_nil]; omega, by assumption⟩
theorem gA4 (s0 : List (Int × Unit)) (s1 s2 s3 id : Int) {s : List (Int × Unit)} {a b z : Int} (t f : Int) (o3 : List I4) (ho3 : o3.length ≤ 99) (h : srcP s a z) : Good farmQ (spec_l01Src_l05Farm.A4 s0 s1 s2 s3 id s a b z t f o3) := by
  simp only [spec_l01Src_l05Farm.A4]
  repeat' first
    | (refine good_bind (gN (by assumption) (by omega)) fun y hy => ?_; obtain ⟨hy, _, _⟩ := hy)
    | (refine good_bind (gOne (by assumption) (by omega)) fun y hy => ?_)
    | (refine good_bind (gWant (by assumption)) fun y hy => ?_)
    | (refine good_bind (gWeight (by assumption)) fun y hy => ?_)
    | (refine good_cond (fun h => absurd (of_decide_eq_true h) (by omega)) fun _ => ?_)
    | (refine good_cond (fun _ => ?_) fun h => absurd (of_decide_eq_false h) (by omega))
    | (refine good_cond (fun hb => ?_) fun hb => ?_ <;> (try simp only [decide_eq_true_eq, decide_eq_false_iff_not] at hb))
    | (refine good_if (by simp only [List.length_cons, List.length_nil, maxRow]; omega) ?_)
    | (refine good_if (by omega) ?_)
    | exact good_some ⟨by simp only [List.length_append, List.length_cons, List.length_nil]; omega, by simp only [List.length_append, List.length_cons, List.length_nil]; omega, by assumption⟩
theorem gA5 (s0 : List (Int × Unit)) (s1 s2 s3 id : Int) {s : List (Int × Unit)} {a b z : Int} (t f : Int) (o3 : List I4) (o4 : List I4) (ho3 : o3.length ≤ 99) (ho4 : o4.length ≤ 99) (h : srcP s a z) : Good farmQ (spec_l01Src_l05Farm.A5 s0 s1 s2 s3 id s a b z t f o3 o4) := by
  simp only [spec_l01Src_l05Farm.A5]
  repeat' first
    | (refine good_bind (gN (by assumption) (by omega)) fun y hy => ?_; obtain ⟨hy, _, _⟩ := hy)
    | (refine good_bind (gOne (by assumption) (by omega)) fun y hy => ?_)
    | (refine good_bind (gWant (by assumption)) fun y hy => ?_)
    | (refine good_bind (gWeight (by assumption)) fun y hy => ?_)
    | (refine good_cond (fun h => absurd (of_decide_eq_true h) (by omega)) fun _ => ?_)
    | (refine good_cond (fun _ => ?_) fun h => absurd (of_decide_eq_false h) (by omega))
    | (refine good_cond (fun hb => ?_) fun hb => ?_ <;> (try simp only [decide_eq_true_eq, decide_eq_false_iff_not] at hb))
    | (refine good_if (by simp only [List.length_cons, List.length_nil, maxRow]; omega) ?_)
    | (refine good_if (by omega) ?_)
    | exact good_some ⟨by simp only [List.length_append, List.length_cons, List.length_nil]; omega, by simp only [List.length_append, List.length_cons, List.length_nil]; omega, by assumption⟩
section
variable {Q : Int × List I4 × List I4 × List (Int × Unit) × Int × Int × Int × Unit → Prop}
abbrev RFm := Option (Int × List I4 × List I4 × List (Int × Unit) × Int × Int × Int × Unit)
theorem gG1 (k0 : Nat) (hx0 : Int → List (Int × Unit) → Int → Int → Int → Int → Int → RFm) (hx1 : Int → List (Int × Unit) → Int → Int → Int → Int → Int → List I4 → RFm) (n t f : Int) (hn : n ≤ 31)
    (hx : ∀ s a b z o3, srcP s a z → (o3.length : Int) = n → Good Q (hx1 n s a b z t f o3)) :
    ∀ (d k : Nat) (id i : Int) (s : List (Int × Unit)) (a b z : Int) (o3 : List I4), i + d = n → d < k → 0 < i → srcP s a z → (o3.length : Int) = i → Good Q (spec_l01Src_l05Farm.G1 k0 hx0 hx1 k n id i s a b z t f o3) := by
  intro d
  induction d with
  | zero =>
    intro k id i s a b z o3 hi hk h0 h ho
    obtain ⟨k, rfl⟩ : ∃ j, k = j + 1 := ⟨k - 1, by omega⟩
    simp only [spec_l01Src_l05Farm.G1, spec_l01Src_l05Farm.R1]
    exact good_cond (fun h => absurd (of_decide_eq_true h) (by omega)) fun _ => hx _ _ _ _ _ h (by omega)
  | succ d ih =>
    intro k id i s a b z o3 hi hk h0 h ho
    obtain ⟨k, rfl⟩ : ∃ j, k = j + 1 := ⟨k - 1, by omega⟩
    have hw : w64 (i + 1) = i + 1 := w64_in _ (by omega)
    simp only [spec_l01Src_l05Farm.G1, spec_l01Src_l05Farm.R1, hw]
    repeat' first
    | (refine good_bind (gN (by assumption) (by omega)) fun y hy => ?_; obtain ⟨hy, _, _⟩ := hy)
    | (refine good_bind (gOne (by assumption) (by omega)) fun y hy => ?_)
    | (refine good_bind (gWant (by assumption)) fun y hy => ?_)
    | (refine good_bind (gWeight (by assumption)) fun y hy => ?_)
    | (refine good_cond (fun h => absurd (of_decide_eq_true h) (by omega)) fun _ => ?_)
    | (refine good_cond (fun _ => ?_) fun h => absurd (of_decide_eq_false h) (by omega))
    | (refine good_cond (fun hb => ?_) fun hb => ?_ <;> (try simp only [decide_eq_true_eq, decide_eq_false_iff_not] at hb))
    | (refine good_if (by simp only [List.length_cons, List.length_nil, maxRow]; omega) ?_)
    | (refine good_if (by omega) ?_)
      | exact ih k _ _ _ _ _ _ _ (by omega) (by omega) (by omega) (by assumption) (by simp only [List.length_append, List.length_cons, List.length_nil]; omega)
theorem gG0 (k0 : Nat) (hx0 : Int → List (Int × Unit) → Int → Int → Int → Int → Int → RFm) (hx1 : Int → List (Int × Unit) → Int → Int → Int → Int → Int → List I4 → RFm) (n t f : Int) (h0 : 0 ≤ n) (hn : n ≤ 31)
    (hxa : ∀ s a b z, srcP s a z → n = 0 → Good Q (hx0 n s a b z t f)) (hx : ∀ s a b z o3, srcP s a z → 0 < n → (o3.length : Int) = n → Good Q (hx1 n s a b z t f o3)) (k : Nat) (hk : 40 < k) (s : List (Int × Unit)) (a b z : Int) (h : srcP s a z) :
    Good Q (spec_l01Src_l05Farm.G0 k0 hx0 hx1 k n 0 0 s a b z t f) := by
  obtain ⟨k, rfl⟩ : ∃ j, k = j + 1 := ⟨k - 1, by omega⟩
  have hw : w64 ((0 : Int) + 1) = 1 := rfl
  simp only [spec_l01Src_l05Farm.G0, spec_l01Src_l05Farm.R0, hw]
  by_cases hz : n = 0
  · subst hz
    exact good_cond (fun h => absurd (of_decide_eq_true h) (by omega)) fun _ => hxa _ _ _ _ h rfl
  repeat' first
    | (refine good_bind (gN (by assumption) (by omega)) fun y hy => ?_; obtain ⟨hy, _, _⟩ := hy)
    | (refine good_bind (gOne (by assumption) (by omega)) fun y hy => ?_)
    | (refine good_bind (gWant (by assumption)) fun y hy => ?_)
    | (refine good_bind (gWeight (by assumption)) fun y hy => ?_)
    | (refine good_cond (fun h => absurd (of_decide_eq_true h) (by omega)) fun _ => ?_)
    | (refine good_cond (fun _ => ?_) fun h => absurd (of_decide_eq_false h) (by omega))
    | (refine good_cond (fun hb => ?_) fun hb => ?_ <;> (try simp only [decide_eq_true_eq, decide_eq_false_iff_not] at hb))
    | (refine good_if (by simp only [List.length_cons, List.length_nil, maxRow]; omega) ?_)
    | (refine good_if (by omega) ?_)
    | exact gG1 k0 hx0 hx1 n t f hn (fun s a b z o3 h1 h2 => hx s a b z o3 h1 (by omega) h2) (n.toNat - 1) k _ _ _ _ _ _ _ (by omega) (by omega) (by omega) (by assumption) (by simp only [List.length_cons, List.length_nil]; omega)

theorem gG3 (k0 : Nat) (hx2 : Int → List (Int × Unit) → Int → Int → Int → Int → Int → RFm) (hx3 hx4 : Int → List (Int × Unit) → Int → Int → Int → Int → Int → List I4 → RFm) (hx5 : Int → List (Int × Unit) → Int → Int → Int → Int → Int → List I4 → List I4 → RFm) (n t f : Int) (hn : n = 0)
    (hx : ∀ id s a b z (o : List I4), srcP s a z → o.length ≤ 62 → Good Q (hx3 id s a b z t f o)) :
    ∀ (d k : Nat) (id : Int) (s : List (Int × Unit)) (a b z : Int) (o : List I4), d < k → o.length + d ≤ 62 → srcP s a z → Good Q (spec_l01Src_l05Farm.G3 k0 hx2 hx3 hx4 hx5 k n id (d : Nat) s a b z t f o) := by
  intro d
  induction d with
  | zero =>
    intro k id s a b z o hk ho h
    obtain ⟨k, rfl⟩ : ∃ j, k = j + 1 := ⟨k - 1, by omega⟩
    simp only [spec_l01Src_l05Farm.G3, spec_l01Src_l05Farm.R3]
    exact good_cond (fun h => absurd (of_decide_eq_true h) (by omega)) fun _ => hx _ _ _ _ _ _ h (by omega)
  | succ d ih =>
    intro k id s a b z o hk ho h
    obtain ⟨k, rfl⟩ : ∃ j, k = j + 1 := ⟨k - 1, by omega⟩
    have hw : w64 (((d + 1 : Nat) : Int) - 1) = (d : Int) := (w64_in _ (by omega)).trans (by omega)
    simp only [spec_l01Src_l05Farm.G3, spec_l01Src_l05Farm.R3, hw]
    repeat' first
    | (refine good_bind (gN (by assumption) (by omega)) fun y hy => ?_; obtain ⟨hy, _, _⟩ := hy)
    | (refine good_bind (gOne (by assumption) (by omega)) fun y hy => ?_)
    | (refine good_bind (gWant (by assumption)) fun y hy => ?_)
    | (refine good_bind (gWeight (by assumption)) fun y hy => ?_)
    | (refine good_cond (fun h => absurd (of_decide_eq_true h) (by omega)) fun _ => ?_)
    | (refine good_cond (fun _ => ?_) fun h => absurd (of_decide_eq_false h) (by omega))
    | (refine good_cond (fun hb => ?_) fun hb => ?_ <;> (try simp only [decide_eq_true_eq, decide_eq_false_iff_not] at hb))
    | (refine good_if (by simp only [List.length_cons, List.length_nil, maxRow]; omega) ?_)
    | (refine good_if (by omega) ?_)
      | exact ih k _ _ _ _ _ _ (by omega) (by simp only [List.length_append, List.length_cons, List.length_nil]; omega) (by assumption)
theorem gG2 (k0 : Nat) (hx2 : Int → List (Int × Unit) → Int → Int → Int → Int → Int → RFm) (hx3 hx4 : Int → List (Int × Unit) → Int → Int → Int → Int → Int → List I4 → RFm) (hx5 : Int → List (Int × Unit) → Int → Int → Int → Int → Int → List I4 → List I4 → RFm) (n t f : Int) (hn : n = 0)
    (hxa : ∀ id s a b z, srcP s a z → Good Q (hx2 id s a b z t f)) (hx : ∀ id s a b z (o : List I4), srcP s a z → o.length ≤ 62 → Good Q (hx3 id s a b z t f o))
    (m : Int) (h0 : 0 ≤ m) (hm : m ≤ 61) (k : Nat) (hk : 70 < k) (s : List (Int × Unit)) (a b z : Int) (h : srcP s a z) : Good Q (spec_l01Src_l05Farm.G2 k0 hx2 hx3 hx4 hx5 k n 0 m s a b z t f) := by
  obtain ⟨k, rfl⟩ : ∃ j, k = j + 1 := ⟨k - 1, by omega⟩
  by_cases hz : m = 0
  · subst hz
    simp only [spec_l01Src_l05Farm.G2, spec_l01Src_l05Farm.R2]
    exact good_cond (fun h => absurd (of_decide_eq_true h) (by omega)) fun _ => hxa _ _ _ _ _ h
  obtain ⟨d, rfl⟩ : ∃ d : Nat, m = ((d + 1 : Nat) : Int) := ⟨m.toNat - 1, by omega⟩
  have hw : w64 (((d + 1 : Nat) : Int) - 1) = (d : Int) := (w64_in _ (by omega)).trans (by omega)
  simp only [spec_l01Src_l05Farm.G2, spec_l01Src_l05Farm.R2, hw]
  repeat' first
    | (refine good_bind (gN (by assumption) (by omega)) fun y hy => ?_; obtain ⟨hy, _, _⟩ := hy)
    | (refine good_bind (gOne (by assumption) (by omega)) fun y hy => ?_)
    | (refine good_bind (gWant (by assumption)) fun y hy => ?_)
    | (refine good_bind (gWeight (by assumption)) fun y hy => ?_)
    | (refine good_cond (fun h => absurd (of_decide_eq_true h) (by omega)) fun _ => ?_)
    | (refine good_cond (fun _ => ?_) fun h => absurd (of_decide_eq_false h) (by omega))
    | (refine good_cond (fun hb => ?_) fun hb => ?_ <;> (try simp only [decide_eq_true_eq, decide_eq_false_iff_not] at hb))
    | (refine good_if (by simp only [List.length_cons, List.length_nil, maxRow]; omega) ?_)
    | (refine good_if (by omega) ?_)
    | exact gG3 k0 hx2 hx3 hx4 hx5 n t f hn hx d k _ _ _ _ _ _ (by omega) (by simp only [List.length_cons, List.length_nil]; omega) (by assumption)

theorem gG5 (k0 : Nat) (hx2 : Int → List (Int × Unit) → Int → Int → Int → Int → Int → RFm) (hx3 hx4 : Int → List (Int × Unit) → Int → Int → Int → Int → Int → List I4 → RFm) (hx5 : Int → List (Int × Unit) → Int → Int → Int → Int → Int → List I4 → List I4 → RFm) (n t f : Int) (hn : 0 < n ∧ n ≤ 31) (o3 : List I4) (h3 : (o3.length : Int) = n)
    (hx : ∀ id s a b z (o : List I4), srcP s a z → o.length ≤ 62 → Good Q (hx5 id s a b z t f o3 o)) :
    ∀ (d k : Nat) (id : Int) (s : List (Int × Unit)) (a b z : Int) (o : List I4), d < k → o.length + d ≤ 62 → srcP s a z → Good Q (spec_l01Src_l05Farm.G5 k0 hx2 hx3 hx4 hx5 k n id (d : Nat) s a b z t f o3 o) := by
  intro d
  induction d with
  | zero =>
    intro k id s a b z o hk ho h
    obtain ⟨k, rfl⟩ : ∃ j, k = j + 1 := ⟨k - 1, by omega⟩
    simp only [spec_l01Src_l05Farm.G5, spec_l01Src_l05Farm.R5]
    exact good_cond (fun h => absurd (of_decide_eq_true h) (by omega)) fun _ => hx _ _ _ _ _ _ h (by omega)
  | succ d ih =>
    intro k id s a b z o hk ho h
    obtain ⟨k, rfl⟩ : ∃ j, k = j + 1 := ⟨k - 1, by omega⟩
    have hw : w64 (((d + 1 : Nat) : Int) - 1) = (d : Int) := (w64_in _ (by omega)).trans (by omega)
    simp only [spec_l01Src_l05Farm.G5, spec_l01Src_l05Farm.R5, hw]
    repeat' first
    | (refine good_bind (gN (by assumption) (by omega)) fun y hy => ?_; obtain ⟨hy, _, _⟩ := hy)
    | (refine good_bind (gOne (by assumption) (by omega)) fun y hy => ?_)
    | (refine good_bind (gWant (by assumption)) fun y hy => ?_)
    | (refine good_bind (gWeight (by assumption)) fun y hy => ?_)
    | (refine good_cond (fun h => absurd (of_decide_eq_true h) (by omega)) fun _ => ?_)
    | (refine good_cond (fun _ => ?_) fun h => absurd (of_decide_eq_false h) (by omega))
    | (refine good_cond (fun hb => ?_) fun hb => ?_ <;> (try simp only [decide_eq_true_eq, decide_eq_false_iff_not] at hb))
    | (refine good_if (by simp only [List.length_cons, List.length_nil, maxRow]; omega) ?_)
    | (refine good_if (by omega) ?_)
      | exact ih k _ _ _ _ _ _ (by omega) (by simp only [List.length_append, List.length_cons, List.length_nil]; omega) (by assumption)
theorem gG4 (k0 : Nat) (hx2 : Int → List (Int × Unit) → Int → Int → Int → Int → Int → RFm) (hx3 hx4 : Int → List (Int × Unit) → Int → Int → Int → Int → Int → List I4 → RFm) (hx5 : Int → List (Int × Unit) → Int → Int → Int → Int → Int → List I4 → List I4 → RFm) (n t f : Int) (hn : 0 < n ∧ n ≤ 31) (o3 : List I4) (h3 : (o3.length : Int) = n)
    (hxa : ∀ id s a b z, srcP s a z → Good Q (hx4 id s a b z t f o3)) (hx : ∀ id s a b z (o : List I4), srcP s a z → o.length ≤ 62 → Good Q (hx5 id s a b z t f o3 o))
    (m : Int) (h0 : 0 ≤ m) (hm : m ≤ 61) (k : Nat) (hk : 70 < k) (s : List (Int × Unit)) (a b z : Int) (h : srcP s a z) : Good Q (spec_l01Src_l05Farm.G4 k0 hx2 hx3 hx4 hx5 k n 0 m s a b z t f o3) := by
  obtain ⟨k, rfl⟩ : ∃ j, k = j + 1 := ⟨k - 1, by omega⟩
  by_cases hz : m = 0
  · subst hz
    simp only [spec_l01Src_l05Farm.G4, spec_l01Src_l05Farm.R4]
    exact good_cond (fun h => absurd (of_decide_eq_true h) (by omega)) fun _ => hxa _ _ _ _ _ h
  obtain ⟨d, rfl⟩ : ∃ d : Nat, m = ((d + 1 : Nat) : Int) := ⟨m.toNat - 1, by omega⟩
  have hw : w64 (((d + 1 : Nat) : Int) - 1) = (d : Int) := (w64_in _ (by omega)).trans (by omega)
  simp only [spec_l01Src_l05Farm.G4, spec_l01Src_l05Farm.R4, hw]
  repeat' first
    | (refine good_bind (gN (by assumption) (by omega)) fun y hy => ?_; obtain ⟨hy, _, _⟩ := hy)
    | (refine good_bind (gOne (by assumption) (by omega)) fun y hy => ?_)
    | (refine good_bind (gWant (by assumption)) fun y hy => ?_)
    | (refine good_bind (gWeight (by assumption)) fun y hy => ?_)
    | (refine good_cond (fun h => absurd (of_decide_eq_true h) (by omega)) fun _ => ?_)
    | (refine good_cond (fun _ => ?_) fun h => absurd (of_decide_eq_false h) (by omega))
    | (refine good_cond (fun hb => ?_) fun hb => ?_ <;> (try simp only [decide_eq_true_eq, decide_eq_false_iff_not] at hb))
    | (refine good_if (by simp only [List.length_cons, List.length_nil, maxRow]; omega) ?_)
    | (refine good_if (by omega) ?_)
    | exact gG5 k0 hx2 hx3 hx4 hx5 n t f hn o3 h3 hx d k _ _ _ _ _ _ (by omega) (by simp only [List.length_cons, List.length_nil]; omega) (by assumption)

end
theorem gFarm {s : List (Int × Unit)} {a b z : Int} (h : srcP s a z) : Good farmQ (F_spec_l01Src_l05Farm (s, a, b, z, ())) := by
  obtain ⟨k0, hk0, hk⟩ : ∃ k0, k0 = 300 + s.length ∧ 200 < k0 := ⟨_, rfl, by omega⟩
  simp only [F_spec_l01Src_l05Farm, spec_l01Src_l05Farm.FF, spec_l01Src_l05Farm.T, ← hk0]
  have hA0 : ∀ n t f s' a' b' z', srcP s' a' z' → n = 0 → Good farmQ (spec_l01Src_l05Farm.A0 (spec_l01Src_l05Farm.G2 k0 (spec_l01Src_l05Farm.A2 s a b z) (spec_l01Src_l05Farm.A3 s a b z) (spec_l01Src_l05Farm.A4 s a b z) (spec_l01Src_l05Farm.A5 s a b z) k0) s a b z n s' a' b' z' t f) := fun n t f s' a' b' z' h' hn => by
    have hz := h'.2.2.2
    have hw : w64 (5 + z') = 5 + z' := w64_in _ (by omega)
    simp only [spec_l01Src_l05Farm.A0, hw]
    repeat' first
    | (refine good_bind (gN (by assumption) (by omega)) fun y hy => ?_; obtain ⟨hy, _, _⟩ := hy)
    | (refine good_bind (gOne (by assumption) (by omega)) fun y hy => ?_)
    | (refine good_bind (gWant (by assumption)) fun y hy => ?_)
    | (refine good_bind (gWeight (by assumption)) fun y hy => ?_)
    | (refine good_cond (fun h => absurd (of_decide_eq_true h) (by omega)) fun _ => ?_)
    | (refine good_cond (fun _ => ?_) fun h => absurd (of_decide_eq_false h) (by omega))
    | (refine good_cond (fun hb => ?_) fun hb => ?_ <;> (try simp only [decide_eq_true_eq, decide_eq_false_iff_not] at hb))
    | (refine good_if (by simp only [List.length_cons, List.length_nil, maxRow]; omega) ?_)
    | (refine good_if (by omega) ?_)
      | exact gG2 k0 _ _ _ _ n t f hn (fun id s1 a1 b1 z1 h1 => gA2 s a b z id t f h1) (fun id s1 a1 b1 z1 o h1 h2 => gA3 s a b z id t f o (by omega) h1) _ (by first | omega | (rw [w64_in _ (by omega)]; omega)) (by first | omega | (rw [w64_in _ (by omega)]; omega)) k0 (by omega) _ _ _ _ (by assumption)
  have hA1 : ∀ n t f s' a' b' z' (o3 : List I4), srcP s' a' z' → 0 < n → n ≤ 31 → (o3.length : Int) = n → Good farmQ (spec_l01Src_l05Farm.A1 (spec_l01Src_l05Farm.G4 k0 (spec_l01Src_l05Farm.A2 s a b z) (spec_l01Src_l05Farm.A3 s a b z) (spec_l01Src_l05Farm.A4 s a b z) (spec_l01Src_l05Farm.A5 s a b z) k0) s a b z n s' a' b' z' t f o3) := fun n t f s' a' b' z' o3 h' hn hn2 h3 => by
    have hz := h'.2.2.2
    have hw : w64 (5 + z') = 5 + z' := w64_in _ (by omega)
    simp only [spec_l01Src_l05Farm.A1, hw]
    repeat' first
    | (refine good_bind (gN (by assumption) (by omega)) fun y hy => ?_; obtain ⟨hy, _, _⟩ := hy)
    | (refine good_bind (gOne (by assumption) (by omega)) fun y hy => ?_)
    | (refine good_bind (gWant (by assumption)) fun y hy => ?_)
    | (refine good_bind (gWeight (by assumption)) fun y hy => ?_)
    | (refine good_cond (fun h => absurd (of_decide_eq_true h) (by omega)) fun _ => ?_)
    | (refine good_cond (fun _ => ?_) fun h => absurd (of_decide_eq_false h) (by omega))
    | (refine good_cond (fun hb => ?_) fun hb => ?_ <;> (try simp only [decide_eq_true_eq, decide_eq_false_iff_not] at hb))
    | (refine good_if (by simp only [List.length_cons, List.length_nil, maxRow]; omega) ?_)
    | (refine good_if (by omega) ?_)
      | exact gG4 k0 _ _ _ _ n t f ⟨hn, hn2⟩ o3 h3 (fun id s1 a1 b1 z1 h1 => gA4 s a b z id t f o3 (by omega) h1) (fun id s1 a1 b1 z1 o h1 h2 => gA5 s a b z id t f o3 o (by omega) (by omega) h1) _ (by first | omega | (rw [w64_in _ (by omega)]; omega)) (by first | omega | (rw [w64_in _ (by omega)]; omega)) k0 (by omega) _ _ _ _ (by assumption)
  repeat' first
    | (refine good_bind (gN (by assumption) (by omega)) fun y hy => ?_; obtain ⟨hy, _, _⟩ := hy)
    | (refine good_bind (gOne (by assumption) (by omega)) fun y hy => ?_)
    | (refine good_bind (gWant (by assumption)) fun y hy => ?_)
    | (refine good_bind (gWeight (by assumption)) fun y hy => ?_)
    | (refine good_cond (fun h => absurd (of_decide_eq_true h) (by omega)) fun _ => ?_)
    | (refine good_cond (fun _ => ?_) fun h => absurd (of_decide_eq_false h) (by omega))
    | (refine good_cond (fun hb => ?_) fun hb => ?_ <;> (try simp only [decide_eq_true_eq, decide_eq_false_iff_not] at hb))
    | (refine good_if (by simp only [List.length_cons, List.length_nil, maxRow]; omega) ?_)
    | (refine good_if (by omega) ?_)
    | exact gG0 k0 _ _ _ _ _ (by first | omega | (rw [w64_in _ (by omega)]; omega)) (by first | omega | (rw [w64_in _ (by omega)]; omega)) (fun s1 a1 b1 z1 h1 h2 => hA0 _ _ _ _ _ _ _ h1 h2) (fun s1 a1 b1 z1 o h1 h2 h3 => hA1 _ _ _ _ _ _ _ o h1 h2 (by first | omega | (rw [w64_in _ (by omega)]; omega)) h3) k0 (by omega) _ _ _ _ (by assumption)
theorem drawFarm (code : List (Int × Unit)) (hc : code.length ≤ 1048576) : ∃ c l m, F_spec_DrawFarmShares (code, ()) = some (c, l, m, ()) ∧ l.length ≤ 100 ∧ m.length ≤ 200 := by
  simp only [F_spec_DrawFarmShares, spec_DrawFarmShares.T]
  obtain ⟨y, e, hy⟩ := gSource code hc
  obtain ⟨w, e2, hw⟩ := gFarm (b := y.2.2.1) hy
  rw [e]
  simp only [Option.bind_some]
  rw [e2]
  exact ⟨_, _, _, rfl, hw.1, hw.2.1⟩
end Go.Rv
