/- Plain facts: draw0. -/
import Derived.Test.YtnebddbibpbloaaM18
set_option linter.unusedVariables false
set_option linter.unusedSimpArgs false
set_option linter.unusedSectionVars false
namespace Go.Rv
/-! ### draws -/
def Good {α : Type} (Q : α → Prop) (o : Option α) : Prop := ∃ x, o = some x ∧ Q x
theorem good_some {α : Type} {Q : α → Prop} {x : α} (h : Q x) : Good Q (some x) := ⟨x, rfl, h⟩
theorem good_bind {α β : Type} {P : α → Prop} {Q : β → Prop} {o : Option α} {f : α → Option β} (h : Good P o) (hf : ∀ x, P x → Good Q (f x)) : Good Q (o.bind f) := by
  obtain ⟨x, rfl, hx⟩ := h
  exact hf x hx
theorem good_cond {α : Type} {Q : α → Prop} {b : Bool} {x y : Option α} (h1 : b = true → Good Q x) (h2 : b = false → Good Q y) : Good Q (cond b x y) := by
  cases b
  · exact h2 rfl
  · exact h1 rfl
theorem good_if {α : Type} {Q : α → Prop} {p : Prop} [Decidable p] {x : Option α} (hp : p) (h : Good Q x) : Good Q (if p then x else none) := by rw [if_pos hp]; exact h
/-- a source -/
def srcP (s : List (Int × Unit)) (a z : Int) : Prop := 0 ≤ a ∧ a ≤ s.length ∧ s.length ≤ 1048576 ∧ 0 ≤ z ∧ z ≤ 12
theorem u64_ge (z : Int) : 0 ≤ IntKind.u64.wrap z := by
  show 0 ≤ z % 18446744073709551616
  exact Int.emod_nonneg _ (by decide)
theorem draw_in (X most : Int) (h1 : 1 < most) (h2 : most ≤ 4611686018427387904) : 0 ≤ w64 (Int.tmod (IntKind.u64.wrap X) (IntKind.u64.wrap most)) ∧ w64 (Int.tmod (IntKind.u64.wrap X) (IntKind.u64.wrap most)) < most := by
  rw [u64_in most (by omega)]
  have a1 := Int.tmod_nonneg most (u64_ge X)
  have a2 := Int.tmod_lt_of_pos (IntKind.u64.wrap X) (show 0 < most by omega)
  rw [w64_in _ (by omega)]
  exact ⟨a1, a2⟩
abbrev SrcN := Int × List (Int × Unit) × Int × Int × Int × Unit
theorem gN {s : List (Int × Unit)} {a b z most : Int} (h : srcP s a z) (hm : most ≤ 4611686018427387904) : Good (fun y : SrcN => srcP y.2.1 y.2.2.1 y.2.2.2.2.1 ∧ 0 ≤ y.1 ∧ (y.1 = 0 ∨ y.1 < most)) (F_spec_l01Src_n (s, a, b, z, most, ())) := by
  simp only [F_spec_l01Src_n, spec_l01Src_n.T]
  refine good_cond (fun _ => good_some ⟨h, Int.le_refl _, Or.inl rfl⟩) fun hm' => good_cond (fun ha => ?_) fun _ => ?_
  · have ha' : a < s.length := of_decide_eq_true ha
    have hm1 : ¬ most ≤ 1 := of_decide_eq_false hm'
    refine good_if ⟨h.1, ha'⟩ ?_
    rw [if_neg (by rw [u64_in most (by omega)]; omega)]
    refine good_some ⟨?_, (draw_in _ most (by omega) hm).1, Or.inr (draw_in _ most (by omega) hm).2⟩
    obtain ⟨h1, h2, h3, h4, h5⟩ := h
    refine ⟨?_, ?_, h3, h4, h5⟩
    · show 0 ≤ w64 (a + 1)
      rw [w64_in _ (by omega)]; omega
    · show w64 (a + 1) ≤ (s.length : Int)
      rw [w64_in _ (by omega)]; omega
  · have hm1 : ¬ most ≤ 1 := of_decide_eq_false hm'
    rw [if_neg (by rw [u64_in most (by omega)]; omega)]
    exact good_some ⟨h, (draw_in _ most (by omega) hm).1, Or.inr (draw_in _ most (by omega) hm).2⟩
theorem gOne {s : List (Int × Unit)} {a b z most : Int} (h : srcP s a z) (hm : most ≤ 4611686018427387904) : Good (fun y : Bool × List (Int × Unit) × Int × Int × Int × Unit => srcP y.2.1 y.2.2.1 y.2.2.2.2.1) (F_spec_l01Src_one (s, a, b, z, most, ())) := by
  simp only [F_spec_l01Src_one, spec_l01Src_one.T]
  exact good_bind (gN h hm) fun y hy => good_some hy.1
theorem gWant {s : List (Int × Unit)} {a b z : Int} (h : srcP s a z) : Good (fun y : SrcN => srcP y.2.1 y.2.2.1 y.2.2.2.2.1) (F_spec_l01Src_l02WantOf (s, a, b, z, ())) := by
  simp only [F_spec_l01Src_l02WantOf, spec_l01Src_l02WantOf.T]
  repeat' first
    | (refine good_bind (gN (by assumption) (by omega)) fun y hy => ?_; obtain ⟨hy, _, _⟩ := hy)
    | refine good_cond (fun _ => ?_) fun _ => ?_
    | exact good_some (by assumption)
theorem gWeight {s : List (Int × Unit)} {a b z : Int} (h : srcP s a z) : Good (fun y : SrcN => srcP y.2.1 y.2.2.1 y.2.2.2.2.1) (F_spec_l01Src_l02WeightOf (s, a, b, z, ())) := by
  simp only [F_spec_l01Src_l02WeightOf, spec_l01Src_l02WeightOf.T]
  repeat' first
    | (refine good_bind (gN (by assumption) (by omega)) fun y hy => ?_; obtain ⟨hy, _, _⟩ := hy)
    | refine good_cond (fun _ => ?_) fun _ => ?_
    | exact good_some (by assumption)
theorem gSource (code : List (Int × Unit)) (hc : code.length ≤ 1048576) : Good (fun y : List (Int × Unit) × Int × Int × Int × Unit => srcP y.1 y.2.1 y.2.2.2.1) (F_spec_l01Source (code, ())) := by
  simp only [F_spec_l01Source, spec_l01Source.FF, spec_l01Source.T]
  have hA : ∀ m, Good (fun y : List (Int × Unit) × Int × Int × Int × Unit => srcP y.1 y.2.1 y.2.2.2.1) (spec_l01Source.A0 code code code 0 m 0) := fun m => by
    simp only [spec_l01Source.A0]
    rw [if_neg (by decide)]
    have e : w64 (Int.tdiv (code.length : Int) 20) = ((code.length / 20 : Nat) : Int) := by
      rw [show Int.tdiv (code.length : Int) 20 = ((code.length / 20 : Nat) : Int) from rfl]
      exact w64_in _ (by omega)
    rw [e]
    refine good_cond (fun _ => good_some ⟨Int.le_refl _, Int.natCast_nonneg _, hc, by show (0 : Int) ≤ 12; omega, Int.le_refl _⟩) fun h => good_some ⟨Int.le_refl _, Int.natCast_nonneg _, hc, Int.natCast_nonneg _, ?_⟩
    have := of_decide_eq_false h
    show ((code.length / 20 : Nat) : Int) ≤ 12
    omega
  have key : ∀ d (i : Nat) (m : Int) k, i + d = 64 → d < k → Good (fun y : List (Int × Unit) × Int × Int × Int × Unit => srcP y.1 y.2.1 y.2.2.2.1) (spec_l01Source.G0 (300 + code.length) (spec_l01Source.A0 code) k code (i : Nat) code 0 m 0) := by
    intro d
    induction d with
    | zero =>
      intro i m k hi hk
      obtain ⟨k, rfl⟩ : ∃ j, k = j + 1 := ⟨k - 1, by omega⟩
      simp only [spec_l01Source.G0, spec_l01Source.R0]
      refine good_cond (fun _ => good_cond (fun h => ?_) fun _ => hA m) fun _ => hA m
      have := of_decide_eq_true h
      omega
    | succ d ih =>
      intro i m k hi hk
      obtain ⟨k, rfl⟩ : ∃ j, k = j + 1 := ⟨k - 1, by omega⟩
      simp only [spec_l01Source.G0, spec_l01Source.R0]
      refine good_cond (fun h => good_cond (fun _ => ?_) fun _ => hA m) fun _ => hA m
      refine good_if ⟨Int.natCast_nonneg _, of_decide_eq_true h⟩ ?_
      rw [show w64 ((i : Int) + 1) = ((i + 1 : Nat) : Int) from w64_in _ (by omega)]
      exact ih (i + 1) _ k (by omega) (by omega)
  exact key 64 0 _ _ (by omega) (by omega)
end Go.Rv
