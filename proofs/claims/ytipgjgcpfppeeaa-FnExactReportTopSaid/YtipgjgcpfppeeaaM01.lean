/- Plain facts: stable0. -/
import Derived.Test.YtipgjgcpfppeeaaM00
set_option linter.unusedVariables false
set_option linter.unusedSimpArgs false
set_option linter.unusedSectionVars false
namespace Go.Rv
/-! ### an order kept among equals -/
section
variable {α κ : Type} [DecidableEq κ] (key : α → κ) (lt : κ → κ → Prop)
/-- the same things, those of one key in the same order -/
def Same (xs ys : List α) : Prop := ∀ k, xs.filter (fun x => decide (key x = k)) = ys.filter fun x => decide (key x = k)
def SortedK (xs : List α) : Prop := xs.Pairwise fun a b => ¬ lt (key b) (key a)
variable {key} {lt}
theorem Same.refl (xs : List α) : Same key xs xs := fun _ => rfl
theorem Same.symm {xs ys : List α} (h : Same key xs ys) : Same key ys xs := fun k => (h k).symm
theorem Same.trans {xs ys zs : List α} (h : Same key xs ys) (g : Same key ys zs) : Same key xs zs := fun k => (h k).trans (g k)
theorem Same.app {a b c d : List α} (h : Same key a b) (g : Same key c d) : Same key (a ++ c) (b ++ d) := fun k => by rw [List.filter_append, List.filter_append, h k, g k]
theorem Same.mem {xs ys : List α} (h : Same key xs ys) {x : α} (hx : x ∈ xs) : x ∈ ys := by
  have : x ∈ xs.filter fun y => decide (key y = key x) := List.mem_filter.2 ⟨hx, by simp⟩
  rw [h] at this
  exact (List.mem_filter.1 this).1
theorem filter_none {v : List α} {k : κ} (h : ∀ y ∈ v, key y ≠ k) : v.filter (fun x => decide (key x = k)) = [] := by
  rw [List.filter_eq_nil_iff]
  intro y hy
  simpa using h y hy
/-- two parts that share no key change places -/
theorem Same.rot {u v : List α} (h : ∀ x ∈ u, ∀ y ∈ v, key x ≠ key y) : Same key (u ++ v) (v ++ u) := fun k => by
  rw [List.filter_append, List.filter_append]
  by_cases hu : ∃ x ∈ u, key x = k
  · obtain ⟨x, hx, rfl⟩ := hu
    rw [filter_none (v := v) fun y hy e => h x hx y hy e.symm, List.append_nil, List.nil_append]
  · rw [filter_none (v := u) fun x hx e => hu ⟨x, hx, e⟩, List.append_nil, List.nil_append]
theorem Same.length {xs ys : List α} (hs : SortedK key lt xs) (h : Same key xs ys) (hy : ys = []) : xs = [] := by
  subst hy
  cases xs with
  | nil => rfl
  | cons x t => have := h.mem (List.mem_cons_self (a := x) (l := t)); simp at this
theorem Same.uniq (htri : ∀ a b, ¬ lt a b → ¬ lt b a → a = b) : ∀ (xs ys : List α), SortedK key lt xs → SortedK key lt ys → Same key xs ys → xs = ys
  | [], ys, _, _, h => by
    cases ys with
    | nil => rfl
    | cons y u => have := h.symm.mem (List.mem_cons_self (a := y) (l := u)); simp at this
  | x :: t, [], _, _, h => by have := h.mem (List.mem_cons_self (a := x) (l := t)); simp at this
  | x :: t, y :: u, hx, hy, h => by
    have hx' := List.pairwise_cons.1 hx
    have hy' := List.pairwise_cons.1 hy
    have irr : ∀ a : κ, ¬ lt a a ∨ True := fun _ => Or.inr trivial
    have e : key x = key y := by
      have h1 := h.mem (List.mem_cons_self (a := x) (l := t))
      have h2 := h.symm.mem (List.mem_cons_self (a := y) (l := u))
      rcases List.mem_cons.1 h1 with h1 | h1
      · rw [h1]
      · rcases List.mem_cons.1 h2 with h2 | h2
        · rw [h2]
        · exact htri _ _ (hx'.1 _ h2 |> fun q => q |> fun q => by
            intro hl
            exact hy'.1 _ h1 hl) (hx'.1 _ h2)
    have hk := h (key x)
    simp only [List.filter_cons, decide_true, if_true, e.symm] at hk
    have hxy := (List.cons.inj hk).1
    subst hxy
    congr 1
    refine Same.uniq htri t u hx'.2 hy'.2 fun k => ?_
    have hk := h k
    simp only [List.filter_cons] at hk
    split at hk
    · exact (List.cons.inj hk).2
    · exact hk
end
end Go.Rv
