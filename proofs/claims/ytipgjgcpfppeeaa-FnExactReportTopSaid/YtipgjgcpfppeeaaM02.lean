/- Plain facts: stable1. -/
import Derived.Test.YtipgjgcpfppeeaaM01
set_option linter.unusedVariables false
set_option linter.unusedSimpArgs false
set_option linter.unusedSectionVars false
namespace Go.Rv
section
variable {α κ : Type} [DecidableEq κ] {key : α → κ} {lt : κ → κ → Prop}
/-- put behind all that are not greater -/
theorem ins_ok (hirr : ∀ a, ¬ lt a a) (htr : ∀ a b c, lt a b → lt b c → lt a c) (htri : ∀ a b, ¬ lt a b → ¬ lt b a → a = b) {out : List α} {x : α} {p : Nat} (hs : SortedK key lt out)
    (h1 : ∀ y ∈ out.take p, ¬ lt (key x) (key y)) (h2 : ∀ y, (out.drop p).head? = some y → lt (key x) (key y)) : SortedK key lt (out.take p ++ x :: out.drop p) ∧ Same key (out.take p ++ x :: out.drop p) (out ++ [x]) := by
  have hs' := hs
  unfold SortedK at hs'
  rw [← List.take_append_drop p out, List.pairwise_append] at hs'
  obtain ⟨s1, s2, s3⟩ := hs'
  have all : ∀ y ∈ out.drop p, lt (key x) (key y) := by
    cases hd : out.drop p with
    | nil => intro y hy; cases hy
    | cons z r =>
      have hz := h2 z (by rw [hd]; rfl)
      rw [hd] at s2
      intro y hy
      rcases List.mem_cons.1 hy with rfl | hy
      · exact hz
      · have hzy := (List.pairwise_cons.1 s2).1 y hy
        by_cases hl : lt (key z) (key y)
        · exact htr _ _ _ hz hl
        · rw [← htri _ _ hl hzy]; exact hz
  constructor
  · unfold SortedK
    rw [List.pairwise_append]
    refine ⟨s1, List.pairwise_cons.2 ⟨fun y hy hl => hirr _ (htr _ _ _ (all y hy) hl), s2⟩, fun a ha b hb => ?_⟩
    rcases List.mem_cons.1 hb with rfl | hb
    · exact h1 a ha
    · exact s3 a ha b hb
  · have e : out ++ [x] = out.take p ++ (out.drop p ++ [x]) := by rw [← List.append_assoc, List.take_append_drop]
    rw [e]
    refine (Same.refl _).app ?_
    refine (Same.rot (u := [x]) (v := out.drop p) fun a ha b hb hk => ?_).trans (Same.refl _)
    rw [List.mem_singleton.1 ha] at hk
    have := all b hb
    rw [hk] at this
    exact hirr _ this
/-- two sorted parts, the first not above the second -/
theorem sorted_app {u v : List α} (hu : SortedK key lt u) (hv : SortedK key lt v) (h : ∀ a ∈ u, ∀ b ∈ v, ¬ lt (key b) (key a)) : SortedK key lt (u ++ v) := List.pairwise_append.2 ⟨hu, hv, h⟩
/-- what a symmetrical merge parts: the lower half of what both hold, and the upper -/
theorem merge_parts (hirr : ∀ a, ¬ lt a a) (htr : ∀ a b c, lt a b → lt b c → lt a c) (htri : ∀ a b, ¬ lt a b → ¬ lt b a → a = b) {a1 a2 b1 b2 : List α} (ha : SortedK key lt (a1 ++ a2)) (hb : SortedK key lt (b1 ++ b2))
    (h1 : ∀ x y, a1.getLast? = some x → b2.head? = some y → ¬ lt (key y) (key x)) (h2 : ∀ x y, a2.head? = some x → b1.getLast? = some y → lt (key y) (key x)) :
    (∀ x ∈ a1 ++ b1, ∀ y ∈ a2 ++ b2, ¬ lt (key y) (key x)) ∧ Same key (a1 ++ a2 ++ (b1 ++ b2)) (a1 ++ b1 ++ (a2 ++ b2)) := by
  have le_tr : ∀ a b c : κ, ¬ lt b a → ¬ lt c b → ¬ lt c a := fun a b c hab hbc hca => by
    by_cases hl : lt a b
    · exact hbc (htr _ _ _ hca hl)
    · have := htri _ _ hl hab; subst this; exact hbc hca
  have lt_le : ∀ a b c : κ, lt a b → ¬ lt c b → lt a c := fun a b c hab hbc => by
    by_cases hl : lt b c
    · exact htr _ _ _ hab hl
    · have := htri _ _ hl hbc; subst this; exact hab
  have le_lt : ∀ a b c : κ, ¬ lt b a → lt b c → lt a c := fun a b c hab hbc => by
    by_cases hl : lt a b
    · exact htr _ _ _ hl hbc
    · have := htri _ _ hl hab; subst this; exact hbc
  obtain ⟨sa1, sa2, sa⟩ := List.pairwise_append.1 ha
  obtain ⟨sb1, sb2, sb⟩ := List.pairwise_append.1 hb
  have last : ∀ (l : List α), SortedK key lt l → ∀ x ∈ l, ∃ z, l.getLast? = some z ∧ ¬ lt (key z) (key x) := fun l hl x hx => by
    have hne : l ≠ [] := List.ne_nil_of_mem hx
    refine ⟨l.getLast hne, List.getLast?_eq_some_getLast hne, ?_⟩
    have e := List.dropLast_concat_getLast hne
    unfold SortedK at hl
    rw [← e] at hl hx
    obtain ⟨_, _, h3⟩ := List.pairwise_append.1 hl
    rcases List.mem_append.1 hx with hx | hx
    · exact h3 x hx _ (by simp)
    · rw [List.mem_singleton.1 hx]; exact hirr _
  have first : ∀ (l : List α), SortedK key lt l → ∀ x ∈ l, ∃ z, l.head? = some z ∧ ¬ lt (key x) (key z) := fun l hl x hx => by
    cases l with
    | nil => cases hx
    | cons z r =>
      refine ⟨z, rfl, ?_⟩
      rcases List.mem_cons.1 hx with rfl | hx
      · exact hirr _
      · exact (List.pairwise_cons.1 hl).1 x hx
  have strict : ∀ y ∈ b1, ∀ x ∈ a2, lt (key y) (key x) := fun y hy x hx => by
    obtain ⟨y', e1, g1⟩ := last b1 sb1 y hy
    obtain ⟨x', e2, g2⟩ := first a2 sa2 x hx
    exact le_lt _ _ _ g1 (lt_le _ _ _ (h2 x' y' e2 e1) g2)
  constructor
  · intro x hx y hy
    rcases List.mem_append.1 hx with hx | hx <;> rcases List.mem_append.1 hy with hy | hy
    · exact sa x hx y hy
    · obtain ⟨x', e1, g1⟩ := last a1 sa1 x hx
      obtain ⟨y', e2, g2⟩ := first b2 sb2 y hy
      exact le_tr _ _ _ g1 (le_tr _ _ _ (h1 x' y' e1 e2) g2)
    · exact fun hl => hirr _ (htr _ _ _ hl (strict x hx y hy))
    · exact sb x hx y hy
  · have e1 : a1 ++ a2 ++ (b1 ++ b2) = a1 ++ ((a2 ++ b1) ++ b2) := by simp
    have e2 : a1 ++ b1 ++ (a2 ++ b2) = a1 ++ ((b1 ++ a2) ++ b2) := by simp
    rw [e1, e2]
    refine (Same.refl _).app (Same.app (Same.rot fun x hx y hy e => ?_) (Same.refl _))
    have := strict y hy x hx
    rw [e] at this
    exact hirr _ this
end
end Go.Rv
