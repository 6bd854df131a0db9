/- Plain facts: text1-ops. -/
import Derived.Test.YtnoanpohmppnaaaGreatDoorM24
set_option linter.unusedVariables false
set_option linter.unusedSimpArgs false
set_option linter.unusedSectionVars false
namespace Go.Rv
/-! ### the texts of ops and of journals -/
def sp (n : Int) : List UInt8 := 32 :: Lib.itoa n
theorem sp_le (n : Int) (h : i64P n) : (sp n).length ≤ 22 := by have := itoa_le n h; simp only [sp, List.length_cons]; omega
theorem sp_lit (n : Int) : strLit [32] ++ strLit (Lib.itoa n) = strLit (sp n) := by rw [strLit_app]; rfl
def spT : List (Int × Unit) → List UInt8
 | [] => []
 | x :: r => Lib.itoa x.1 ++ r.flatMap fun y => sp y.1
theorem spT_snoc (l : List (Int × Unit)) (x : Int × Unit) (h : l ≠ []) : spT (l ++ [x]) = spT l ++ sp x.1 := by
 cases l with
 | nil => exact absurd rfl h
 | cons y r => simp [spT, List.flatMap_append]
theorem spT_le : ∀ l : List (Int × Unit), (∀ x ∈ l, i64P x.1) → (spT l).length ≤ 22 * l.length
 | [], _ => by simp [spT]
 | x :: r, h => by
  have h1 := itoa_le x.1 (h x (by simp))
  have h2 : ∀ r : List (Int × Unit), (∀ x ∈ r, i64P x.1) → (r.flatMap fun y => sp y.1).length ≤ 22 * r.length := by
   intro r hr
   induction r with
   | nil => simp
   | cons y r ih =>
    have := sp_le y.1 (hr y (by simp))
    have := ih fun x hx => hr x (by simp [hx])
    simp only [List.flatMap_cons, List.length_append, List.length_cons]
    omega
  have h3 := h2 r fun x hx => h x (by simp [hx])
  simp only [spT, List.length_append, List.length_cons]
  omega
theorem spaced_ok (l : List (Int × Unit)) (hl : l.length ≤ 1000) (h : ∀ x ∈ l, i64P x.1) : F_impl_spaced (l, ()) = some (strLit (spT l), ()) := by
 have key : ∀ (R : Type) (hx : ByteArray → Option R) (k0 : Nat) (rest done : List (Int × Unit)) (k : Nat), l = done ++ rest → rest.length < k → impl_spaced.G0 k0 hx k (strLit (spT done)) l (l.length : Int) (done.length : Int) = hx (strLit (spT l)) := by
  intro R hx k0 rest
  induction rest with
  | nil =>
   intro done k hd hk
   rw [List.append_nil] at hd
   subst hd
   cases k with
   | zero => simp at hk
   | succ k =>
    rw [impl_spaced.G0, impl_spaced.R0, decide_eq_false (by omega), cond_false]
  | cons x rest ih =>
   intro done k hd hk
   cases k with
   | zero => simp at hk
   | succ k =>
    have hlen : l.length = done.length + (rest.length + 1) := by rw [hd, List.length_append, List.length_cons]
    have hgx : rd (0, ()) l (done.length : Int) = x := by
     show l.getD (done.length : Int).toNat (0, ()) = x
     rw [Int.toNat_natCast, hd, List.getD_eq_getElem?_getD, List.getElem?_append_right (Nat.le_refl _), Nat.sub_self]
     rfl
    have hxr : i64P x.1 := h x (by rw [hd]; simp)
    have hx1 := itoa_le x.1 hxr
    have hdl := spT_le done fun y hy => h y (by rw [hd]; simp [hy])
    rw [impl_spaced.G0, impl_spaced.R0, decide_eq_true (by omega), cond_true, if_pos (by omega), hgx, F_idec x.1 hxr, Option.bind_some, Option.bind_some]
    have ih' := ih (done ++ [x]) k (by rw [hd]; simp) (by simp only [List.length_cons] at hk; omega)
    have hw : w64 ((done.length : Int) + 1) = (((done ++ [x]).length : Nat) : Int) := (w64_in _ (by omega)).trans (by simp)
    by_cases h0 : done = []
    ·subst h0
     rw [decide_eq_false (by simp), cond_false]
     simp only [strLit_app, strLit_size]
     rw [if_pos (by simp only [spT, List.length_nil]; omega), hw]
     have e : spT [] ++ Lib.itoa x.1 = spT ([] ++ [x]) := by simp [spT]
     rw [e]
     exact ih'
    ·have hpos : 0 < done.length := List.length_pos_iff.2 h0
     rw [decide_eq_true (by omega), cond_true]
     simp only [strLit_app, strLit_size, List.length_append, List.length_cons, List.length_nil]
     rw [if_pos (by omega), if_pos (by omega)]
     have e : spT done ++ [32] ++ Lib.itoa x.1 = spT (done ++ [x]) := by rw [spT_snoc _ _ h0, List.append_assoc]; rfl
     rw [e]
     rw [← hw] at ih'
     exact ih'
 exact key _ _ _ l [] _ rfl (by show l.length < 300 + l.length; omega)
end Go.Rv
