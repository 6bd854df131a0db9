/- Plain facts: ops0. -/
import Derived.Test.YtipgjgcpfppeeaaDoorM08
set_option linter.unusedVariables false
set_option linter.unusedSimpArgs false
set_option linter.unusedSectionVars false
namespace Go.Rv
/-! ### which ops are right -/
def idB (n : Int) : Bool := decide (n ≥ 1) && decide (n ≤ 1000000)
def wantB (n : Int) : Bool := decide (n ≥ 0) && decide (n ≤ 1125899906842624)
def wtB (n : Int) : Bool := decide (n ≥ 1) && decide (n ≤ 1073741824)
theorem condB (a b : Bool) : cond a (some (b, ())) (some (false, ())) = some (a && b, ()) := by cases a <;> rfl
theorem sId (n : Int) : F_spec_l02Id (n, ()) = some (idB n, ()) := condB _ _
theorem sWant (n : Int) : F_spec_l02Want (n, ()) = some (wantB n, ()) := condB _ _
theorem sWt (n : Int) : F_spec_l02Weight (n, ()) = some (wtB n, ()) := condB _ _
theorem iIn (n a b : Int) : F_impl_in (n, a, b, ()) = some (decide (a ≤ n) && decide (n ≤ b), ()) := condB _ _
theorem iId (n : Int) : F_impl_isId (n, ()) = some (idB n, ()) := by show impl_isId.T n = _; rw [impl_isId.T, iIn]; rfl
theorem iWant (n : Int) : F_impl_isWant (n, ()) = some (wantB n, ()) := by show impl_isWant.T n = _; rw [impl_isWant.T, iIn]; rfl
theorem iWt (n : Int) : F_impl_isWeight (n, ()) = some (wtB n, ()) := by show impl_isWeight.T n = _; rw [impl_isWeight.T, iIn]; rfl
def opB (k i g a b : Int) : Bool :=
 if k = 1 then idB i && ((g == 0) || idB g) && wantB a && wtB b
 else if k = 2 then idB i && (g == 0) && (a == 0) && (b == 0)
 else if k = 3 then ((i == 0) || idB i) && (g == 0) && wantB a && (b == 0)
 else if k = 4 then (i == 0) && (g == 0) && (a == 0) && (b == 0)
 else if k = 5 then (i == 0) && (g == 0) && (a == 0) && (b == 0)
 else if k = 6 then idB i && ((g == 0) || idB g) && wantB a && wtB b && decide (g < i)
 else if k = 7 then idB i && (g == 0) && (a == 0) && (b == 0)
 else false
theorem sEd3 (i g a b : Int) : F_spec_l10Edit (3, i, g, a, b, ()) = some (8, i, g, a, b, ()) := rfl
theorem sEd6 (i g a b : Int) : F_spec_l10Edit (6, i, g, a, b, ()) = some (6, i, g, a, b, ()) := rfl
theorem sEd7 (i g a b : Int) : F_spec_l10Edit (7, i, g, a, b, ()) = some (7, i, g, a, b, ()) := rfl
theorem iEd3 (i g a b : Int) : F_impl_Op_edit (3, i, g, a, b, ()) = some (8, i, g, a, b, ()) := rfl
theorem iEd6 (i g a b : Int) : F_impl_Op_edit (6, i, g, a, b, ()) = some (6, i, g, a, b, ()) := rfl
theorem iEd7 (i g a b : Int) : F_impl_Op_edit (7, i, g, a, b, ()) = some (7, i, g, a, b, ()) := rfl
theorem iEd0 (k i g a b : Int) (h3 : k ≠ 3) (h6 : k ≠ 6) (h7 : k ≠ 7) : F_impl_Op_edit (k, i, g, a, b, ()) = some (0, i, g, a, b, ()) := by
 show impl_Op_edit.T k i g a b = _
 rw [impl_Op_edit.T, beq_false_of_ne h3, beq_false_of_ne h6, beq_false_of_ne h7]; rfl
theorem sER8 (i g a b : Int) : F_spec_EditRight (8, i, g, a, b, ()) = some (((i == 0) || idB i) && (g == 0) && wantB a && (b == 0), ()) := by
 simp only [F_spec_EditRight, spec_EditRight.T, sId, sWant, sWt, Option.bind_some, bne]
 cases idB i <;> cases i == 0 <;> cases g == 0 <;> cases idB g <;> cases wantB a <;> cases wtB b <;> cases a == 0 <;> cases b == 0 <;> rfl
theorem sER6 (i g a b : Int) : F_spec_EditRight (6, i, g, a, b, ()) = some (idB i && ((g == 0) || idB g) && wantB a && wtB b, ()) := by
 simp only [F_spec_EditRight, spec_EditRight.T, sId, sWant, sWt, Option.bind_some, bne]
 cases idB i <;> cases i == 0 <;> cases g == 0 <;> cases idB g <;> cases wantB a <;> cases wtB b <;> cases a == 0 <;> cases b == 0 <;> rfl
theorem sER7 (i g a b : Int) : F_spec_EditRight (7, i, g, a, b, ()) = some (idB i && (g == 0) && (a == 0) && (b == 0), ()) := by
 simp only [F_spec_EditRight, spec_EditRight.T, sId, sWant, sWt, Option.bind_some, bne]
 cases idB i <;> cases i == 0 <;> cases g == 0 <;> cases idB g <;> cases wantB a <;> cases wtB b <;> cases a == 0 <;> cases b == 0 <;> rfl
theorem sER0 (i g a b : Int) : F_spec_EditRight (0, i, g, a, b, ()) = some (false, ()) := by
 simp only [F_spec_EditRight, spec_EditRight.T, sId, sWant, sWt, Option.bind_some, bne]
 cases idB i <;> cases i == 0 <;> cases g == 0 <;> cases idB g <;> cases wantB a <;> cases wtB b <;> cases a == 0 <;> cases b == 0 <;> rfl
theorem iER8 (i g a b : Int) : F_impl_EditRight (8, i, g, a, b, ()) = some (((i == 0) || idB i) && (g == 0) && wantB a && (b == 0), ()) := by
 simp only [F_impl_EditRight, impl_EditRight.T, iId, iWant, iWt, Option.bind_some, bne]
 cases idB i <;> cases i == 0 <;> cases g == 0 <;> cases idB g <;> cases wantB a <;> cases wtB b <;> cases a == 0 <;> cases b == 0 <;> rfl
theorem iER6 (i g a b : Int) : F_impl_EditRight (6, i, g, a, b, ()) = some (idB i && ((g == 0) || idB g) && wantB a && wtB b, ()) := by
 simp only [F_impl_EditRight, impl_EditRight.T, iId, iWant, iWt, Option.bind_some, bne]
 cases idB i <;> cases i == 0 <;> cases g == 0 <;> cases idB g <;> cases wantB a <;> cases wtB b <;> cases a == 0 <;> cases b == 0 <;> rfl
theorem iER7 (i g a b : Int) : F_impl_EditRight (7, i, g, a, b, ()) = some (idB i && (g == 0) && (a == 0) && (b == 0), ()) := by
 simp only [F_impl_EditRight, impl_EditRight.T, iId, iWant, iWt, Option.bind_some, bne]
 cases idB i <;> cases i == 0 <;> cases g == 0 <;> cases idB g <;> cases wantB a <;> cases wtB b <;> cases a == 0 <;> cases b == 0 <;> rfl
theorem iER0 (i g a b : Int) : F_impl_EditRight (0, i, g, a, b, ()) = some (false, ()) := by
 simp only [F_impl_EditRight, impl_EditRight.T, iId, iWant, iWt, Option.bind_some, bne]
 cases idB i <;> cases i == 0 <;> cases g == 0 <;> cases idB g <;> cases wantB a <;> cases wtB b <;> cases a == 0 <;> cases b == 0 <;> rfl
theorem specOp (k i g a b : Int) : F_spec_l10Op (k, i, g, a, b, ()) = some (opB k i g a b, ()) := by
 simp only [F_spec_l10Op, spec_l10Op.T, sId, sWant, sWt, Option.bind_some]
 unfold opB
 by_cases k1 : k = 1
 ·subst k1
  cases idB i <;> cases g == 0 <;> cases idB g <;> cases wantB a <;> rfl
 by_cases k2 : k = 2
 ·subst k2
  cases idB i <;> cases g == 0 <;> cases a == 0 <;> cases b == 0 <;> rfl
 by_cases k3 : k = 3
 ·subst k3
  simp only [bne, beq_self_eq_true, sEd3, sER8, Option.bind_some]
  cases idB i <;> cases i == 0 <;> cases g == 0 <;> cases idB g <;> cases wantB a <;> cases b == 0 <;> rfl
 by_cases k4 : k = 4
 ·subst k4
  cases i == 0 <;> cases g == 0 <;> cases a == 0 <;> cases b == 0 <;> rfl
 by_cases k5 : k = 5
 ·subst k5
  cases i == 0 <;> cases g == 0 <;> cases a == 0 <;> cases b == 0 <;> rfl
 by_cases k6 : k = 6
 ·subst k6
  simp only [bne, beq_self_eq_true, sEd6, sER6, Option.bind_some]
  cases idB i <;> cases g == 0 <;> cases idB g <;> cases wantB a <;> cases wtB b <;> cases decide (g < i) <;> rfl
 by_cases k7 : k = 7
 ·subst k7
  simp only [bne, beq_self_eq_true, sEd7, sER7, Option.bind_some]
  cases idB i <;> cases g == 0 <;> cases idB g <;> cases a == 0 <;> cases b == 0 <;> rfl
 rw [if_neg k1, if_neg k2, if_neg k3, if_neg k4, if_neg k5, if_neg k6, if_neg k7]
 rw [beq_false_of_ne k1, beq_false_of_ne k2, beq_false_of_ne k3, beq_false_of_ne k4, beq_false_of_ne k5, beq_false_of_ne k6, beq_false_of_ne k7]
 rfl
theorem implOp (k i g a b : Int) : F_impl_OpRight (k, i, g, a, b, ()) = some (opB k i g a b, ()) := by
 simp only [F_impl_OpRight, impl_OpRight.T, iId, iWant, iWt, Option.bind_some, F_impl_isEdit, impl_isEdit.T]
 unfold opB
 by_cases k1 : k = 1
 ·subst k1
  cases idB i <;> cases g == 0 <;> cases idB g <;> cases wantB a <;> rfl
 by_cases k2 : k = 2
 ·subst k2
  simp only [beq_self_eq_true]
  cases idB i <;> cases g == 0 <;> cases a == 0 <;> cases b == 0 <;> rfl
 by_cases k3 : k = 3
 ·subst k3
  simp only [bne, beq_self_eq_true, iEd3, iER8, Option.bind_some]
  cases idB i <;> cases i == 0 <;> cases g == 0 <;> cases idB g <;> cases wantB a <;> cases b == 0 <;> rfl
 by_cases k4 : k = 4
 ·subst k4
  simp only [beq_self_eq_true]
  cases i == 0 <;> cases g == 0 <;> cases a == 0 <;> cases b == 0 <;> rfl
 by_cases k5 : k = 5
 ·subst k5
  simp only [beq_self_eq_true]
  cases i == 0 <;> cases g == 0 <;> cases a == 0 <;> cases b == 0 <;> rfl
 by_cases k6 : k = 6
 ·subst k6
  simp only [bne, beq_self_eq_true, iEd6, iER6, Option.bind_some]
  cases idB i <;> cases g == 0 <;> cases idB g <;> cases wantB a <;> cases wtB b <;> cases decide (g < i) <;> rfl
 by_cases k7 : k = 7
 ·subst k7
  simp only [bne, beq_self_eq_true, iEd7, iER7, Option.bind_some]
  cases idB i <;> cases g == 0 <;> cases idB g <;> cases a == 0 <;> cases b == 0 <;> rfl
 rw [if_neg k1, if_neg k2, if_neg k3, if_neg k4, if_neg k5, if_neg k6, if_neg k7]
 rw [beq_false_of_ne k1, beq_false_of_ne k2, beq_false_of_ne k4, beq_false_of_ne k5]
 rw [iEd0 k i g a b k3 k6 k7, Option.bind_some, iER0]
 rfl
theorem opB_rng {k i g a b : Int} (h : opB k i g a b = true) : (k = 1 ∨ k = 2 ∨ k = 3 ∨ k = 4 ∨ k = 5 ∨ k = 6 ∨ k = 7) ∧ i64P i ∧ i64P g ∧ i64P a ∧ i64P b := by
 simp only [opB, idB, wantB, wtB] at h
 split at h
 ·simp at h; omega
 split at h
 ·simp at h; omega
 split at h
 ·simp at h; omega
 split at h
 ·simp at h; omega
 split at h
 ·simp at h; omega
 split at h
 ·simp at h; omega
 split at h
 ·simp at h; omega
 ·cases h
end Go.Rv
