/- Plain facts: text1. -/
import Derived.Test.YtipgjgcpfppeeaaDoorM09
set_option linter.unusedVariables false
set_option linter.unusedSimpArgs false
set_option linter.unusedSectionVars false
namespace Go.Rv
/-! ### the texts of ops and of journals -/
def sp (n : Int) : List UInt8 := 32 :: Lib.itoa n
theorem sp_le (n : Int) (h : i64P n) : (sp n).length ≤ 22 := by have := itoa_le n h; simp only [sp, List.length_cons]; omega
theorem sp_lit (n : Int) : strLit [32] ++ strLit (Lib.itoa n) = strLit (sp n) := by rw [strLit_app]; rfl
def opT (k i g a b : Int) : List UInt8 :=
 if k = 1 then [103, 101, 116] ++ (sp i ++ (sp g ++ (sp a ++ sp b)))
 else if k = 2 then [114, 101, 108, 101, 97, 115, 101] ++ sp i
 else if k = 3 then [99, 97, 112] ++ (sp i ++ sp a)
 else if k = 4 then [116, 105, 99, 107]
 else if k = 5 then [114, 101, 115, 116, 97, 114, 116]
 else if k = 6 then [103, 114, 111, 117, 112] ++ (sp i ++ (sp g ++ (sp a ++ sp b)))
 else [100, 114, 111, 112] ++ sp i
theorem opT_le {k i g a b : Int} (h : i64P i ∧ i64P g ∧ i64P a ∧ i64P b) : (opT k i g a b).length ≤ 100 := by
 have h1 := sp_le i h.1
 have h2 := sp_le g h.2.1
 have h3 := sp_le a h.2.2.1
 have h4 := sp_le b h.2.2.2
 unfold opT
 repeat' split
 all_goals (simp only [List.length_append, List.length_cons, List.length_nil]; omega)
theorem specText {k i g a b : Int} (h : opB k i g a b = true) : F_spec_OpText (k, i, g, a, b, ()) = some (strLit (opT k i g a b), ()) := by
 obtain ⟨hk, hi, hg, ha, hb⟩ := opB_rng h
 have h1 := sp_le i hi
 have h2 := sp_le g hg
 have h3 := sp_le a ha
 have h4 := sp_le b hb
 simp only [F_spec_OpText, spec_OpText.T, specOp, h, Option.bind_some, Bool.not_true, cond_false, specDec i hi, specDec g hg, specDec a ha, specDec b hb, sp_lit, strLit_app, strLit_size, List.length_append, List.length_cons, List.length_nil]
 have q1 := itoa_le i hi
 have q2 := itoa_le g hg
 have q3 := itoa_le a ha
 have q4 := itoa_le b hb
 rw [if_pos (by omega), if_pos (by omega), if_pos (by omega), if_pos (by omega)]
 have big : ∀ n : Nat, n ≤ 200 → n ≤ 9223372036854775807 := fun n hn => by omega
 rcases hk with rfl | rfl | rfl | rfl | rfl | rfl | rfl
 ·rw [show ((1 : Int) == 1) = true from rfl, cond_true, if_pos (by omega), if_pos (by omega), if_pos (by omega), if_pos (by omega)]
  simp [opT, sp]
 ·show (if _ then _ else none) = _
  rw [if_pos (by omega)]
  rfl
 ·show (if _ then (if _ then _ else none) else none) = _
  rw [if_pos (by omega), if_pos (by omega)]
  simp [opT, sp]
 ·rfl
 ·rfl
 ·show (if _ then (if _ then (if _ then (if _ then _ else none) else none) else none) else none) = _
  rw [if_pos (by omega), if_pos (by omega), if_pos (by omega), if_pos (by omega)]
  simp [opT, sp]
 ·show (if _ then _ else none) = _
  rw [if_pos (by omega)]
  simp [opT, sp]
theorem specTextNo {k i g a b : Int} (h : opB k i g a b = false) : F_spec_OpText (k, i, g, a, b, ()) = some (strLit [], ()) := by
 simp only [F_spec_OpText, spec_OpText.T, specOp, h, Option.bind_some, Bool.not_false, cond_true]
def spT : List (Int × Unit) → List UInt8
 | [] => []
 | x :: r => Lib.itoa x.1 ++ r.flatMap fun y => sp y.1
theorem spT_snoc (l : List (Int × Unit)) (x : Int × Unit) (h : l ≠ []) : spT (l ++ [x]) = spT l ++ sp x.1 := by
 cases l with
 | nil => exact absurd rfl h
 | cons y r => simp [spT, List.flatMap_append]
theorem spT_le : ∀ l : List (Int × Unit), (∀ x ∈ l, i64P x.1) → (spT l).length ≤ 22 * l.length
 | [], _ => by simp [spT]
 | x :: r, h => by
  have h1 := itoa_le x.1 (h x (by simp))
  have h2 : ∀ r : List (Int × Unit), (∀ x ∈ r, i64P x.1) → (r.flatMap fun y => sp y.1).length ≤ 22 * r.length := by
   intro r hr
   induction r with
   | nil => simp
   | cons y r ih =>
    have := sp_le y.1 (hr y (by simp))
    have := ih fun x hx => hr x (by simp [hx])
    simp only [List.flatMap_cons, List.length_append, List.length_cons]
    omega
  have h3 := h2 r fun x hx => h x (by simp [hx])
  simp only [spT, List.length_append, List.length_cons]
  omega
theorem spaced_ok (l : List (Int × Unit)) (hl : l.length ≤ 1000) (h : ∀ x ∈ l, i64P x.1) : F_impl_spaced (l, ()) = some (strLit (spT l), ()) := by
 have key : ∀ (R : Type) (hx : ByteArray → Option R) (k0 : Nat) (rest done : List (Int × Unit)) (k : Nat), l = done ++ rest → rest.length < k → impl_spaced.G0 k0 hx k (strLit (spT done)) l (l.length : Int) (done.length : Int) = hx (strLit (spT l)) := by
  intro R hx k0 rest
  induction rest with
  | nil =>
   intro done k hd hk
   rw [List.append_nil] at hd
   subst hd
   cases k with
   | zero => simp at hk
   | succ k =>
    rw [impl_spaced.G0, impl_spaced.R0, decide_eq_false (by omega), cond_false]
  | cons x rest ih =>
   intro done k hd hk
   cases k with
   | zero => simp at hk
   | succ k =>
    have hlen : l.length = done.length + (rest.length + 1) := by rw [hd, List.length_append, List.length_cons]
    have hgx : rd (0, ()) l (done.length : Int) = x := by
     show l.getD (done.length : Int).toNat (0, ()) = x
     rw [Int.toNat_natCast, hd, List.getD_eq_getElem?_getD, List.getElem?_append_right (Nat.le_refl _), Nat.sub_self]
     rfl
    have hxr : i64P x.1 := h x (by rw [hd]; simp)
    have hx1 := itoa_le x.1 hxr
    have hdl := spT_le done fun y hy => h y (by rw [hd]; simp [hy])
    rw [impl_spaced.G0, impl_spaced.R0, decide_eq_true (by omega), cond_true, if_pos (by omega), hgx, F_idec x.1 hxr, Option.bind_some, Option.bind_some]
    have ih' := ih (done ++ [x]) k (by rw [hd]; simp) (by simp only [List.length_cons] at hk; omega)
    have hw : w64 ((done.length : Int) + 1) = (((done ++ [x]).length : Nat) : Int) := (w64_in _ (by omega)).trans (by simp)
    by_cases h0 : done = []
    ·subst h0
     rw [decide_eq_false (by simp), cond_false]
     simp only [strLit_app, strLit_size]
     rw [if_pos (by simp only [spT, List.length_nil]; omega), hw]
     have e : spT [] ++ Lib.itoa x.1 = spT ([] ++ [x]) := by simp [spT]
     rw [e]
     exact ih'
    ·have hpos : 0 < done.length := List.length_pos_iff.2 h0
     rw [decide_eq_true (by omega), cond_true]
     simp only [strLit_app, strLit_size, List.length_append, List.length_cons, List.length_nil]
     rw [if_pos (by omega), if_pos (by omega)]
     have e : spT done ++ [32] ++ Lib.itoa x.1 = spT (done ++ [x]) := by rw [spT_snoc _ _ h0, List.append_assoc]; rfl
     rw [e]
     rw [← hw] at ih'
     exact ih'
 exact key _ _ _ l [] _ rfl (by show l.length < 300 + l.length; omega)
def opWL : List (ByteArray × Unit) := [((strLit [103, 101, 116]), ()), ((strLit [114, 101, 108, 101, 97, 115, 101]), ()), ((strLit [99, 97, 112]), ()), ((strLit [116, 105, 99, 107]), ()), ((strLit [114, 101, 115, 116, 97, 114, 116]), ()), ((strLit [103, 114, 111, 117, 112]), ()), ((strLit [100, 114, 111, 112]), ())]
theorem opWords : F_impl_opWords () = some (opWL, [(4, ()), (1, ()), (2, ()), (0, ()), (0, ()), (4, ()), (1, ())], ()) := rfl
theorem implText1 (i g a b : Int) (h : i64P i ∧ i64P g ∧ i64P a ∧ i64P b) : F_impl_Op_text (1, i, g, a, b, ()) = some (strLit ([103, 101, 116] ++ 32 :: spT [(i, ()), (g, ()), (a, ()), (b, ())]), ()) := by
 show impl_Op_text.T 1 i g a b = _
 rw [impl_Op_text.T, opWords, Option.bind_some, w64_in _ (by omega)]
 have e2 : (1 : Int) - 1 = 0 := rfl
 have e3 : Int.toNat 0 = 0 := rfl
 simp only [e2, e3, List.getD_cons_succ, List.getD_cons_zero, opWL, strLit_size, List.length_cons, List.length_nil]
 rw [if_pos (by omega), if_pos (by omega), if_pos (by omega), show ((1 : Int) == 3) = false from rfl]
 have hs : F_impl_spaced ([(i, ()), (g, ()), (a, ()), (b, ())], ()) = some (strLit (spT [(i, ()), (g, ()), (a, ()), (b, ())]), ()) := spaced_ok _ (by simp) (by simp; exact h)
 have hle : (spT [(i, ()), (g, ()), (a, ()), (b, ())]).length ≤ 22 * 4 := spT_le [(i, ()), (g, ()), (a, ()), (b, ())] (by simp; exact h)
 rw [cond_false, show ((4 : Int) == 0) = false from rfl, cond_false]
 simp only [List.drop_zero, show ((4 : Int).toNat - 0) = 4 from rfl, List.take_succ_cons, List.take_zero]
 rw [hs, Option.bind_some]
 simp only [strLit_app, strLit_size, List.length_append, List.length_cons, List.length_nil]
 rw [if_pos (by omega), if_pos (by omega), if_pos (by omega)]
 simp only [List.append_assoc, List.cons_append, List.nil_append]
theorem implText2 (i g a b : Int) (h : i64P i) : F_impl_Op_text (2, i, g, a, b, ()) = some (strLit ([114, 101, 108, 101, 97, 115, 101] ++ 32 :: spT [(i, ())]), ()) := by
 show impl_Op_text.T 2 i g a b = _
 rw [impl_Op_text.T, opWords, Option.bind_some, w64_in _ (by omega)]
 have e2 : (2 : Int) - 1 = 1 := rfl
 have e3 : Int.toNat 1 = 1 := rfl
 simp only [e2, e3, List.getD_cons_succ, List.getD_cons_zero, opWL, strLit_size, List.length_cons, List.length_nil]
 rw [if_pos (by omega), if_pos (by omega), if_pos (by omega), show ((2 : Int) == 3) = false from rfl]
 have hs : F_impl_spaced ([(i, ())], ()) = some (strLit (spT [(i, ())]), ()) := spaced_ok _ (by simp) (by simp; exact h)
 have hle : (spT [(i, ())]).length ≤ 22 * 1 := spT_le [(i, ())] (by simp; exact h)
 rw [cond_false, show ((1 : Int) == 0) = false from rfl, cond_false]
 simp only [List.drop_zero, show ((1 : Int).toNat - 0) = 1 from rfl, List.take_succ_cons, List.take_zero]
 rw [hs, Option.bind_some]
 simp only [strLit_app, strLit_size, List.length_append, List.length_cons, List.length_nil]
 rw [if_pos (by omega), if_pos (by omega), if_pos (by omega)]
 simp only [List.append_assoc, List.cons_append, List.nil_append]
theorem implText3 (i g a b : Int) (h : i64P i ∧ i64P a) : F_impl_Op_text (3, i, g, a, b, ()) = some (strLit ([99, 97, 112] ++ 32 :: spT [(i, ()), (a, ())]), ()) := by
 show impl_Op_text.T 3 i g a b = _
 rw [impl_Op_text.T, opWords, Option.bind_some, w64_in _ (by omega)]
 have e2 : (3 : Int) - 1 = 2 := rfl
 have e3 : Int.toNat 2 = 2 := rfl
 simp only [e2, e3, List.getD_cons_succ, List.getD_cons_zero, opWL, strLit_size, List.length_cons, List.length_nil]
 rw [if_pos (by omega), if_pos (by omega), if_pos (by omega), show ((3 : Int) == 3) = true from rfl]
 have hs : F_impl_spaced ([(i, ()), (a, ())], ()) = some (strLit (spT [(i, ()), (a, ())]), ()) := spaced_ok _ (by simp) (by simp; exact h)
 have hle : (spT [(i, ()), (a, ())]).length ≤ 22 * 2 := spT_le [(i, ()), (a, ())] (by simp; exact h)
 rw [cond_true, show ((2 : Int) == 0) = false from rfl, cond_false, hs, Option.bind_some]
 simp only [strLit_app, strLit_size, List.length_append, List.length_cons, List.length_nil]
 rw [if_pos (by omega), if_pos (by omega)]
 simp only [List.append_assoc, List.cons_append, List.nil_append]
theorem implText4 (i g a b : Int) (h : True) : F_impl_Op_text (4, i, g, a, b, ()) = some (strLit ([116, 105, 99, 107]), ()) := by
 show impl_Op_text.T 4 i g a b = _
 rw [impl_Op_text.T, opWords, Option.bind_some, w64_in _ (by omega)]
 have e2 : (4 : Int) - 1 = 3 := rfl
 have e3 : Int.toNat 3 = 3 := rfl
 simp only [e2, e3, List.getD_cons_succ, List.getD_cons_zero, opWL, strLit_size, List.length_cons, List.length_nil]
 rw [if_pos (by omega), if_pos (by omega), if_pos (by omega), show ((4 : Int) == 3) = false from rfl]
 rw [cond_false, show ((0 : Int) == 0) = true from rfl, cond_true]
theorem implText5 (i g a b : Int) (h : True) : F_impl_Op_text (5, i, g, a, b, ()) = some (strLit ([114, 101, 115, 116, 97, 114, 116]), ()) := by
 show impl_Op_text.T 5 i g a b = _
 rw [impl_Op_text.T, opWords, Option.bind_some, w64_in _ (by omega)]
 have e2 : (5 : Int) - 1 = 4 := rfl
 have e3 : Int.toNat 4 = 4 := rfl
 simp only [e2, e3, List.getD_cons_succ, List.getD_cons_zero, opWL, strLit_size, List.length_cons, List.length_nil]
 rw [if_pos (by omega), if_pos (by omega), if_pos (by omega), show ((5 : Int) == 3) = false from rfl]
 rw [cond_false, show ((0 : Int) == 0) = true from rfl, cond_true]
theorem implText6 (i g a b : Int) (h : i64P i ∧ i64P g ∧ i64P a ∧ i64P b) : F_impl_Op_text (6, i, g, a, b, ()) = some (strLit ([103, 114, 111, 117, 112] ++ 32 :: spT [(i, ()), (g, ()), (a, ()), (b, ())]), ()) := by
 show impl_Op_text.T 6 i g a b = _
 rw [impl_Op_text.T, opWords, Option.bind_some, w64_in _ (by omega)]
 have e2 : (6 : Int) - 1 = 5 := rfl
 have e3 : Int.toNat 5 = 5 := rfl
 simp only [e2, e3, List.getD_cons_succ, List.getD_cons_zero, opWL, strLit_size, List.length_cons, List.length_nil]
 rw [if_pos (by omega), if_pos (by omega), if_pos (by omega), show ((6 : Int) == 3) = false from rfl]
 have hs : F_impl_spaced ([(i, ()), (g, ()), (a, ()), (b, ())], ()) = some (strLit (spT [(i, ()), (g, ()), (a, ()), (b, ())]), ()) := spaced_ok _ (by simp) (by simp; exact h)
 have hle : (spT [(i, ()), (g, ()), (a, ()), (b, ())]).length ≤ 22 * 4 := spT_le [(i, ()), (g, ()), (a, ()), (b, ())] (by simp; exact h)
 rw [cond_false, show ((4 : Int) == 0) = false from rfl, cond_false]
 simp only [List.drop_zero, show ((4 : Int).toNat - 0) = 4 from rfl, List.take_succ_cons, List.take_zero]
 rw [hs, Option.bind_some]
 simp only [strLit_app, strLit_size, List.length_append, List.length_cons, List.length_nil]
 rw [if_pos (by omega), if_pos (by omega), if_pos (by omega)]
 simp only [List.append_assoc, List.cons_append, List.nil_append]
theorem implText7 (i g a b : Int) (h : i64P i) : F_impl_Op_text (7, i, g, a, b, ()) = some (strLit ([100, 114, 111, 112] ++ 32 :: spT [(i, ())]), ()) := by
 show impl_Op_text.T 7 i g a b = _
 rw [impl_Op_text.T, opWords, Option.bind_some, w64_in _ (by omega)]
 have e2 : (7 : Int) - 1 = 6 := rfl
 have e3 : Int.toNat 6 = 6 := rfl
 simp only [e2, e3, List.getD_cons_succ, List.getD_cons_zero, opWL, strLit_size, List.length_cons, List.length_nil]
 rw [if_pos (by omega), if_pos (by omega), if_pos (by omega), show ((7 : Int) == 3) = false from rfl]
 have hs : F_impl_spaced ([(i, ())], ()) = some (strLit (spT [(i, ())]), ()) := spaced_ok _ (by simp) (by simp; exact h)
 have hle : (spT [(i, ())]).length ≤ 22 * 1 := spT_le [(i, ())] (by simp; exact h)
 rw [cond_false, show ((1 : Int) == 0) = false from rfl, cond_false]
 simp only [List.drop_zero, show ((1 : Int).toNat - 0) = 1 from rfl, List.take_succ_cons, List.take_zero]
 rw [hs, Option.bind_some]
 simp only [strLit_app, strLit_size, List.length_append, List.length_cons, List.length_nil]
 rw [if_pos (by omega), if_pos (by omega), if_pos (by omega)]
 simp only [List.append_assoc, List.cons_append, List.nil_append]
theorem implText {k i g a b : Int} (h : opB k i g a b = true) : F_impl_Op_text (k, i, g, a, b, ()) = some (strLit (opT k i g a b), ()) := by
 obtain ⟨hk, hi, hg, ha, hb⟩ := opB_rng h
 rcases hk with rfl | rfl | rfl | rfl | rfl | rfl | rfl
 ·rw [implText1 i g a b ⟨hi, hg, ha, hb⟩]; simp [opT, spT, sp]
 ·rw [implText2 i g a b hi]; simp [opT, spT, sp]
 ·rw [implText3 i g a b ⟨hi, ha⟩]; simp [opT, spT, sp]
 ·rw [implText4 i g a b trivial]; simp [opT]
 ·rw [implText5 i g a b trivial]; simp [opT]
 ·rw [implText6 i g a b ⟨hi, hg, ha, hb⟩]; simp [opT, spT, sp]
 ·rw [implText7 i g a b hi]; simp [opT, spT, sp]
end Go.Rv
