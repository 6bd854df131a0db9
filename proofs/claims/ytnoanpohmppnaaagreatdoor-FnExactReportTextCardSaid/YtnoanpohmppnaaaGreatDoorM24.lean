/- Plain facts: text0. -/
import Derived.Test.YtnoanpohmppnaaaGreatDoorM23
set_option linter.unusedVariables false
set_option linter.unusedSimpArgs false
set_option linter.unusedSectionVars false
namespace Go.Rv
/-! ### words as lists of bytes -/
theorem strLit_app (a b : List UInt8) : strLit a ++ strLit b = strLit (a ++ b) := by
 apply ByteArray.ext
 show (strLit a ++ strLit b).data = _
 rw [ByteArray.data_append]
 simp [strLit]
theorem strLit_size (a : List UInt8) : (strLit a).size = a.length := by simp [strLit, ByteArray.size]
theorem strLit_toList (s : ByteArray) : ∃ l, s = strLit l := ⟨s.data.toList, by simp [strLit]⟩
theorem decS_lit (n : Int) : decS n = strLit (Lib.itoa n) := rfl
theorem bytes1 (z : Int) : bytesOf [(z, ())] = strLit [UInt8.ofNat z.toNat] := rfl
theorem seq_self (s : ByteArray) : seq s s = true := by unfold seq; exact beq_self_eq_true _
abbrev i64P (n : Int) : Prop := -9223372036854775808 ≤ n ∧ n ≤ 9223372036854775807
theorem itoa_le (n : Int) (h : i64P n) : (Lib.itoa n).length ≤ 21 := Lib.itoa_length_le n h.1 h.2
theorem F_idec (n : Int) (h : i64P n) : F_impl_dec (n, ()) = some (strLit (Lib.itoa n), ()) := by
 show impl_dec.T n = _
 rw [impl_dec.T, F_fmt n h]
 rfl
theorem dec_step (m : Nat) (out : List UInt8) (h : 10 ≤ m) : Lib.decDigits m ++ out = Lib.decDigits (m / 10) ++ (UInt8.ofNat (48 + m % 10) :: out) := by
 rw [Lib.decDigits, dif_neg (by omega)]
 simp
theorem dec_last (m : Nat) (h : m < 10) : Lib.decDigits m = [UInt8.ofNat (48 + m)] := by rw [Lib.decDigits, dif_pos h]
theorem tdiv_nat (m : Nat) : Int.tdiv (m : Int) 10 = ((m / 10 : Nat) : Int) := by rw [Int.tdiv_eq_ediv_of_nonneg (by omega)]; omega
theorem tmod_nat (m : Nat) : Int.tmod (m : Int) 10 = ((m % 10 : Nat) : Int) := by rw [Int.tmod_eq_emod_of_nonneg (by omega)]; omega
theorem tdiv_neg (m : Nat) : Int.tdiv (-(m : Int)) 10 = -((m / 10 : Nat) : Int) := by rw [Int.neg_tdiv, tdiv_nat]
theorem tmod_neg (m : Nat) : Int.tmod (-(m : Int)) 10 = -((m % 10 : Nat) : Int) := by rw [Int.neg_tmod, tmod_nat]
theorem specDec (n : Int) (h : i64P n) : F_spec_l01Dec (n, ()) = some (strLit (Lib.itoa n), ()) := by
 have key : ∀ (R : Type) (hx : Bool → ByteArray → Option R) (k0 : Nat) (neg : Bool) (k m : Nat) (out : List UInt8) (n : Int) (f : Nat), k < f → 0 < m → m ≤ 9223372036854775808 → m < 10 ^ k → out.length + k ≤ 300 → n = (if neg then -(m : Int) else (m : Int)) → spec_l01Dec.G0 k0 hx f n neg (strLit out) = hx neg (strLit (Lib.decDigits m ++ out)) := by
  intro R hx k0 neg k
  induction k with
  | zero => intro m out n f _ h0 _ h1; simp at h1; omega
  | succ k ih =>
   intro m out n f hf h0 hm h1 h2 hn
   obtain ⟨f, rfl⟩ : ∃ f', f = f' + 1 := ⟨f - 1, by omega⟩
   obtain ⟨g, rfl⟩ : ∃ g, f = g + 1 := ⟨f - 1, by omega⟩
   have hp : (10 : Nat) ^ (k + 1) = 10 * 10 ^ k := by rw [Nat.pow_succ, Nat.mul_comm]
   rw [spec_l01Dec.G0, spec_l01Dec.R0]
   have hne : (n != 0) = true := by
    subst hn
    cases neg <;> simp <;> omega
   rw [hne, cond_true, if_neg (by omega)]
   have nxt : ∀ d : Int, d = ((m % 10 : Nat) : Int) → (if (bytesOf [((IntKind.u8.wrap (w64 (48 + d))), ())]).size + (strLit out).size ≤ 9223372036854775807 then if (10 : Int) = 0 then none else spec_l01Dec.G0 k0 hx (g + 1) (w64 (Int.tdiv n 10)) neg ((bytesOf [((IntKind.u8.wrap (w64 (48 + d))), ())]) ++ strLit out) else none) = hx neg (strLit (Lib.decDigits m ++ out)) := by
    intro d hd
    subst hd
    rw [w64_in _ (by omega), show IntKind.u8.wrap (48 + ((m % 10 : Nat) : Int)) = ((48 + m % 10 : Nat) : Int) by rw [IntWalk.u8_in _ (by omega)]; omega]
    rw [bytes1, strLit_app, strLit_size, strLit_size, Int.toNat_natCast]
    rw [if_pos (by simp only [List.length_cons, List.length_nil]; omega), if_neg (by omega)]
    have hq : w64 (Int.tdiv n 10) = (if neg then -((m / 10 : Nat) : Int) else ((m / 10 : Nat) : Int)) := by
     subst hn
     cases neg
     ·simp only [Bool.false_eq_true, if_false]; rw [tdiv_nat, w64_in _ (by omega)]
     ·simp only [if_true]; rw [tdiv_neg, w64_in _ (by omega)]
    by_cases hlt : m < 10
    ·rw [dec_last m hlt, hq]
     have e0 : m / 10 = 0 := by omega
     rw [spec_l01Dec.G0, spec_l01Dec.R0, e0, show m % 10 = m by omega]
     cases neg <;> rfl
    ·rw [dec_step m out (by omega)]
     exact ih (m / 10) _ _ _ (by omega) (by omega) (by omega) (by rw [hp] at h1; omega) (by simp only [List.length_append, List.length_cons, List.length_nil]; omega) hq
   by_cases hneg : neg = true ∧ m % 10 ≠ 0
   ·obtain ⟨rfl, hm0⟩ := hneg
    have en : n = -(m : Int) := by rw [hn]; rfl
    have et : Int.tmod n 10 = -((m % 10 : Nat) : Int) := by rw [en, tmod_neg]
    rw [et, decide_eq_true (by omega), cond_true, w64_in (0 - -((m % 10 : Nat) : Int)) (by omega)]
    exact nxt _ (by omega)
   ·have et : Int.tmod n 10 = ((m % 10 : Nat) : Int) := by
     cases neg with
     | false => rw [hn]; simp only [Bool.false_eq_true, if_false]; exact tmod_nat m
     | true =>
      have : m % 10 = 0 := by
       rcases Nat.eq_zero_or_pos (m % 10) with h | h
       ·exact h
       ·exact absurd ⟨rfl, by omega⟩ hneg
      rw [hn]; simp only [if_true]; rw [tmod_neg, this]; rfl
    rw [et, decide_eq_false (by omega), cond_false]
    exact nxt _ rfl
 show spec_l01Dec.FF 300 n = _
 rw [spec_l01Dec.FF, spec_l01Dec.T]
 by_cases h0 : n = 0
 ·subst h0
  have : Lib.itoa 0 = [48] := by
   unfold Lib.itoa
   rw [if_neg (by omega), dec_last _ (by simp)]
   rfl
  rw [this]
  rfl
 ·rw [show (n == 0) = false by simpa using h0, cond_false]
  obtain ⟨h1, h2⟩ := h
  have hpow : (9223372036854775808 : Nat) < 10 ^ 20 := by decide
  have hbig : n.natAbs < 10 ^ 20 := Nat.lt_of_le_of_lt (by omega : n.natAbs ≤ 9223372036854775808) hpow
  rw [show strLit [] = strLit ([] : List UInt8) from rfl]
  rw [key _ (spec_l01Dec.A0 n) 300 (decide (n < 0)) 20 n.natAbs [] n 300 (by omega) (by omega) (by omega) hbig (by simp) (by by_cases hn : n < 0 <;> simp [hn] <;> omega)]
  rw [List.append_nil, spec_l01Dec.A0]
  by_cases hn : n < 0
  ·rw [decide_eq_true hn, cond_true]
   have hl : (Lib.decDigits n.natAbs).length ≤ 21 := by
    have := itoa_le n ⟨h1, h2⟩
    rw [show n = -(n.natAbs : Int) by omega, Lib.itoa_neg _ (by omega), List.length_cons] at this
    omega
   rw [strLit_size, strLit_size, if_pos (by simp only [List.length_cons, List.length_nil]; omega), strLit_app]
   congr 2
   unfold Lib.itoa
   rw [if_pos hn]
   rfl
  ·rw [decide_eq_false hn, cond_false]
   congr 2
   unfold Lib.itoa
   rw [if_neg hn, show n.natAbs = n.toNat by omega]
end Go.Rv
