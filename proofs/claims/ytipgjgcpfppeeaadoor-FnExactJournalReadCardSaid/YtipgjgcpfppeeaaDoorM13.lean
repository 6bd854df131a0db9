/- Plain facts: read0. -/
import Derived.Test.YtipgjgcpfppeeaaDoorM12
set_option linter.unusedVariables false
set_option linter.unusedSimpArgs false
set_option linter.unusedSectionVars false
namespace Go.Rv
/-! ### a row of bytes cut at one byte; numbers read -/
def splitL (c : UInt8) : List UInt8 → List (List UInt8)
 | [] => [[]]
 | b :: l => if b = c then [] :: splitL c l else match splitL c l with
  | [] => [[b]]
  | h :: t => (b :: h) :: t
theorem splitL_miss (c : UInt8) : ∀ s : List UInt8, c ∉ s → splitL c s = [s]
 | [], _ => rfl
 | b :: l, h => by
  simp only [List.mem_cons, not_or] at h
  rw [splitL, if_neg fun e => h.1 e.symm, splitL_miss c l h.2]
theorem splitL_hit (c : UInt8) (r : List UInt8) : ∀ p : List UInt8, c ∉ p → splitL c (p ++ c :: r) = p :: splitL c r
 | [], _ => by rw [List.nil_append, splitL, if_pos rfl]
 | b :: p, h => by
  simp only [List.mem_cons, not_or] at h
  rw [List.cons_append, splitL, if_neg fun e => h.1 e.symm, splitL_hit c r p h.2]
theorem splitL_cases (c : UInt8) : ∀ s : List UInt8, c ∉ s ∨ ∃ p r, s = p ++ c :: r ∧ c ∉ p
 | [] => Or.inl (by simp)
 | b :: l => by
  by_cases hb : b = c
  ·exact Or.inr ⟨[], l, by rw [hb]; rfl, by simp⟩
  ·rcases splitL_cases c l with h | ⟨p, r, h1, h2⟩
   ·exact Or.inl (by simp only [List.mem_cons, not_or]; exact ⟨fun e => hb e.symm, h⟩)
   ·exact Or.inr ⟨b :: p, r, by rw [h1]; rfl, by simp only [List.mem_cons, not_or]; exact ⟨fun e => hb e.symm, h2⟩⟩
theorem index1_miss (c : UInt8) : ∀ s : List UInt8, c ∉ s → Lib.index s [c] = -1
 | [], _ => rfl
 | b :: l, h => by
  simp only [List.mem_cons, not_or] at h
  rw [Lib.index, index1_miss c l h.2]
  simp [h.1]
theorem index1_hit (c : UInt8) (r : List UInt8) : ∀ p : List UInt8, c ∉ p → Lib.index (p ++ c :: r) [c] = p.length
 | [], _ => by simp [Lib.index]
 | b :: p, h => by
  simp only [List.mem_cons, not_or] at h
  rw [List.cons_append, Lib.index, index1_hit c r p h.2]
  have e2 : ((p.length : Int) == -1) = false := by rw [beq_eq_false_iff_ne]; omega
  simp [h.1, e2]
theorem split1 (c : UInt8) : ∀ (n : Nat) (s : List UInt8), s.length ≤ n → Lib.splitK [c] 0 (Lib.count s [c]) s = splitL c s := by
 intro n
 induction n with
 | zero =>
  intro s hs
  have : s = [] := List.length_eq_zero_iff.1 (by omega)
  subst this
  rfl
 | succ n ih =>
  intro s hs
  rcases splitL_cases c s with h | ⟨p, r, rfl, hp⟩
  ·rw [Lib.count_miss (index1_miss c s h), splitL_miss c s h]
   rfl
  ·have hi := index1_hit c r p hp
   have hd : (p ++ c :: r).drop (p.length + [c].length) = r := by
    rw [List.drop_append]
    simp
   rw [Lib.count_hit (by simp) hi, hd, Nat.add_comm, Lib.splitK, hi]
   have e : ((p.length : Int) == -1) = false := by rw [beq_eq_false_iff_ne]; omega
   rw [e]
   simp only [Bool.false_eq_true, if_false, Int.toNat_natCast, hd, Nat.add_zero]
   rw [ih r (by simp only [List.length_append, List.length_cons] at hs; omega), splitL_hit c r p hp, List.take_left]
/-- pieces put together again -/
def joinL (c : UInt8) : List (List UInt8) → List UInt8
 | [] => []
 | w :: ws => w ++ ws.flatMap fun x => c :: x
theorem splitL_ne (c : UInt8) : ∀ s : List UInt8, splitL c s ≠ []
 | [] => by simp [splitL]
 | b :: l => by
  rw [splitL]
  split
  ·simp
  ·split <;> simp
theorem join_split (c : UInt8) : ∀ s : List UInt8, joinL c (splitL c s) = s
 | [] => rfl
 | b :: l => by
  have ih := join_split c l
  have hne := splitL_ne c l
  rw [splitL]
  split
  ·rename_i hb
   cases hs : splitL c l with
   | nil => exact absurd hs hne
   | cons h t =>
    rw [hs] at ih
    simp only [joinL, List.flatMap_cons, List.nil_append, List.cons_append] at ih ⊢
    rw [ih, hb]
  ·cases hs : splitL c l with
   | nil => exact absurd hs hne
   | cons h t =>
    rw [hs] at ih
    simp only [joinL, List.cons_append] at ih ⊢
    rw [ih]
theorem split_join' (c : UInt8) : ∀ (ws : List (List UInt8)) (w : List UInt8), c ∉ w → (∀ x ∈ ws, c ∉ x) → splitL c (joinL c (w :: ws)) = w :: ws
 | [], w, h, _ => by simp only [joinL, List.flatMap_nil, List.append_nil]; exact splitL_miss c w h
 | x :: ws, w, h, hs => by
  have e : joinL c (w :: x :: ws) = w ++ c :: joinL c (x :: ws) := by simp [joinL]
  rw [e, splitL_hit c _ w h, split_join' c ws x (hs x (by simp)) fun y hy => hs y (by simp [hy])]
theorem split_free (c : UInt8) : ∀ (s : List UInt8), ∀ x ∈ splitL c s, c ∉ x := by
 have key : ∀ (n : Nat) (s : List UInt8), s.length ≤ n → ∀ x ∈ splitL c s, c ∉ x := by
  intro n
  induction n with
  | zero =>
   intro s hs x hx
   have : s = [] := List.length_eq_zero_iff.1 (by omega)
   subst this
   rw [splitL, List.mem_singleton] at hx
   rw [hx]; simp
  | succ n ih =>
   intro s hs x hx
   rcases splitL_cases c s with h | ⟨p, r, rfl, hp⟩
   ·rw [splitL_miss c s h, List.mem_singleton] at hx
    rw [hx]; exact h
   ·rw [splitL_hit c r p hp] at hx
    rcases List.mem_cons.1 hx with rfl | hx
    ·exact hp
    ·exact ih r (by simp only [List.length_append, List.length_cons] at hs; omega) x hx
 exact fun s => key _ s (Nat.le_refl _)
theorem digit_le (u : Nat) : ∀ b ∈ Lib.decDigits u, 48 ≤ b.toNat ∧ b.toNat ≤ 57 := by
 induction u using Nat.strongRecOn with
 | _ u ih =>
  intro b hb
  have one : ∀ d : Nat, d < 10 → 48 ≤ (UInt8.ofNat (48 + d)).toNat ∧ (UInt8.ofNat (48 + d)).toNat ≤ 57 := fun d hd => by
   rw [UInt8.toNat_ofNat']
   omega
  rw [Lib.decDigits] at hb
  split at hb
  ·rename_i h
   rw [List.mem_singleton] at hb
   rw [hb]; exact one u h
  ·rcases List.mem_append.1 hb with hb | hb
   ·exact ih (u / 10) (by omega) b hb
   ·rw [List.mem_singleton] at hb
    rw [hb]; exact one _ (by omega)
theorem itoa_byte (n : Int) : ∀ b ∈ Lib.itoa n, 45 ≤ b.toNat ∧ b.toNat ≤ 57 := by
 intro b hb
 unfold Lib.itoa at hb
 split at hb
 ·rcases List.mem_cons.1 hb with rfl | hb
  ·decide
  ·have := digit_le _ b hb; omega
 ·have := digit_le _ b hb; omega
theorem itoa_free (n : Int) (c : UInt8) (h : c.toNat < 45) : c ∉ Lib.itoa n := fun hc => by have := itoa_byte n c hc; omega
theorem dec_ne (u : Nat) : Lib.decDigits u ≠ [] := by
 rw [Lib.decDigits]
 split <;> simp
theorem parse_app (M : Nat) (b : List UInt8) : ∀ (a : List UInt8) (acc u : Nat), Lib.parseUintM M acc a = .ok u → Lib.parseUintM M acc (a ++ b) = Lib.parseUintM M u b
 | [], acc, u, h => by
  simp only [Lib.parseUintM] at h
  injection h with h
  rw [h]; rfl
 | c :: a, acc, u, h => by
  rw [List.cons_append]
  simp only [Lib.parseUintM] at h ⊢
  split at h
  ·rename_i h1
   rw [if_pos h1]
   split at h
   ·cases h
   ·rename_i h2
    rw [if_neg h2]
    split at h
    ·cases h
    ·rename_i h3
     rw [if_neg h3]
     exact parse_app M b a _ u h
  ·cases h
theorem parse_dec (u : Nat) (h : u ≤ 9223372036854775808) : Lib.parseUintM 18446744073709551615 0 (Lib.decDigits u) = .ok u := by
 induction u using Nat.strongRecOn with
 | _ u ih =>
  have one : ∀ acc d : Nat, d < 10 → acc * 10 + d ≤ 9223372036854775808 → Lib.parseUintM 18446744073709551615 acc [UInt8.ofNat (48 + d)] = .ok (acc * 10 + d) := fun acc d hd ha => by
   have e : (UInt8.ofNat (48 + d)).toNat = 48 + d := by rw [UInt8.toNat_ofNat']; omega
   simp only [Lib.parseUintM, e]
   rw [if_pos (by omega), if_neg (by omega), if_neg (by omega)]
   congr 1
   omega
  rw [Lib.decDigits]
  split
  ·rename_i hu
   have := one 0 u hu (by omega)
   rw [Nat.zero_mul, Nat.zero_add] at this
   exact this
  ·rename_i hu
   rw [parse_app _ _ _ 0 (u / 10) (ih (u / 10) (by omega) (by omega)), one (u / 10) (u % 10) (by omega) (by omega)]
   congr 1
   omega
theorem parse_itoa (n : Int) (h : -9223372036854775808 ≤ n ∧ n ≤ 9223372036854775807) : Lib.parseIntB 64 (Lib.itoa n) = .ok n := by
 have e64 : (2 : Nat) ^ 64 - 1 = 18446744073709551615 := by decide
 have e63 : (2 : Nat) ^ (64 - 1) = 9223372036854775808 := by decide
 unfold Lib.itoa
 split
 ·rename_i hn
  have hd := dec_ne n.natAbs
  simp only [Lib.parseIntB, Lib.parseUintB, e64, e63]
  have c45 : (45 : UInt8).toNat = 45 := rfl
  rw [if_pos (Or.inr c45), if_neg hd, parse_dec _ (by omega)]
  simp only [c45]
  rw [if_neg (by simp), if_neg (by omega), if_pos trivial]
  congr 1
  omega
 ·rename_i hn
  cases hd : Lib.decDigits n.toNat with
  | nil => exact absurd hd (dec_ne _)
  | cons c r =>
   have hc := digit_le n.toNat c (by rw [hd]; simp)
   simp only [Lib.parseIntB, Lib.parseUintB, e64, e63]
   have c43 : ¬ (c.toNat = 43 ∨ c.toNat = 45) := by omega
   rw [if_neg c43, if_neg (by simp), ← hd, parse_dec _ (by omega)]
   simp only
   rw [if_neg (by omega), if_neg (by omega), if_neg (by omega)]
   congr 1
   omega
end Go.Rv
