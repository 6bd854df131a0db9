/- Plain facts: read1. -/
import Derived.Test.YtipgjgcpfppeeaaDoorM13
set_option linter.unusedVariables false
set_option linter.unusedSimpArgs false
set_option linter.unusedSectionVars false
namespace Go.Rv
/-! ### both sides cut a text alike -/
theorem lit_inj {a b : List UInt8} (h : strLit a = strLit b) : a = b := by
 have := congrArg (fun s : ByteArray => s.data.toList) h
 simpa [strLit] using this
theorem lit_data (s : ByteArray) : strLit s.data.toList = s := by simp [strLit]
theorem bytes_loop (bs : ByteArray) : ∀ (n i : Nat) (r : List UInt8), bs.size - i = n → ByteArray.toList.loop bs i r = r.reverse ++ bs.data.toList.drop i := by
 intro n
 induction n with
 | zero =>
  intro i r h
  rw [ByteArray.toList.loop, if_neg (by omega), List.drop_of_length_le (by show bs.data.toList.length ≤ i; rw [Array.length_toList]; show bs.size ≤ i; omega), List.append_nil]
 | succ n ih =>
  intro i r h
  have hi : i < bs.data.toList.length := by rw [Array.length_toList]; show i < bs.size; omega
  rw [ByteArray.toList.loop, if_pos (by omega), ih (i + 1) _ (by omega), List.drop_eq_getElem_cons hi]
  have e : bs.get! i = bs.data.toList[i] := by
   have hi' : i < bs.data.size := by simpa using hi
   show bs.data[i]! = bs.data.toList[i]
   rw [getElem!_pos bs.data i hi']
   simp
  rw [e]
  simp
theorem bytes_list (bs : ByteArray) : bs.toList = bs.data.toList := by
 unfold ByteArray.toList
 rw [bytes_loop bs _ 0 [] rfl]
 rfl
theorem seq_lit (a b : List UInt8) : seq (strLit a) (strLit b) = true ↔ a = b := by
 unfold seq
 rw [beq_iff_eq]
 constructor
 ·intro h
  have : (strLit a) = (strLit b) := by
   have h2 : (strLit a).data.toList = (strLit b).data.toList := by
    rw [bytes_list, bytes_list] at h
    exact h
   rw [← lit_data (strLit a), ← lit_data (strLit b), h2]
  exact lit_inj this
 ·rintro rfl; rfl
theorem seq_no {a b : List UInt8} (h : a ≠ b) : seq (strLit a) (strLit b) = false := by
 rw [← Bool.not_eq_true, seq_lit]; exact h
theorem extract_lit (l : List UInt8) (a b : Nat) : (strLit l).extract a b = strLit ((l.drop a).take (b - a)) := by
 apply ByteArray.ext
 rw [ByteArray.data_extract]
 simp [strLit]
theorem get_lit (p r : List UInt8) (b : UInt8) (n : Nat) (hn : n = p.length) : bt (strLit (p ++ b :: r)) (n : Int) = (b.toNat : Int) := by
 subst hn
 unfold bt strLit ByteArray.get!
 simp [getElem!_def]
theorem implSplit (c : UInt8) (l : List UInt8) (h : l.length ≤ 1048576) : F_strings_Split (strLit l, strLit [c], ()) = some ((splitL c l).map fun x => (strLit x, ()), ()) := by
 rw [F_split _ _ (by rw [strLit_size]; exact h) (by rw [strLit_size]; exact Nat.le_refl _)]
 congr 2
 have h1 := Lib.splitB_data (strLit [c]) 0 (Lib.countB (strLit l) (strLit [c])) (strLit l)
 have e1 : (strLit l).data.toList = l := by simp [strLit]
 have e2 : (strLit [c]).data.toList = [c] := by simp [strLit]
 have e3 : Lib.countB (strLit l) (strLit [c]) = Lib.count l [c] := by
  show Lib.count (strLit l).data.toList (strLit [c]).data.toList = _
  rw [e1, e2]
 rw [e1, e2, e3, split1 c l.length l (Nat.le_refl _)] at h1
 unfold splitV1
 rw [e3, ← h1, List.map_map]
 apply List.map_congr_left
 intro x _
 show (x, ()) = (strLit x.data.toList, ())
 rw [lit_data]
theorem specSplit (c : UInt8) (l : List UInt8) (h : l.length ≤ 1048576) : F_spec_l01Split (strLit l, (c.toNat : Int), ()) = some ((splitL c l).map fun x => (strLit x, ()), ()) := by
 have key : ∀ (k0 : Nat) (rest pre cur : List UInt8) (k : Nat) (out : List (ByteArray × Unit)), l = pre ++ (cur ++ rest) → rest.length < k → c ∉ cur → out.length ≤ pre.length →
   spec_l01Split.G0 k0 (spec_l01Split.A0 (strLit l) (c.toNat : Int)) k (strLit l) (c.toNat : Int) (pre.length : Int) ((pre.length + cur.length : Nat) : Int) out = some (out ++ (splitL c (cur ++ rest)).map (fun x => (strLit x, ())), ()) := by
  intro k0 rest
  induction rest with
  | nil =>
   intro pre cur k out hl hk hc ho
   cases k with
   | zero => simp at hk
   | succ k =>
    have hlen : l.length = pre.length + cur.length := by rw [hl]; simp
    rw [spec_l01Split.G0, spec_l01Split.R0, strLit_size, decide_eq_false (by omega), cond_false, spec_l01Split.A0, strLit_size, if_pos (by omega), Int.toNat_natCast, extract_lit]
    have e : (l.drop pre.length).take (l.length - pre.length) = cur := by rw [hl]; simp
    rw [e, if_pos (by simp only [List.length_cons, List.length_nil, maxRow]; omega), List.append_nil, splitL_miss c cur hc]
    rfl
  | cons b rest ih =>
   intro pre cur k out hl hk hc ho
   cases k with
   | zero => simp at hk
   | succ k =>
    have hlen : l.length = pre.length + cur.length + (rest.length + 1) := by rw [hl]; simp; omega
    have hb : bt (strLit l) ((pre.length + cur.length : Nat) : Int) = (b.toNat : Int) := by
     rw [hl, ← List.append_assoc]
     exact get_lit (pre ++ cur) rest b _ (by simp)
    rw [spec_l01Split.G0, spec_l01Split.R0, strLit_size, decide_eq_true (by omega), cond_true, if_pos (by omega), hb, w64_in _ (by omega)]
    by_cases hbc : b = c
    ·subst hbc
     rw [show ((b.toNat : Int) == (b.toNat : Int)) = true by simp, cond_true, if_pos (by omega)]
     simp only [Int.toNat_natCast]
     have e : (strLit l).extract pre.length (pre.length + cur.length) = strLit cur := by
      rw [extract_lit, hl]
      simp
     rw [e, if_pos (by simp only [List.length_cons, List.length_nil, maxRow]; omega)]
     have := ih (pre ++ (cur ++ [b])) [] k (out ++ [(strLit cur, ())]) (by rw [hl]; simp) (by simp only [List.length_cons] at hk; omega) (by simp) (by simp; omega)
     rw [splitL_hit b rest cur hc]
     have e2 : (((pre.length + cur.length : Nat) : Int) + 1) = (((pre ++ (cur ++ [b])).length : Nat) : Int) := by simp; omega
     rw [e2]
     simp only [List.length_nil, Nat.add_zero, List.nil_append] at this
     rw [this]
     simp
    ·have hne : ((b.toNat : Int) == (c.toNat : Int)) = false := by
      rw [beq_eq_false_iff_ne]
      intro e
      exact hbc (UInt8.toNat_inj.1 (by omega))
     rw [hne, cond_false]
     have := ih pre (cur ++ [b]) k out (by rw [hl]; simp) (by simp only [List.length_cons] at hk; omega) (by simp only [List.mem_append, List.mem_singleton, not_or]; exact ⟨hc, fun e => hbc e.symm⟩) ho
     have e2 : (((pre.length + cur.length : Nat) : Int) + 1) = ((pre.length + (cur ++ [b]).length : Nat) : Int) := by simp; omega
     rw [e2, this]
     simp
 have := key (300 + (strLit l).size) l [] [] (300 + (strLit l).size) [] rfl (by rw [strLit_size]; omega) (by simp) (Nat.le_refl _)
 simp only [List.nil_append] at this
 exact this
/-! ### the reference's reading of a number -/
def valN : Nat → List UInt8 → Nat
 | acc, [] => acc
 | acc, b :: r => valN (10 * acc + (b.toNat - 48)) r
theorem valN_app : ∀ (a b : List UInt8) (acc : Nat), valN acc (a ++ b) = valN (valN acc a) b
 | [], _, _ => rfl
 | _ :: a, b, _ => valN_app a b _
theorem valN_dec (u : Nat) : valN 0 (Lib.decDigits u) = u := by
 induction u using Nat.strongRecOn with
 | _ u ih =>
  have one : ∀ acc d : Nat, d < 10 → valN acc [UInt8.ofNat (48 + d)] = 10 * acc + d := fun acc d hd => by
   have e : (UInt8.ofNat (48 + d)).toNat = 48 + d := by rw [UInt8.toNat_ofNat']; omega
   show 10 * acc + ((UInt8.ofNat (48 + d)).toNat - 48) = _
   rw [e, Nat.add_sub_cancel_left]
  rw [Lib.decDigits]
  split
  ·rename_i hu
   rw [one 0 u hu]; omega
  ·rw [valN_app, ih (u / 10) (by omega), one _ _ (by omega)]
   omega
theorem numStep (R : Type) (k0 : Nat) (hx0 : ByteArray → Int → Bool → Bool → Int → Option R) (hx1 : ByteArray → Bool → Int → Option R) (t2 : ByteArray) (neg : Bool) (k : Nat) (done rest : List UInt8) (b : UInt8) (acc : Nat) (hacc : acc < 10 ^ done.length) (hl : done.length + rest.length + 1 ≤ 18) :
  spec_l01Num.G0 k0 hx0 hx1 (k + 1) t2 neg (strLit (done ++ b :: rest)) (acc : Int) (done.length : Int) = if 48 ≤ b.toNat ∧ b.toNat ≤ 57 then spec_l01Num.G0 k0 hx0 hx1 k t2 neg (strLit (done ++ b :: rest)) ((10 * acc + (b.toNat - 48) : Nat) : Int) ((done ++ [b]).length : Int) else hx0 t2 0 false neg acc := by
 have hp : 10 ^ done.length ≤ 10 ^ 17 := Nat.pow_le_pow_right (by omega) (by omega)
 have e17 : (10 : Nat) ^ 17 = 100000000000000000 := by decide
 have hb := get_lit done rest b done.length rfl
 have hbl : b.toNat < 256 := b.toNat_lt
 have hsz : (strLit (done ++ b :: rest)).size = done.length + (rest.length + 1) := by rw [strLit_size]; simp
 rw [spec_l01Num.G0, spec_l01Num.R0, hb, hsz, decide_eq_true (by omega), cond_true, if_pos (by omega)]
 by_cases h1 : b.toNat < 48
 ·rw [decide_eq_true (by omega), cond_true, if_neg (by omega)]
 ·rw [decide_eq_false (by omega), cond_false, if_pos (by omega)]
  by_cases h2 : b.toNat > 57
  ·rw [decide_eq_true (by omega), cond_true, if_neg (by omega)]
  ·rw [decide_eq_false (by omega), cond_false, if_pos (by omega), if_pos (by omega)]
   rw [IntWalk.u8_in _ (by omega), w64_in (10 * (acc : Int)) (by omega), w64_in ((b.toNat : Int) - 48) (by omega), w64_in _ (by omega), w64_in _ (by omega)]
   congr 1
   ·omega
   ·simp
theorem numLoop (R : Type) (k0 : Nat) (hx0 : ByteArray → Int → Bool → Bool → Int → Option R) (hx1 : ByteArray → Bool → Int → Option R) (t2 : ByteArray) (neg : Bool) : ∀ (rest done : List UInt8) (acc k : Nat), rest.length < k → acc < 10 ^ done.length → done.length + rest.length ≤ 18 →
  ((∀ b ∈ rest, 48 ≤ b.toNat ∧ b.toNat ≤ 57) → spec_l01Num.G0 k0 hx0 hx1 k t2 neg (strLit (done ++ rest)) (acc : Int) (done.length : Int) = hx1 t2 neg (valN acc rest)) ∧
  ∃ v : Nat, v < 10 ^ 18 ∧ (spec_l01Num.G0 k0 hx0 hx1 k t2 neg (strLit (done ++ rest)) (acc : Int) (done.length : Int) = hx0 t2 0 false neg v ∨ spec_l01Num.G0 k0 hx0 hx1 k t2 neg (strLit (done ++ rest)) (acc : Int) (done.length : Int) = hx1 t2 neg v) := by
 intro rest
 induction rest with
 | nil =>
  intro done acc k hk ha hl
  cases k with
  | zero => simp at hk
  | succ k =>
   have hp : 10 ^ done.length ≤ 10 ^ 18 := Nat.pow_le_pow_right (by omega) (by simpa using hl)
   have e : spec_l01Num.G0 k0 hx0 hx1 (k + 1) t2 neg (strLit (done ++ [])) (acc : Int) (done.length : Int) = hx1 t2 neg acc := by
    rw [spec_l01Num.G0, spec_l01Num.R0, strLit_size, List.append_nil, decide_eq_false (by omega), cond_false]
   rw [e]
   exact ⟨fun _ => rfl, acc, by omega, Or.inr rfl⟩
 | cons b rest ih =>
  intro done acc k hk ha hl
  cases k with
  | zero => simp at hk
  | succ k =>
   simp only [List.length_cons] at hk hl
   rw [numStep R k0 hx0 hx1 t2 neg k done rest b acc ha (by omega)]
   have hp : 10 ^ done.length ≤ 10 ^ 18 := Nat.pow_le_pow_right (by omega) (by omega)
   by_cases hd : 48 ≤ b.toNat ∧ b.toNat ≤ 57
   ·rw [if_pos hd]
    have e2 : (10 : Nat) ^ (done ++ [b]).length = 10 * 10 ^ done.length := by rw [List.length_append, List.length_singleton, Nat.pow_succ, Nat.mul_comm]
    obtain ⟨h1, h2⟩ := ih (done ++ [b]) (10 * acc + (b.toNat - 48)) k (by omega) (by rw [e2]; omega) (by simp only [List.length_append, List.length_singleton]; omega)
    simp only [List.append_assoc, List.singleton_append] at h1 h2
    exact ⟨fun h => h1 fun x hx => h x (by simp [hx]), h2⟩
   ·rw [if_neg hd]
    exact ⟨fun h => absurd (h b (by simp)) hd, acc, by omega, Or.inl rfl⟩
theorem numTotal (l : List UInt8) : ∃ v b, F_spec_l01Num (strLit l, ()) = some (v, b, ()) ∧ i64P v := by
 have e18 : (10 : Nat) ^ 18 = 1000000000000000000 := by decide
 have fin : ∀ (d : List UInt8) (neg : Bool), d.length ≤ 18 → ∃ v b, spec_l01Num.G0 (300 + l.length) (spec_l01Num.A0 (strLit l)) (spec_l01Num.A1 (strLit l)) (300 + l.length) (strLit l) neg (strLit d) 0 0 = some (v, b, ()) ∧ i64P v := by
  intro d neg hd
  obtain ⟨_, v, hv, h⟩ := numLoop _ (300 + l.length) (spec_l01Num.A0 (strLit l)) (spec_l01Num.A1 (strLit l)) (strLit l) neg d [] 0 (300 + l.length) (by omega) (by simp) (by simpa using hd)
  rw [e18] at hv
  rcases h with h | h
  ·exact ⟨0, false, h, by unfold i64P; omega⟩
  ·cases neg
   ·refine ⟨v, seq (strLit (Lib.itoa v)) (strLit l), h.trans ?_, by unfold i64P; omega⟩
    rw [spec_l01Num.A1, cond_false, specDec _ (by unfold i64P; omega)]; rfl
   ·refine ⟨-(v : Int), seq (strLit (Lib.itoa (-(v : Int)))) (strLit l), h.trans ?_, by unfold i64P; omega⟩
    rw [spec_l01Num.A1, cond_true, w64_in _ (by omega), Int.zero_sub, specDec _ (by unfold i64P; omega)]; rfl
 show ∃ v b, spec_l01Num.FF (300 + (strLit l).size) (strLit l) = some (v, b, ()) ∧ i64P v
 rw [spec_l01Num.FF, spec_l01Num.T]
 have z : i64P 0 := by unfold i64P; omega
 rw [strLit_size]
 by_cases h0 : 0 < l.length
 ·obtain ⟨c, r, rfl⟩ : ∃ c r, l = c :: r := by cases l with | nil => simp at h0 | cons c r => exact ⟨c, r, rfl⟩
  rw [decide_eq_true (by omega), cond_true, if_pos (by omega)]
  cases hb : (bt (strLit (c :: r)) 0 == 45)
  ·rw [cond_false]
   by_cases h1 : (c :: r).length > 18
   ·rw [decide_eq_false (by omega), cond_false, decide_eq_true (by omega), cond_true]
    exact ⟨0, false, rfl, z⟩
   ·rw [decide_eq_false (by omega), cond_false, decide_eq_false (by omega), cond_false]
    exact fin _ _ (by omega)
  ·rw [cond_true, if_pos (by omega), extract_lit, strLit_size]
   by_cases h1 : ((((c :: r).drop (1 : Int).toNat).take ((c :: r).length - (1 : Int).toNat)).length : Int) < 1
   ·rw [decide_eq_true h1, cond_true]
    exact ⟨0, false, rfl, z⟩
   ·rw [decide_eq_false h1, cond_false]
    by_cases h2 : ((((c :: r).drop (1 : Int).toNat).take ((c :: r).length - (1 : Int).toNat)).length : Int) > 18
    ·rw [decide_eq_true h2, cond_true]
     exact ⟨0, false, rfl, z⟩
    ·rw [decide_eq_false h2, cond_false]
     exact fin _ _ (by omega)
 ·rw [decide_eq_false (by omega), cond_false, decide_eq_true (by omega), cond_true]
  exact ⟨0, false, rfl, z⟩
theorem numItoa (n : Int) (h0 : 0 ≤ n) (h1 : n ≤ 1125899906842624) : F_spec_l01Num (strLit (Lib.itoa n), ()) = some (n, true, ()) := by
 obtain ⟨u, rfl⟩ : ∃ u : Nat, n = u := ⟨n.toNat, by omega⟩
 rw [Lib.itoa_nonneg]
 have hne := dec_ne u
 have hdig := digit_le u
 have hval := valN_dec u
 have hdec := specDec (u : Int) ⟨by omega, by omega⟩
 have hlen : (Lib.decDigits u).length ≤ 18 := by
  have key : ∀ k u : Nat, u < 10 ^ k → 0 < k → (Lib.decDigits u).length ≤ k := by
   intro k
   induction k with
   | zero => intro u _ h; omega
   | succ k ih =>
    intro u hu _
    rw [Lib.decDigits]
    split
    ·simp
    ·rename_i h10
     have hp : (10 : Nat) ^ (k + 1) = 10 * 10 ^ k := by rw [Nat.pow_succ, Nat.mul_comm]
     have hk : 0 < k := by
      rcases Nat.eq_zero_or_pos k with rfl | h
      ·simp at hu; omega
      ·exact h
     have := ih (u / 10) (by rw [hp] at hu; omega) hk
     simp only [List.length_append, List.length_singleton]
     omega
  have e18 : (10 : Nat) ^ 18 = 1000000000000000000 := by decide
  exact key 18 u (by rw [e18]; omega) (by omega)
 rw [Lib.itoa_nonneg] at hdec
 generalize Lib.decDigits u = l at *
 obtain ⟨c, r, rfl⟩ : ∃ c r, l = c :: r := by cases l with | nil => exact absurd rfl hne | cons c r => exact ⟨c, r, rfl⟩
 have hb : bt (strLit (c :: r)) 0 = (c.toNat : Int) := get_lit [] r c 0 rfl
 have hc := hdig c (by simp)
 show spec_l01Num.FF (300 + (strLit (c :: r)).size) (strLit (c :: r)) = _
 rw [spec_l01Num.FF, spec_l01Num.T, strLit_size, hb]
 simp only [List.length_cons] at hlen ⊢
 rw [decide_eq_true (by omega), cond_true, if_pos (by omega), show ((c.toNat : Int) == 45) = false by rw [beq_eq_false_iff_ne]; omega, cond_false, decide_eq_false (by omega), cond_false, decide_eq_false (by omega), cond_false]
 have := (numLoop _ (300 + (r.length + 1)) (spec_l01Num.A0 (strLit (c :: r))) (spec_l01Num.A1 (strLit (c :: r))) (strLit (c :: r)) false (c :: r) [] 0 (300 + (r.length + 1)) (by simp only [List.length_cons]; omega) (by simp) (by simp only [List.length_nil, List.length_cons]; omega)).1 hdig
 rw [List.nil_append, hval] at this
 refine this.trans ?_
 rw [spec_l01Num.A1, cond_false, hdec, Option.bind_some, seq_self]
end Go.Rv
