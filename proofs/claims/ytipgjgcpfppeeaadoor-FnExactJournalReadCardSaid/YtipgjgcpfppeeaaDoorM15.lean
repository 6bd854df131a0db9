/- Plain facts: read2. -/
import Derived.Test.YtipgjgcpfppeeaaDoorM14
set_option linter.unusedVariables false
set_option linter.unusedSimpArgs false
set_option linter.unusedSectionVars false
namespace Go.Rv
/-! ### an op read, on both sides -/
def opW (k : Int) : List UInt8 :=
 if k = 1 then [103, 101, 116] else if k = 2 then [114, 101, 108, 101, 97, 115, 101] else if k = 3 then [99, 97, 112] else if k = 4 then [116, 105, 99, 107] else if k = 5 then [114, 101, 115, 116, 97, 114, 116] else if k = 6 then [103, 114, 111, 117, 112] else [100, 114, 111, 112]
def opN (o : OpV) : List Int :=
 if o.1 = 1 then [o.2.1, o.2.2.1, o.2.2.2.1, o.2.2.2.2.1] else if o.1 = 2 then [o.2.1] else if o.1 = 3 then [o.2.1, o.2.2.2.1] else if o.1 = 4 then [] else if o.1 = 5 then [] else if o.1 = 6 then [o.2.1, o.2.2.1, o.2.2.2.1, o.2.2.2.2.1] else [o.2.1]
theorem opS_join (o : OpV) : opS o = joinL 32 (opW o.1 :: (opN o).map Lib.itoa) := by
 unfold opS opT opW opN joinL sp
 by_cases k1 : o.1 = 1
 ·simp [k1]
 by_cases k2 : o.1 = 2
 ·simp [k2]
 by_cases k3 : o.1 = 3
 ·simp [k3]
 by_cases k4 : o.1 = 4
 ·simp [k4]
 by_cases k5 : o.1 = 5
 ·simp [k5]
 by_cases k6 : o.1 = 6
 ·simp [k6]
 simp [k1, k2, k3, k4, k5, k6]
theorem opW_free (k : Int) : (32 : UInt8) ∉ opW k := by
 unfold opW
 repeat' split
 all_goals decide
theorem opS_split (o : OpV) : splitL 32 (opS o) = opW o.1 :: (opN o).map Lib.itoa := by
 rw [opS_join]
 refine split_join' 32 _ _ (opW_free _) fun x hx => ?_
 obtain ⟨n, _, rfl⟩ := List.mem_map.1 hx
 exact itoa_free n 32 (by decide)
/-- the fields of a right op that its text does not tell are nought -/
theorem opR_kinds {o : OpV} (h : opR o = true) : (o.1 = 1 ∨ o.1 = 6) ∨ ((o.1 = 2 ∨ o.1 = 7) ∧ o = (o.1, o.2.1, 0, 0, 0, ())) ∨ (o.1 = 3 ∧ o = (3, o.2.1, 0, o.2.2.2.1, 0, ())) ∨ ((o.1 = 4 ∨ o.1 = 5) ∧ o = (o.1, 0, 0, 0, 0, ())) := by
 obtain ⟨k, i, g, a, b, ⟨⟩⟩ := o
 have hk := (opB_rng h).1
 simp only [opR, opB] at h
 simp only at hk ⊢
 rcases hk with rfl | rfl | rfl | rfl | rfl | rfl | rfl
 ·exact Or.inl (Or.inl rfl)
 ·simp at h; simp [h]
 ·simp at h; simp [h]
 ·simp at h; simp [h]
 ·simp at h; simp [h]
 ·exact Or.inl (Or.inr rfl)
 ·simp at h; simp [h]
theorem opR_small {o : OpV} (h : opR o = true) : (0 ≤ o.2.1 ∧ o.2.1 ≤ 1125899906842624) ∧ (0 ≤ o.2.2.1 ∧ o.2.2.1 ≤ 1125899906842624) ∧ (0 ≤ o.2.2.2.1 ∧ o.2.2.2.1 ≤ 1125899906842624) ∧ (0 ≤ o.2.2.2.2.1 ∧ o.2.2.2.2.1 ≤ 1125899906842624) := by
 obtain ⟨k, i, g, a, b, ⟨⟩⟩ := o
 have hk := (opB_rng h).1
 simp only [opR, opB, idB, wantB, wtB] at h
 simp only at hk ⊢
 rcases hk with rfl | rfl | rfl | rfl | rfl | rfl | rfl <;> (simp at h; omega)
theorem opN_small {o : OpV} (h : opR o = true) : ∀ n ∈ opN o, 0 ≤ n ∧ n ≤ 1125899906842624 := by
 obtain ⟨h1, h2, h3, h4⟩ := opR_small h
 intro n hn
 unfold opN at hn
 repeat' split at hn
 all_goals (simp only [List.mem_cons, List.not_mem_nil, or_false] at hn)
 all_goals (first | exact hn.elim | (rcases hn with rfl | rfl | rfl | rfl <;> assumption) | (rcases hn with rfl | rfl <;> assumption) | (subst hn; assumption))
theorem opT_ne (k i g a b : Int) : opT k i g a b ≠ [] := by
 unfold opT
 repeat' split
 all_goals simp
/-! the reference's -/
noncomputable def leafS (k i g a b : Int) (t : ByteArray) : Option (Int × Int × Int × Int × Int × Bool × Unit) := cond (!seq t (strLit [])) ((F_spec_OpText (k, i, g, a, b, ())).bind fun y => some (k, i, g, a, b, (seq y.1 t), ())) (some (k, i, g, a, b, false, ()))
theorem leaf_eq (k i g a b : Int) (l : List UInt8) : leafS k i g a b (strLit l) = some (k, i, g, a, b, (opB k i g a b && decide (l = opT k i g a b)), ()) := by
 unfold leafS
 by_cases hl : l = []
 ·subst hl
  rw [(seq_lit [] []).2 rfl, Bool.not_true, cond_false]
  rw [decide_eq_false fun h => opT_ne k i g a b h.symm, Bool.and_false]
 ·rw [seq_no hl, Bool.not_false, cond_true]
  by_cases h : opB k i g a b = true
  ·rw [specText h, Option.bind_some, h, Bool.true_and]
   by_cases e : l = opT k i g a b
   ·rw [decide_eq_true e, ← e, (seq_lit l l).2 rfl]
   ·rw [decide_eq_false e, seq_no fun h => e h.symm]
  ·rw [Bool.not_eq_true] at h
   rw [specTextNo h, Option.bind_some, h, Bool.false_and, seq_no fun h => hl h.symm]
theorem l15Loop (R : Type) (hx : ByteArray → Int → Int → Int → Int → Int → List (ByteArray × Unit) → List (Int × Unit) → Option R) (k0 : Nat) (t : ByteArray) (W : List (List UInt8)) (hW : W.length ≤ 1048577) : ∀ (d i k : Nat) (n : List (Int × Unit)), i + d = 5 → d < k → n.length = 5 →
  ∃ n' : List (Int × Unit), n'.length = 5 ∧ spec_l15Op.G0 k0 hx k t (i : Int) 0 0 0 0 0 (W.map fun x => (strLit x, ())) n = hx t 0 0 0 0 0 (W.map fun x => (strLit x, ())) n' ∧ (∀ j, j < i ∨ W.length ≤ j → n'.getD j (0, ()) = n.getD j (0, ())) ∧
   ∀ j x, i ≤ j → j < 5 → W[j]? = some (Lib.itoa x) → 0 ≤ x → x ≤ 1125899906842624 → n'.getD j (0, ()) = (x, ()) := by
 intro d
 induction d with
 | zero =>
  intro i k n hi hk hn
  cases k with
  | zero => omega
  | succ k =>
   refine ⟨n, hn, ?_, fun _ _ => rfl, fun j x h1 h2 => by omega⟩
   rw [spec_l15Op.G0, spec_l15Op.R0]
   cases decide ((i : Int) < ((W.map fun x => (strLit x, ())).length : Int))
   ·rfl
   ·rw [cond_true, decide_eq_false (by omega), cond_false]
 | succ d ih =>
  intro i k n hi hk hn
  cases k with
  | zero => omega
  | succ k =>
   rw [spec_l15Op.G0, spec_l15Op.R0, List.length_map]
   by_cases hiw : i < W.length
   ·have hWi : W[i]? = some W[i] := List.getElem?_eq_getElem hiw
    obtain ⟨v, b, hv, _⟩ := numTotal W[i]
    have hg : ((W.map fun x => (strLit x, ())).getD (i : Int).toNat (ByteArray.empty, ())).1 = strLit W[i] := by
     rw [Int.toNat_natCast, List.getD_eq_getElem?_getD, List.getElem?_map, hWi]; rfl
    rw [decide_eq_true (by omega), cond_true, decide_eq_true (by omega), cond_true, if_pos (by omega), hg, hv, Option.bind_some, if_pos (by omega), w64_in _ (by omega)]
    obtain ⟨n', h1, h2, h3, h4⟩ := ih (i + 1) k (n.set i (v, ())) (by omega) (by omega) (by rw [List.length_set]; exact hn)
    refine ⟨n', h1, ?_, fun j hj => ?_, fun j x hj h5 hx h0 h6 => ?_⟩
    ·rw [← h2, Int.toNat_natCast]
     rfl
    ·rw [h3 j (by omega), List.getD_eq_getElem?_getD, List.getD_eq_getElem?_getD, List.getElem?_set_ne (by omega)]
    ·by_cases e : i = j
     ·subst e
      rw [hWi] at hx
      have hx' := Option.some.inj hx
      rw [hx', numItoa x h0 h6] at hv
      have hvx : v = x := by
       have := Option.some.inj hv
       exact (congrArg Prod.fst this).symm
      rw [h3 i (Or.inl (by omega)), getD_set_self n i _ _ (by omega), hvx]
     ·exact h4 j x (by omega) h5 hx h0 h6
   ·rw [decide_eq_false (by omega), cond_false]
    exact ⟨n, hn, rfl, fun _ _ => rfl, fun j x h1 _ hx => by rw [List.getElem?_eq_none (by omega)] at hx; cases hx⟩
theorem l15A0 (t : ByteArray) (w : List UInt8) (ws : List (List UInt8)) (n : List (Int × Unit)) (hn : n.length = 5) : spec_l15Op.A0 t t 0 0 0 0 0 ((w :: ws).map fun x => (strLit x, ())) n =
  if w = [103, 101, 116] then leafS 1 (n.getD 1 (0, ())).1 (n.getD 2 (0, ())).1 (n.getD 3 (0, ())).1 (n.getD 4 (0, ())).1 t
  else if w = [103, 114, 111, 117, 112] then leafS 6 (n.getD 1 (0, ())).1 (n.getD 2 (0, ())).1 (n.getD 3 (0, ())).1 (n.getD 4 (0, ())).1 t
  else if w = [114, 101, 108, 101, 97, 115, 101] then leafS 2 (n.getD 1 (0, ())).1 0 0 0 t
  else if w = [99, 97, 112] then leafS 3 (n.getD 1 (0, ())).1 0 (n.getD 2 (0, ())).1 0 t
  else if w = [116, 105, 99, 107] then leafS 4 (n.getD 1 (0, ())).1 0 0 0 t
  else if w = [114, 101, 115, 116, 97, 114, 116] then leafS 5 (n.getD 1 (0, ())).1 0 0 0 t
  else if w = [100, 114, 111, 112] then leafS 7 (n.getD 1 (0, ())).1 0 0 0 t
  else leafS 0 (n.getD 1 (0, ())).1 0 0 0 t := by
 have hw0 : (((w :: ws).map fun x => (strLit x, ())).getD (0 : Int).toNat (ByteArray.empty, ())).1 = strLit w := rfl
 have hlen : (((w :: ws).map fun x => (strLit x, ())).length : Int) = (ws.length : Int) + 1 := by simp
 rw [spec_l15Op.A0, hw0, hn, hlen]
 have t1 : Int.toNat 1 = 1 := rfl
 have t2 : Int.toNat 2 = 2 := rfl
 have t3 : Int.toNat 3 = 3 := rfl
 have t4 : Int.toNat 4 = 4 := rfl
 rw [if_pos (by omega), if_pos (by omega)]
 simp only [t1, t2, t3, t4]
 have nm : ∀ {a b : List UInt8}, a ≠ b → seq (strLit a) (strLit b) = false := seq_no
 have ym : ∀ a : List UInt8, seq (strLit a) (strLit a) = true := fun a => (seq_lit a a).2 rfl
 by_cases q1 : w = [103, 101, 116]
 ·subst q1
  rw [ym, cond_true]
  rw [if_pos (by omega), if_pos (by omega), if_pos (by omega), if_pos (by omega)]
  rw [show seq (strLit [103, 101, 116]) (strLit [103, 114, 111, 117, 112]) = false from nm (by decide), cond_false]
  rw [if_pos rfl]
  rfl
 by_cases q6 : w = [103, 114, 111, 117, 112]
 ·subst q6
  rw [show seq (strLit [103, 114, 111, 117, 112]) (strLit [103, 101, 116]) = false from nm (by decide), cond_false, ym, cond_true]
  rw [if_pos (by omega), if_pos (by omega), if_pos (by omega), if_pos (by omega)]
  rw [cond_true]
  rw [if_neg (by decide), if_pos rfl]
  rfl
 by_cases q2 : w = [114, 101, 108, 101, 97, 115, 101]
 ·subst q2
  rw [show seq (strLit [114, 101, 108, 101, 97, 115, 101]) (strLit [103, 101, 116]) = false from nm (by decide), cond_false, show seq (strLit [114, 101, 108, 101, 97, 115, 101]) (strLit [103, 114, 111, 117, 112]) = false from nm (by decide), cond_false, ym, cond_true]
  rw [if_neg (by decide), if_neg (by decide), if_pos rfl]
  rfl
 by_cases q3 : w = [99, 97, 112]
 ·subst q3
  rw [show seq (strLit [99, 97, 112]) (strLit [103, 101, 116]) = false from nm (by decide), cond_false, show seq (strLit [99, 97, 112]) (strLit [103, 114, 111, 117, 112]) = false from nm (by decide), cond_false, show seq (strLit [99, 97, 112]) (strLit [114, 101, 108, 101, 97, 115, 101]) = false from nm (by decide), cond_false, ym, cond_true]
  rw [if_pos (by omega)]
  rw [if_neg (by decide), if_neg (by decide), if_neg (by decide), if_pos rfl]
  rfl
 by_cases q4 : w = [116, 105, 99, 107]
 ·subst q4
  rw [show seq (strLit [116, 105, 99, 107]) (strLit [103, 101, 116]) = false from nm (by decide), cond_false, show seq (strLit [116, 105, 99, 107]) (strLit [103, 114, 111, 117, 112]) = false from nm (by decide), cond_false, show seq (strLit [116, 105, 99, 107]) (strLit [114, 101, 108, 101, 97, 115, 101]) = false from nm (by decide), cond_false, show seq (strLit [116, 105, 99, 107]) (strLit [99, 97, 112]) = false from nm (by decide), cond_false, ym, cond_true]
  rw [if_neg (by decide), if_neg (by decide), if_neg (by decide), if_neg (by decide), if_pos rfl]
  rfl
 by_cases q5 : w = [114, 101, 115, 116, 97, 114, 116]
 ·subst q5
  rw [show seq (strLit [114, 101, 115, 116, 97, 114, 116]) (strLit [103, 101, 116]) = false from nm (by decide), cond_false, show seq (strLit [114, 101, 115, 116, 97, 114, 116]) (strLit [103, 114, 111, 117, 112]) = false from nm (by decide), cond_false, show seq (strLit [114, 101, 115, 116, 97, 114, 116]) (strLit [114, 101, 108, 101, 97, 115, 101]) = false from nm (by decide), cond_false, show seq (strLit [114, 101, 115, 116, 97, 114, 116]) (strLit [99, 97, 112]) = false from nm (by decide), cond_false, show seq (strLit [114, 101, 115, 116, 97, 114, 116]) (strLit [116, 105, 99, 107]) = false from nm (by decide), cond_false, ym, cond_true]
  rw [if_neg (by decide), if_neg (by decide), if_neg (by decide), if_neg (by decide), if_neg (by decide), if_pos rfl]
  rfl
 by_cases q7 : w = [100, 114, 111, 112]
 ·subst q7
  rw [show seq (strLit [100, 114, 111, 112]) (strLit [103, 101, 116]) = false from nm (by decide), cond_false, show seq (strLit [100, 114, 111, 112]) (strLit [103, 114, 111, 117, 112]) = false from nm (by decide), cond_false, show seq (strLit [100, 114, 111, 112]) (strLit [114, 101, 108, 101, 97, 115, 101]) = false from nm (by decide), cond_false, show seq (strLit [100, 114, 111, 112]) (strLit [99, 97, 112]) = false from nm (by decide), cond_false, show seq (strLit [100, 114, 111, 112]) (strLit [116, 105, 99, 107]) = false from nm (by decide), cond_false, show seq (strLit [100, 114, 111, 112]) (strLit [114, 101, 115, 116, 97, 114, 116]) = false from nm (by decide), cond_false, ym, cond_true]
  rw [if_neg (by decide), if_neg (by decide), if_neg (by decide), if_neg (by decide), if_neg (by decide), if_neg (by decide), if_pos rfl]
  rfl
 rw [nm q1, cond_false, nm q6, cond_false, nm q2, cond_false, nm q3, cond_false, nm q4, cond_false, nm q5, cond_false, nm q7, cond_false]
 rw [if_neg q1, if_neg q6, if_neg q2, if_neg q3, if_neg q4, if_neg q5, if_neg q7]
 rfl
theorem specReadOp (l : List UInt8) (hl : l.length ≤ 1048576) : ∃ (r : OpV) (b : Bool), F_spec_l15Op (strLit l, ()) = some (r.1, r.2.1, r.2.2.1, r.2.2.2.1, r.2.2.2.2.1, b, ()) ∧ (b = true → opR r = true ∧ l = opS r) ∧ ∀ o : OpV, opR o = true → l = opS o → b = true ∧ r = o := by
 have leafOK : ∀ k i g a b : Int, ∃ (r : OpV) (c : Bool), leafS k i g a b (strLit l) = some (r.1, r.2.1, r.2.2.1, r.2.2.2.1, r.2.2.2.2.1, c, ()) ∧ (c = true → opR r = true ∧ l = opS r) := fun k i g a b =>
  ⟨(k, i, g, a, b, ()), _, leaf_eq k i g a b l, fun h => by simpa [opR, opS] using h⟩
 have hWlen : (splitL 32 l).length ≤ l.length + 1 := by
  have key : ∀ l : List UInt8, (splitL 32 l).length ≤ l.length + 1 := by
   intro l
   induction l with
   | nil => simp [splitL]
   | cons b l ih =>
    rw [splitL]
    split
    ·simp only [List.length_cons]; omega
    ·split
     ·simp
     ·rename_i h t he
      rw [he] at ih
      simp only [List.length_cons] at ih ⊢; omega
  exact key l
 obtain ⟨w, ws, hW⟩ : ∃ w ws, splitL 32 l = w :: ws := by
  cases h : splitL 32 l with
  | nil => exact absurd h (splitL_ne 32 l)
  | cons w ws => exact ⟨w, ws, rfl⟩
 obtain ⟨n, hn, hrun, hkeep, hset⟩ := l15Loop _ (spec_l15Op.A0 (strLit l)) (300 + (strLit l).size) (strLit l) (splitL 32 l) (by omega) 4 1 (300 + (strLit l).size) [(0, ()), (0, ()), (0, ()), (0, ()), (0, ())] rfl (by omega) rfl
 have hF : F_spec_l15Op (strLit l, ()) = spec_l15Op.A0 (strLit l) (strLit l) 0 0 0 0 0 ((w :: ws).map fun x => (strLit x, ())) n := by
  show spec_l15Op.FF (300 + (strLit l).size) (strLit l) = _
  rw [spec_l15Op.FF, spec_l15Op.T]
  have hs := specSplit 32 l hl
  rw [show ((32 : UInt8).toNat : Int) = 32 from rfl] at hs
  rw [hs, Option.bind_some, ← hW]
  exact hrun
 rw [l15A0 (strLit l) w ws n hn] at hF
 have hgen : ∃ (r : OpV) (b : Bool), F_spec_l15Op (strLit l, ()) = some (r.1, r.2.1, r.2.2.1, r.2.2.2.1, r.2.2.2.2.1, b, ()) ∧ (b = true → opR r = true ∧ l = opS r) := by
  rw [hF]
  repeat' split
  all_goals exact leafOK _ _ _ _ _
 obtain ⟨r, b, h1, h2⟩ := hgen
 refine ⟨r, b, h1, h2, fun o ho hlo => ?_⟩
 have hsp := opS_split o
 rw [← hlo] at hsp
 have hsm := opN_small ho
 have hNj : ∀ j x, (opN o)[j]? = some x → j < 4 → n.getD (j + 1) (0, ()) = (x, ()) := fun j x hj h4 => by
  have hx := hsm x (List.mem_of_getElem? hj)
  refine hset (j + 1) x (by omega) (by omega) ?_ hx.1 hx.2
  rw [hsp, List.getElem?_cons_succ, List.getElem?_map, hj]
  rfl
 have hN0 : ∀ j, (opN o).length ≤ j → j < 4 → n.getD (j + 1) (0, ()) = (0, ()) := fun j hj h4 => by
  rw [hkeep (j + 1) (Or.inr (by rw [hsp]; simp; omega))]
  rcases (by omega : j = 0 ∨ j = 1 ∨ j = 2 ∨ j = 3) with rfl | rfl | rfl | rfl <;> rfl
 have hww : w = opW o.1 := by
  rw [hW] at hsp
  exact (List.cons.inj hsp).1
 have done : ∀ k i g a b : Int, F_spec_l15Op (strLit l, ()) = leafS k i g a b (strLit l) → o = (k, i, g, a, b, ()) → b = b → ∃ c : Bool, c = true ∧ F_spec_l15Op (strLit l, ()) = some (o.1, o.2.1, o.2.2.1, o.2.2.2.1, o.2.2.2.2.1, c, ()) := fun k i g a b e eo _ => by
  rw [e, leaf_eq]
  subst eo
  refine ⟨_, ?_, rfl⟩
  rw [show opB k i g a b = true from ho, decide_eq_true (show l = opT k i g a b from hlo)]
  rfl
 have fin : ∃ c : Bool, c = true ∧ F_spec_l15Op (strLit l, ()) = some (o.1, o.2.1, o.2.2.1, o.2.2.2.1, o.2.2.2.2.1, c, ()) := by
  have hk := (opB_rng ho).1
  have hkinds := opR_kinds ho
  obtain ⟨k, i, g, a, b', ⟨⟩⟩ := o
  simp only at hk hkinds hww hNj hN0
  rcases hk with rfl | rfl | rfl | rfl | rfl | rfl | rfl
  ·have e : w = [103, 101, 116] := hww
   have n1 := hNj 0 i rfl (by omega)
   have n2 := hNj 1 g rfl (by omega)
   have n3 := hNj 2 a rfl (by omega)
   have n4 := hNj 3 b' rfl (by omega)
   rw [if_pos e, n1, n2, n3, n4] at hF
   exact done _ _ _ _ _ hF rfl rfl
  ·have e : w = [114, 101, 108, 101, 97, 115, 101] := hww
   have n1 := hNj 0 i rfl (by omega)
   rw [if_neg (by rw [e]; decide), if_neg (by rw [e]; decide), if_pos e, n1] at hF
   have ez : g = 0 ∧ a = 0 ∧ b' = 0 := by simpa using hkinds
   obtain ⟨rfl, rfl, rfl⟩ := ez
   exact done _ _ _ _ _ hF rfl rfl
  ·have e : w = [99, 97, 112] := hww
   have n1 := hNj 0 i rfl (by omega)
   have n2 := hNj 1 a rfl (by omega)
   rw [if_neg (by rw [e]; decide), if_neg (by rw [e]; decide), if_neg (by rw [e]; decide), if_pos e, n1, n2] at hF
   have ez : g = 0 ∧ b' = 0 := by simpa using hkinds
   obtain ⟨rfl, rfl⟩ := ez
   exact done _ _ _ _ _ hF rfl rfl
  ·have e : w = [116, 105, 99, 107] := hww
   have n1 := hN0 0 (Nat.le_refl _) (by omega)
   rw [if_neg (by rw [e]; decide), if_neg (by rw [e]; decide), if_neg (by rw [e]; decide), if_neg (by rw [e]; decide), if_pos e, n1] at hF
   have ez : i = 0 ∧ g = 0 ∧ a = 0 ∧ b' = 0 := by simpa using hkinds
   obtain ⟨rfl, rfl, rfl, rfl⟩ := ez
   exact done _ _ _ _ _ hF rfl rfl
  ·have e : w = [114, 101, 115, 116, 97, 114, 116] := hww
   have n1 := hN0 0 (Nat.le_refl _) (by omega)
   rw [if_neg (by rw [e]; decide), if_neg (by rw [e]; decide), if_neg (by rw [e]; decide), if_neg (by rw [e]; decide), if_neg (by rw [e]; decide), if_pos e, n1] at hF
   have ez : i = 0 ∧ g = 0 ∧ a = 0 ∧ b' = 0 := by simpa using hkinds
   obtain ⟨rfl, rfl, rfl, rfl⟩ := ez
   exact done _ _ _ _ _ hF rfl rfl
  ·have e : w = [103, 114, 111, 117, 112] := hww
   have n1 := hNj 0 i rfl (by omega)
   have n2 := hNj 1 g rfl (by omega)
   have n3 := hNj 2 a rfl (by omega)
   have n4 := hNj 3 b' rfl (by omega)
   rw [if_neg (by rw [e]; decide), if_pos e, n1, n2, n3, n4] at hF
   exact done _ _ _ _ _ hF rfl rfl
  ·have e : w = [100, 114, 111, 112] := hww
   have n1 := hNj 0 i rfl (by omega)
   rw [if_neg (by rw [e]; decide), if_neg (by rw [e]; decide), if_neg (by rw [e]; decide), if_neg (by rw [e]; decide), if_neg (by rw [e]; decide), if_neg (by rw [e]; decide), if_pos e, n1] at hF
   have ez : g = 0 ∧ a = 0 ∧ b' = 0 := by simpa using hkinds
   obtain ⟨rfl, rfl, rfl⟩ := ez
   exact done _ _ _ _ _ hF rfl rfl
 obtain ⟨c, hc, e⟩ := fin
 rw [h1] at e
 have e' := Option.some.inj e
 simp only [Prod.mk.injEq] at e'
 obtain ⟨r1, r2, r3, r4, r5, ⟨⟩⟩ := r
 obtain ⟨o1, o2, o3, o4, o5, ⟨⟩⟩ := o
 simp only [Prod.mk.injEq] at e' ⊢
 obtain ⟨a1, a2, a3, a4, a5, a6, _⟩ := e'
 exact ⟨a6.trans hc, a1, a2, a3, a4, a5, trivial⟩
end Go.Rv
