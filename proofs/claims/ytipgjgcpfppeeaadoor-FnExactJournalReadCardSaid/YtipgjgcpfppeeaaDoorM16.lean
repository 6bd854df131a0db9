/- Plain facts: read3. -/
import Derived.Test.YtipgjgcpfppeeaaDoorM15
set_option linter.unusedVariables false
set_option linter.unusedSimpArgs false
set_option linter.unusedSectionVars false
namespace Go.Rv
/-! ### the program's -/
theorem numV_itoa (n : Int) (h : i64P n) : numV (strLit (Lib.itoa n)) = (n, true) := by
 unfold numV
 have e : (strLit (Lib.itoa n)).data.toList = Lib.itoa n := by simp [strLit]
 rw [e, parse_itoa n h]
 simp only [decS_lit, beq_self_eq_true]
theorem numV_true (w : List UInt8) (h : (numV (strLit w)).2 = true) : w = Lib.itoa (numV (strLit w)).1 ∧ i64P (numV (strLit w)).1 := by
 unfold numV at h ⊢
 have e : (strLit w).data.toList = w := by simp [strLit]
 rw [e] at h ⊢
 rcases hp : Lib.parseIntB 64 w with v | _ | _
 ·rw [hp] at h
  simp only at h ⊢
  have hb := Lib.parseIntB_bounds hp
  have e63 : (2 : Nat) ^ (64 - 1) = 9223372036854775808 := by decide
  rw [e63] at hb
  refine ⟨?_, by unfold i64P; omega⟩
  rw [decS_lit] at h
  exact ((seq_lit _ _).1 h).symm
 ·rw [hp] at h; cases h
 ·rw [hp] at h; cases h
theorem F_numL (w : List UInt8) (h : w.length ≤ 1048576) : F_impl_readNum (strLit w, ()) = some ((numV (strLit w)).1, (numV (strLit w)).2, ()) := F_num _ (by rw [strLit_size]; exact h)
theorem numsLoop (W : List (List UInt8)) (hW : W.length ≤ 1048577) (hw : ∀ x ∈ W, x.length ≤ 1048576) (k0 : Nat) (R : Type) (hx0 : Bool → List (Int × Unit) → Option R) (hx1 : List (Int × Unit) → Option R) : ∀ (rest done : List (List UInt8)) (ns : List Int) (k : Nat), W = done ++ rest → rest.length < k → done = ns.map Lib.itoa →
  ((∃ ms, (∀ m ∈ ms, i64P m) ∧ rest = ms.map Lib.itoa ∧ impl_readNums.G0 k0 hx0 hx1 k (W.map fun x => (strLit x, ())) (W.length : Int) (done.length : Int) (ns.map fun x => (x, ())) = hx1 ((ns ++ ms).map fun x => (x, ()))) ∨
   ((¬ ∃ ms : List Int, (∀ m ∈ ms, i64P m) ∧ rest = ms.map Lib.itoa) ∧ ∃ out, impl_readNums.G0 k0 hx0 hx1 k (W.map fun x => (strLit x, ())) (W.length : Int) (done.length : Int) (ns.map fun x => (x, ())) = hx0 false out)) := by
 intro rest
 induction rest with
 | nil =>
  intro done ns k hd hk hn
  rw [List.append_nil] at hd
  cases k with
  | zero => simp at hk
  | succ k =>
   refine Or.inl ⟨[], by simp, rfl, ?_⟩
   rw [impl_readNums.G0, impl_readNums.R0, hd, decide_eq_false (by omega), cond_false, List.append_nil]
 | cons x rest ih =>
  intro done ns k hd hk hn
  cases k with
  | zero => simp at hk
  | succ k =>
   have hlen : W.length = done.length + (rest.length + 1) := by rw [hd]; simp
   have hdn : done.length = ns.length := by rw [hn]; simp
   have hg : (rd (ByteArray.empty, ()) (W.map fun x => (strLit x, ())) (done.length : Int)).1 = strLit x := by
    show ((W.map fun x => (strLit x, ())).getD (done.length : Int).toNat (ByteArray.empty, ())).1 = _
    rw [Int.toNat_natCast, hd, List.getD_eq_getElem?_getD, List.getElem?_map, List.getElem?_append_right (Nat.le_refl _), Nat.sub_self]
    rfl
   rw [impl_readNums.G0, impl_readNums.R0, decide_eq_true (by omega), cond_true, List.length_map, if_pos (by omega), hg, F_numL x (hw x (by rw [hd]; simp)), Option.bind_some]
   by_cases hb : (numV (strLit x)).2 = true
   ·obtain ⟨e1, e2⟩ := numV_true x hb
    rw [hb, Bool.not_true, cond_false, List.length_map, if_pos (by simp only [List.length_cons, List.length_nil, maxRow]; omega), w64_in _ (by omega)]
    generalize (numV (strLit x)).1 = v at e1 e2
    have ih' := ih (done ++ [x]) (ns ++ [v]) k (by rw [hd]; simp) (by simp only [List.length_cons] at hk; omega) (by rw [hn, e1]; simp)
    have e3 : ((done.length : Int) + 1) = ((done ++ [x]).length : Int) := by simp
    have e4 : (ns.map fun x => (x, ())) ++ [(v, ())] = (ns ++ [v]).map fun x => (x, ()) := by simp
    rw [e3, e4]
    rcases ih' with ⟨ms, a1, a2, a3⟩ | ⟨a1, out, a2⟩
    ·refine Or.inl ⟨v :: ms, ?_, by rw [a2, e1]; rfl, by rw [a3]; simp⟩
     intro m hm
     rcases List.mem_cons.1 hm with rfl | hm
     ·exact e2
     ·exact a1 m hm
    ·refine Or.inr ⟨fun ⟨ms, b1, b2⟩ => ?_, out, a2⟩
     cases ms with
     | nil => cases b2
     | cons m ms => exact a1 ⟨ms, fun y hy => b1 y (by simp [hy]), (List.cons.inj b2).2⟩
   ·rw [Bool.not_eq_true] at hb
    rw [hb, Bool.not_false, cond_true]
    refine Or.inr ⟨fun ⟨ms, b1, b2⟩ => ?_, _, rfl⟩
    cases ms with
    | nil => cases b2
    | cons m ms =>
     have e := (List.cons.inj b2).1
     rw [e, numV_itoa m (b1 m (by simp))] at hb
     cases hb
theorem numsOK (W : List (List UInt8)) (hW : W.length ≤ 1048577) (hw : ∀ x ∈ W, x.length ≤ 1048576) :
  (∃ ms : List Int, (∀ m ∈ ms, i64P m) ∧ W = ms.map Lib.itoa ∧ F_impl_readNums (W.map (fun x => (strLit x, ())), ()) = some (ms.map (fun x => (x, ())), true, ())) ∨
   ((¬ ∃ ms : List Int, (∀ m ∈ ms, i64P m) ∧ W = ms.map Lib.itoa) ∧ F_impl_readNums (W.map (fun x => (strLit x, ())), ()) = some ([], false, ())) := by
 have h := numsLoop W hW hw (300 + (W.map fun x => (strLit x, ())).length) _ (impl_readNums.A0 (W.map fun x => (strLit x, ()))) (impl_readNums.A1 (W.map fun x => (strLit x, ()))) W [] [] (300 + (W.map fun x => (strLit x, ())).length) rfl (by rw [List.length_map]; omega) rfl
 have e : F_impl_readNums (W.map (fun x => (strLit x, ())), ()) = impl_readNums.G0 (300 + (W.map fun x => (strLit x, ())).length) (impl_readNums.A0 (W.map fun x => (strLit x, ()))) (impl_readNums.A1 (W.map fun x => (strLit x, ()))) (300 + (W.map fun x => (strLit x, ())).length) (W.map fun x => (strLit x, ())) (W.length : Int) 0 [] := by
  show impl_readNums.FF _ _ = _
  rw [impl_readNums.FF, impl_readNums.T, List.length_map]
 rw [e]
 rcases h with ⟨ms, a1, a2, a3⟩ | ⟨a1, out, a2⟩
 ·refine Or.inl ⟨ms, a1, a2, ?_⟩
  rw [List.nil_append] at a3
  exact a3
 ·exact Or.inr ⟨a1, a2⟩
def idxF (w : List UInt8) : Int → List (List UInt8) → Int
 | _, [] => -1
 | d, x :: r => if w = x then d else idxF w (d + 1) r
theorem indexOK (L : List (List UInt8)) (w : List UInt8) (hL : L.length ≤ 1000) : F_slices_Index_string_string (L.map (fun x => (strLit x, ())), strLit w, ()) = some (idxF w 0 L, ()) := by
 have key : ∀ (k0 : Nat) (rest done : List (List UInt8)) (k : Nat), L = done ++ rest → rest.length < k →
   slices_Index_string_string.G0 k0 (slices_Index_string_string.A0 (L.map fun x => (strLit x, ())) (strLit w)) (fun _ => slices_Index_string_string.A1 (L.map fun x => (strLit x, ())) (strLit w) ()) k (L.map fun x => (strLit x, ())) (strLit w) (L.length : Int) (done.length : Int) = some (idxF w (done.length : Int) rest, ()) := by
  intro k0 rest
  induction rest with
  | nil =>
   intro done k hd hk
   rw [List.append_nil] at hd
   subst hd
   cases k with
   | zero => simp at hk
   | succ k =>
    rw [slices_Index_string_string.G0, slices_Index_string_string.R0, decide_eq_false (by omega), cond_false]
    rfl
  | cons x rest ih =>
   intro done k hd hk
   cases k with
   | zero => simp at hk
   | succ k =>
    have hlen : L.length = done.length + (rest.length + 1) := by rw [hd]; simp
    have hg : (rd (ByteArray.empty, ()) (L.map fun x => (strLit x, ())) (done.length : Int)).1 = strLit x := by
     show ((L.map fun x => (strLit x, ())).getD (done.length : Int).toNat (ByteArray.empty, ())).1 = _
     rw [Int.toNat_natCast, hd, List.getD_eq_getElem?_getD, List.getElem?_map, List.getElem?_append_right (Nat.le_refl _), Nat.sub_self]
     rfl
    rw [slices_Index_string_string.G0, slices_Index_string_string.R0, decide_eq_true (by omega), cond_true, List.length_map, if_pos (by omega), hg, idxF]
    by_cases e : w = x
    ·rw [if_pos e, e, (seq_lit x x).2 rfl]
     rfl
    ·rw [if_neg e, seq_no e, cond_false, w64_in _ (by omega)]
     have := ih (done ++ [x]) k (by rw [hd]; simp) (by simp only [List.length_cons] at hk; omega)
     rw [List.length_append] at this
     exact this
 show slices_Index_string_string.FF _ _ _ = _
 rw [slices_Index_string_string.FF, slices_Index_string_string.T, List.length_map]
 exact key _ L [] _ rfl (by omega)
def opL : List (List UInt8) := [[103, 101, 116], [114, 101, 108, 101, 97, 115, 101], [99, 97, 112], [116, 105, 99, 107], [114, 101, 115, 116, 97, 114, 116], [103, 114, 111, 117, 112], [100, 114, 111, 112]]
theorem opWL_map : opWL = opL.map fun x => (strLit x, ()) := rfl
theorem itoa_inj {a b : Int} (ha : i64P a) (hb : i64P b) (h : Lib.itoa a = Lib.itoa b) : a = b := by
 have h1 := parse_itoa a ha
 rw [h, parse_itoa b hb] at h1
 injection h1 with h1
 exact h1.symm
theorem itoas_inj : ∀ (a b : List Int), (∀ x ∈ a, i64P x) → (∀ x ∈ b, i64P x) → a.map Lib.itoa = b.map Lib.itoa → a = b
 | [], [], _, _, _ => rfl
 | [], _ :: _, _, _, h => by cases h
 | _ :: _, [], _, _, h => by cases h
 | x :: a, y :: b, ha, hb, h => by
  have h' := List.cons.inj h
  rw [itoa_inj (ha x (by simp)) (hb y (by simp)) h'.1, itoas_inj a b (fun z hz => ha z (by simp [hz])) (fun z hz => hb z (by simp [hz])) h'.2]
theorem split_len (c : UInt8) : ∀ l : List UInt8, (splitL c l).length ≤ l.length + 1
 | [] => by simp [splitL]
 | b :: l => by
  have ih := split_len c l
  rw [splitL]
  split
  ·simp only [List.length_cons]; omega
  ·split
   ·simp
   ·rename_i h t he
    rw [he] at ih
    simp only [List.length_cons] at ih ⊢; omega
theorem split_le (c : UInt8) : ∀ l : List UInt8, ∀ x ∈ splitL c l, x.length ≤ l.length
 | [], x, hx => by rw [splitL, List.mem_singleton] at hx; rw [hx]; exact Nat.le_refl _
 | b :: l, x, hx => by
  have ih := split_le c l
  rw [splitL] at hx
  split at hx
  ·rcases List.mem_cons.1 hx with rfl | hx
   ·simp
   ·have := ih x hx; simp only [List.length_cons]; omega
  ·split at hx
   ·rw [List.mem_singleton] at hx; rw [hx]; simp
   ·rename_i h t he
    rcases List.mem_cons.1 hx with rfl | hx
    ·have := ih h (by rw [he]; simp); simp only [List.length_cons]; omega
    ·have := ih x (by rw [he]; simp [hx]); simp only [List.length_cons]; omega
/-- what is made of a kind's place and its numbers -/
noncomputable def mkOp (k : Int) (ns : List (Int × Unit)) (ok : Bool) : Option (Int × Int × Int × Int × Int × Bool × Unit) := cond (decide (k < 0)) (some (0, 0, 0, 0, 0, false, ())) (cond (!ok) (some (0, 0, 0, 0, 0, false, ())) (if 0 ≤ k ∧ k < (7 : Int) then cond ((ns.length : Int) != ([((4 : Int), ()), (1, ()), (2, ()), (0, ()), (0, ()), (4, ()), (1, ())].getD (k.toNat) (0, ())).1) (some (0, 0, 0, 0, 0, false, ()))
 (cond ((ns.length : Int) == 4) (if (0 : Int) ≤ 0 ∧ 0 < (ns.length : Int) then if (0 : Int) ≤ 1 ∧ 1 < (ns.length : Int) then if (0 : Int) ≤ 2 ∧ 2 < (ns.length : Int) then if (0 : Int) ≤ 3 ∧ 3 < (ns.length : Int) then (F_impl_OpRight ((w64 (k + 1)), (ns.getD ((0 : Int).toNat) (0, ())).1, (ns.getD ((1 : Int).toNat) (0, ())).1, (ns.getD ((2 : Int).toNat) (0, ())).1, (ns.getD ((3 : Int).toNat) (0, ())).1, ())).bind fun y5 => some ((w64 (k + 1)), (ns.getD ((0 : Int).toNat) (0, ())).1, (ns.getD ((1 : Int).toNat) (0, ())).1, (ns.getD ((2 : Int).toNat) (0, ())).1, (ns.getD ((3 : Int).toNat) (0, ())).1, y5.1, ()) else none else none else none else none)
 (cond ((ns.length : Int) == 2) (if (0 : Int) ≤ 0 ∧ 0 < (ns.length : Int) then if (0 : Int) ≤ 1 ∧ 1 < (ns.length : Int) then (F_impl_OpRight ((w64 (k + 1)), (ns.getD ((0 : Int).toNat) (0, ())).1, 0, (ns.getD ((1 : Int).toNat) (0, ())).1, 0, ())).bind fun y6 => some ((w64 (k + 1)), (ns.getD ((0 : Int).toNat) (0, ())).1, 0, (ns.getD ((1 : Int).toNat) (0, ())).1, 0, y6.1, ()) else none else none)
 (cond ((ns.length : Int) == 1) (if (0 : Int) ≤ 0 ∧ 0 < (ns.length : Int) then (F_impl_OpRight ((w64 (k + 1)), (ns.getD ((0 : Int).toNat) (0, ())).1, 0, 0, 0, ())).bind fun y7 => some ((w64 (k + 1)), (ns.getD ((0 : Int).toNat) (0, ())).1, 0, 0, 0, y7.1, ()) else none) ((F_impl_OpRight ((w64 (k + 1)), 0, 0, 0, 0, ())).bind fun y8 => some ((w64 (k + 1)), 0, 0, 0, 0, y8.1, ())))))
 else none))
theorem readOp_mk (l : List UInt8) (hl : l.length ≤ 1048576) (w : List UInt8) (ws : List (List UInt8)) (hW : splitL 32 l = w :: ws) : ∃ ns ok, F_impl_readOp (strLit l, ()) = mkOp (idxF w 0 opL) ns ok ∧ (ok = true → ∃ ms : List Int, (∀ m ∈ ms, i64P m) ∧ ws = ms.map Lib.itoa ∧ ns = ms.map fun x => (x, ())) ∧ (∀ ms : List Int, (∀ m ∈ ms, i64P m) → ws = ms.map Lib.itoa → ok = true) := by
 have hlen := split_len 32 l
 have hle := split_le 32 l
 rw [hW] at hlen hle
 simp only [List.length_cons] at hlen
 have hn := numsOK ws (by omega) fun x hx => Nat.le_trans (hle x (by simp [hx])) hl
 have e0 : ∀ y4 : List (Int × Unit) × Bool × Unit, F_impl_readNums (ws.map (fun x => (strLit x, ())), ()) = some y4 → F_impl_readOp (strLit l, ()) = mkOp (idxF w 0 opL) y4.1 y4.2.1 := by
  intro y4 hy
  show impl_readOp.T (strLit l) = _
  rw [impl_readOp.T, opWords, Option.bind_some, implSplit 32 l hl, Option.bind_some, hW]
  have g0 : (((w :: ws).map fun x => (strLit x, ())).getD (0 : Int).toNat (ByteArray.empty, ())).1 = strLit w := rfl
  have hl1 : ((w :: ws).map fun x => (strLit x, ())).length = ws.length + 1 := by simp
  have g1 : (((w :: ws).map fun x => (strLit x, ())).drop (1 : Int).toNat).take (((w :: ws).map fun x => (strLit x, ())).length - (1 : Int).toNat) = ws.map fun x => (strLit x, ()) := by
   rw [hl1]
   show (ws.map fun x => (strLit x, ())).take (ws.length + 1 - 1) = _
   rw [Nat.add_sub_cancel, List.take_of_length_le (by simp)]
  rw [g1, hy]
  simp only [g0, hl1, opWL_map]
  rw [if_pos (by omega), indexOK opL w (by decide), Option.bind_some, if_pos (by omega), if_pos (by omega), Option.bind_some]
  rfl
 rcases hn with ⟨ms, a1, a2, a3⟩ | ⟨a1, a2⟩
 ·exact ⟨_, _, e0 _ a3, fun _ => ⟨ms, a1, a2, rfl⟩, fun _ _ _ => rfl⟩
 ·exact ⟨_, _, e0 _ a2, fun h => (by cases h), fun ms b1 b2 => absurd ⟨ms, b1, b2⟩ a1⟩
theorem mkOp1 (i g a b : Int) : mkOp 0 [(i, ()), (g, ()), (a, ()), (b, ())] true = some (1, i, g, a, b, opB 1 i g a b, ()) := by
 unfold mkOp
 rw [decide_eq_false (by omega), cond_false, Bool.not_true, cond_false, if_pos (by omega)]
 simp only [List.length_cons, List.length_nil]
 rw [show ([((4 : Int), ()), (1, ()), (2, ()), (0, ()), (0, ()), (4, ()), (1, ())].getD ((0 : Int).toNat) (0, ())).1 = 4 from rfl]
 rw [show (((0 + 1 + 1 + 1 + 1 : Nat) : Int) != 4) = false from rfl, cond_false, show (((0 + 1 + 1 + 1 + 1 : Nat) : Int) == 4) = true from rfl, cond_true]
 rw [if_pos (by omega), if_pos (by omega), if_pos (by omega), if_pos (by omega)]
 rw [w64_in _ (by omega)]
 simp only [show Int.toNat 0 = 0 from rfl, show Int.toNat 1 = 1 from rfl, show Int.toNat 2 = 2 from rfl, show Int.toNat 3 = 3 from rfl, List.getD_cons_zero, List.getD_cons_succ]
 rw [show (0 : Int) + 1 = 1 from rfl, implOp, Option.bind_some]
theorem mkOpN1 (ns : List (Int × Unit)) (h : ns.length ≠ 4) : mkOp 0 ns true = some (0, 0, 0, 0, 0, false, ()) := by
 unfold mkOp
 rw [decide_eq_false (by omega), cond_false, Bool.not_true, cond_false, if_pos (by omega)]
 rw [show ([((4 : Int), ()), (1, ()), (2, ()), (0, ()), (0, ()), (4, ()), (1, ())].getD ((0 : Int).toNat) (0, ())).1 = 4 from rfl]
 rw [show ((ns.length : Int) != 4) = true from bne_iff_ne.2 (by omega), cond_true]
theorem mkOp2 (i : Int) : mkOp 1 [(i, ())] true = some (2, i, 0, 0, 0, opB 2 i 0 0 0, ()) := by
 unfold mkOp
 rw [decide_eq_false (by omega), cond_false, Bool.not_true, cond_false, if_pos (by omega)]
 simp only [List.length_cons, List.length_nil]
 rw [show ([((4 : Int), ()), (1, ()), (2, ()), (0, ()), (0, ()), (4, ()), (1, ())].getD ((1 : Int).toNat) (0, ())).1 = 1 from rfl]
 rw [show (((0 + 1 : Nat) : Int) != 1) = false from rfl, cond_false, show (((0 + 1 : Nat) : Int) == 4) = false from rfl, cond_false, show (((0 + 1 : Nat) : Int) == 2) = false from rfl, cond_false, show (((0 + 1 : Nat) : Int) == 1) = true from rfl, cond_true]
 rw [if_pos (by omega)]
 rw [w64_in _ (by omega)]
 simp only [show Int.toNat 0 = 0 from rfl, show Int.toNat 1 = 1 from rfl, show Int.toNat 2 = 2 from rfl, show Int.toNat 3 = 3 from rfl, List.getD_cons_zero, List.getD_cons_succ]
 rw [show (1 : Int) + 1 = 2 from rfl, implOp, Option.bind_some]
theorem mkOpN2 (ns : List (Int × Unit)) (h : ns.length ≠ 1) : mkOp 1 ns true = some (0, 0, 0, 0, 0, false, ()) := by
 unfold mkOp
 rw [decide_eq_false (by omega), cond_false, Bool.not_true, cond_false, if_pos (by omega)]
 rw [show ([((4 : Int), ()), (1, ()), (2, ()), (0, ()), (0, ()), (4, ()), (1, ())].getD ((1 : Int).toNat) (0, ())).1 = 1 from rfl]
 rw [show ((ns.length : Int) != 1) = true from bne_iff_ne.2 (by omega), cond_true]
theorem mkOp3 (i a : Int) : mkOp 2 [(i, ()), (a, ())] true = some (3, i, 0, a, 0, opB 3 i 0 a 0, ()) := by
 unfold mkOp
 rw [decide_eq_false (by omega), cond_false, Bool.not_true, cond_false, if_pos (by omega)]
 simp only [List.length_cons, List.length_nil]
 rw [show ([((4 : Int), ()), (1, ()), (2, ()), (0, ()), (0, ()), (4, ()), (1, ())].getD ((2 : Int).toNat) (0, ())).1 = 2 from rfl]
 rw [show (((0 + 1 + 1 : Nat) : Int) != 2) = false from rfl, cond_false, show (((0 + 1 + 1 : Nat) : Int) == 4) = false from rfl, cond_false, show (((0 + 1 + 1 : Nat) : Int) == 2) = true from rfl, cond_true]
 rw [if_pos (by omega), if_pos (by omega)]
 rw [w64_in _ (by omega)]
 simp only [show Int.toNat 0 = 0 from rfl, show Int.toNat 1 = 1 from rfl, show Int.toNat 2 = 2 from rfl, show Int.toNat 3 = 3 from rfl, List.getD_cons_zero, List.getD_cons_succ]
 rw [show (2 : Int) + 1 = 3 from rfl, implOp, Option.bind_some]
theorem mkOpN3 (ns : List (Int × Unit)) (h : ns.length ≠ 2) : mkOp 2 ns true = some (0, 0, 0, 0, 0, false, ()) := by
 unfold mkOp
 rw [decide_eq_false (by omega), cond_false, Bool.not_true, cond_false, if_pos (by omega)]
 rw [show ([((4 : Int), ()), (1, ()), (2, ()), (0, ()), (0, ()), (4, ()), (1, ())].getD ((2 : Int).toNat) (0, ())).1 = 2 from rfl]
 rw [show ((ns.length : Int) != 2) = true from bne_iff_ne.2 (by omega), cond_true]
theorem mkOp4 : mkOp 3 [] true = some (4, 0, 0, 0, 0, opB 4 0 0 0 0, ()) := by
 unfold mkOp
 rw [decide_eq_false (by omega), cond_false, Bool.not_true, cond_false, if_pos (by omega)]
 simp only [List.length_cons, List.length_nil]
 rw [show ([((4 : Int), ()), (1, ()), (2, ()), (0, ()), (0, ()), (4, ()), (1, ())].getD ((3 : Int).toNat) (0, ())).1 = 0 from rfl]
 rw [show (((0 : Nat) : Int) != 0) = false from rfl, cond_false, show (((0 : Nat) : Int) == 4) = false from rfl, cond_false, show (((0 : Nat) : Int) == 2) = false from rfl, cond_false, show (((0 : Nat) : Int) == 1) = false from rfl, cond_false]
 rw [w64_in _ (by omega)]
 rw [show (3 : Int) + 1 = 4 from rfl, implOp, Option.bind_some]
theorem mkOpN4 (ns : List (Int × Unit)) (h : ns.length ≠ 0) : mkOp 3 ns true = some (0, 0, 0, 0, 0, false, ()) := by
 unfold mkOp
 rw [decide_eq_false (by omega), cond_false, Bool.not_true, cond_false, if_pos (by omega)]
 rw [show ([((4 : Int), ()), (1, ()), (2, ()), (0, ()), (0, ()), (4, ()), (1, ())].getD ((3 : Int).toNat) (0, ())).1 = 0 from rfl]
 rw [show ((ns.length : Int) != 0) = true from bne_iff_ne.2 (by omega), cond_true]
theorem mkOp5 : mkOp 4 [] true = some (5, 0, 0, 0, 0, opB 5 0 0 0 0, ()) := by
 unfold mkOp
 rw [decide_eq_false (by omega), cond_false, Bool.not_true, cond_false, if_pos (by omega)]
 simp only [List.length_cons, List.length_nil]
 rw [show ([((4 : Int), ()), (1, ()), (2, ()), (0, ()), (0, ()), (4, ()), (1, ())].getD ((4 : Int).toNat) (0, ())).1 = 0 from rfl]
 rw [show (((0 : Nat) : Int) != 0) = false from rfl, cond_false, show (((0 : Nat) : Int) == 4) = false from rfl, cond_false, show (((0 : Nat) : Int) == 2) = false from rfl, cond_false, show (((0 : Nat) : Int) == 1) = false from rfl, cond_false]
 rw [w64_in _ (by omega)]
 rw [show (4 : Int) + 1 = 5 from rfl, implOp, Option.bind_some]
theorem mkOpN5 (ns : List (Int × Unit)) (h : ns.length ≠ 0) : mkOp 4 ns true = some (0, 0, 0, 0, 0, false, ()) := by
 unfold mkOp
 rw [decide_eq_false (by omega), cond_false, Bool.not_true, cond_false, if_pos (by omega)]
 rw [show ([((4 : Int), ()), (1, ()), (2, ()), (0, ()), (0, ()), (4, ()), (1, ())].getD ((4 : Int).toNat) (0, ())).1 = 0 from rfl]
 rw [show ((ns.length : Int) != 0) = true from bne_iff_ne.2 (by omega), cond_true]
theorem mkOp6 (i g a b : Int) : mkOp 5 [(i, ()), (g, ()), (a, ()), (b, ())] true = some (6, i, g, a, b, opB 6 i g a b, ()) := by
 unfold mkOp
 rw [decide_eq_false (by omega), cond_false, Bool.not_true, cond_false, if_pos (by omega)]
 simp only [List.length_cons, List.length_nil]
 rw [show ([((4 : Int), ()), (1, ()), (2, ()), (0, ()), (0, ()), (4, ()), (1, ())].getD ((5 : Int).toNat) (0, ())).1 = 4 from rfl]
 rw [show (((0 + 1 + 1 + 1 + 1 : Nat) : Int) != 4) = false from rfl, cond_false, show (((0 + 1 + 1 + 1 + 1 : Nat) : Int) == 4) = true from rfl, cond_true]
 rw [if_pos (by omega), if_pos (by omega), if_pos (by omega), if_pos (by omega)]
 rw [w64_in _ (by omega)]
 simp only [show Int.toNat 0 = 0 from rfl, show Int.toNat 1 = 1 from rfl, show Int.toNat 2 = 2 from rfl, show Int.toNat 3 = 3 from rfl, List.getD_cons_zero, List.getD_cons_succ]
 rw [show (5 : Int) + 1 = 6 from rfl, implOp, Option.bind_some]
theorem mkOpN6 (ns : List (Int × Unit)) (h : ns.length ≠ 4) : mkOp 5 ns true = some (0, 0, 0, 0, 0, false, ()) := by
 unfold mkOp
 rw [decide_eq_false (by omega), cond_false, Bool.not_true, cond_false, if_pos (by omega)]
 rw [show ([((4 : Int), ()), (1, ()), (2, ()), (0, ()), (0, ()), (4, ()), (1, ())].getD ((5 : Int).toNat) (0, ())).1 = 4 from rfl]
 rw [show ((ns.length : Int) != 4) = true from bne_iff_ne.2 (by omega), cond_true]
theorem mkOp7 (i : Int) : mkOp 6 [(i, ())] true = some (7, i, 0, 0, 0, opB 7 i 0 0 0, ()) := by
 unfold mkOp
 rw [decide_eq_false (by omega), cond_false, Bool.not_true, cond_false, if_pos (by omega)]
 simp only [List.length_cons, List.length_nil]
 rw [show ([((4 : Int), ()), (1, ()), (2, ()), (0, ()), (0, ()), (4, ()), (1, ())].getD ((6 : Int).toNat) (0, ())).1 = 1 from rfl]
 rw [show (((0 + 1 : Nat) : Int) != 1) = false from rfl, cond_false, show (((0 + 1 : Nat) : Int) == 4) = false from rfl, cond_false, show (((0 + 1 : Nat) : Int) == 2) = false from rfl, cond_false, show (((0 + 1 : Nat) : Int) == 1) = true from rfl, cond_true]
 rw [if_pos (by omega)]
 rw [w64_in _ (by omega)]
 simp only [show Int.toNat 0 = 0 from rfl, show Int.toNat 1 = 1 from rfl, show Int.toNat 2 = 2 from rfl, show Int.toNat 3 = 3 from rfl, List.getD_cons_zero, List.getD_cons_succ]
 rw [show (6 : Int) + 1 = 7 from rfl, implOp, Option.bind_some]
theorem mkOpN7 (ns : List (Int × Unit)) (h : ns.length ≠ 1) : mkOp 6 ns true = some (0, 0, 0, 0, 0, false, ()) := by
 unfold mkOp
 rw [decide_eq_false (by omega), cond_false, Bool.not_true, cond_false, if_pos (by omega)]
 rw [show ([((4 : Int), ()), (1, ()), (2, ()), (0, ()), (0, ()), (4, ()), (1, ())].getD ((6 : Int).toNat) (0, ())).1 = 1 from rfl]
 rw [show ((ns.length : Int) != 1) = true from bne_iff_ne.2 (by omega), cond_true]
theorem implReadOp (l : List UInt8) (hl : l.length ≤ 1048576) : ∃ (r : OpV) (b : Bool), F_impl_readOp (strLit l, ()) = some (r.1, r.2.1, r.2.2.1, r.2.2.2.1, r.2.2.2.2.1, b, ()) ∧ (b = true → opR r = true ∧ l = opS r) ∧ ∀ o : OpV, opR o = true → l = opS o → b = true ∧ r = o := by
 obtain ⟨w, ws, hW⟩ : ∃ w ws, splitL 32 l = w :: ws := by
  cases h : splitL 32 l with
  | nil => exact absurd h (splitL_ne 32 l)
  | cons w ws => exact ⟨w, ws, rfl⟩
 obtain ⟨ns, ok, hF, hok, hok2⟩ := readOp_mk l hl w ws hW
 have hjoin : l = joinL 32 (w :: ws) := by rw [← hW, join_split]
 have hrev : ∀ o : OpV, opR o = true → l = opS o → w = opW o.1 ∧ ok = true ∧ ∀ ms : List Int, (∀ m ∈ ms, i64P m) → ws = ms.map Lib.itoa → ms = opN o := fun o ho hlo => by
  have hsp := opS_split o
  rw [← hlo, hW] at hsp
  have hsm : ∀ n ∈ opN o, i64P n := fun n hn => by have := opN_small ho n hn; unfold i64P; omega
  obtain ⟨e1, e2⟩ := List.cons.inj hsp
  exact ⟨e1, hok2 _ hsm e2, fun ms b1 b2 => itoas_inj ms (opN o) b1 hsm (b2.symm.trans e2)⟩
 have hkk : ∀ o : OpV, opR o = true → o.1 = 1 ∨ o.1 = 2 ∨ o.1 = 3 ∨ o.1 = 4 ∨ o.1 = 5 ∨ o.1 = 6 ∨ o.1 = 7 := fun o ho => (opB_rng ho).1
 have no : F_impl_readOp (strLit l, ()) = some (0, 0, 0, 0, 0, false, ()) → (∀ o : OpV, opR o = true → l = opS o → False) → ∃ (r : OpV) (b : Bool), F_impl_readOp (strLit l, ()) = some (r.1, r.2.1, r.2.2.1, r.2.2.2.1, r.2.2.2.2.1, b, ()) ∧ (b = true → opR r = true ∧ l = opS r) ∧ ∀ o : OpV, opR o = true → l = opS o → b = true ∧ r = o := fun h hn =>
  ⟨(0, 0, 0, 0, 0, ()), false, h, fun h => (by cases h), fun o ho hlo => (hn o ho hlo).elim⟩
 have yes : ∀ r : OpV, F_impl_readOp (strLit l, ()) = some (r.1, r.2.1, r.2.2.1, r.2.2.2.1, r.2.2.2.2.1, opR r, ()) → l = opS r → (∀ o : OpV, opR o = true → l = opS o → r = o) → ∃ (r : OpV) (b : Bool), F_impl_readOp (strLit l, ()) = some (r.1, r.2.1, r.2.2.1, r.2.2.2.1, r.2.2.2.2.1, b, ()) ∧ (b = true → opR r = true ∧ l = opS r) ∧ ∀ o : OpV, opR o = true → l = opS o → b = true ∧ r = o := fun r h hr hu =>
  ⟨r, opR r, h, fun e => ⟨e, hr⟩, fun o ho hlo => by have := hu o ho hlo; subst this; exact ⟨ho, rfl⟩⟩
 cases ok with
 | false =>
  refine no ?_ fun o ho hlo => ?_
  ·rw [hF]
   unfold mkOp
   cases decide (idxF w 0 opL < 0) <;> rfl
  ·cases (hrev o ho hlo).2.1
 | true =>
  obtain ⟨ms, m1, m2, rfl⟩ := hok rfl
  have hns : ∀ o : OpV, opR o = true → l = opS o → ms = opN o := fun o ho hlo => (hrev o ho hlo).2.2 ms m1 m2
  rw [m2] at hjoin
  by_cases q1 : w = [103, 101, 116]
  ·have hidx : idxF w 0 opL = 0 := by rw [q1]; decide
   rw [hidx] at hF
   have kO : ∀ o : OpV, opR o = true → l = opS o → o.1 = 1 := fun o ho hlo => by
    have e := (hrev o ho hlo).1
    rw [q1] at e
    rcases hkk o ho with h | h | h | h | h | h | h <;> rw [h] at e <;> first | exact h | (exact absurd e (by decide))
   by_cases hl1 : ms.length = 4
   ·obtain ⟨i, g, a, b, rfl⟩ : ∃ i g a b : Int, ms = [i, g, a, b] := by
     match ms, hl1 with
     | [i, g, a, b], _ => exact ⟨i, g, a, b, rfl⟩
    refine yes (1, i, g, a, b, ()) (hF.trans (mkOp1 i g a b)) ?_ fun o ho hlo => ?_
    ·rw [hjoin, q1, opS_join]; rfl
    ·have e1 := kO o ho hlo
     have e2 := hns o ho hlo
     have e3 := opR_kinds ho
     obtain ⟨o1, o2, o3, o4, o5, ⟨⟩⟩ := o
     simp only at e1
     subst e1
     have e4 : [i, g, a, b] = [o2, o3, o4, o5] := e2
     simp only [List.cons.injEq, and_true] at e4
     obtain ⟨rfl, rfl, rfl, rfl⟩ := e4
     rfl
   ·refine no (hF.trans (mkOpN1 _ (by rw [List.length_map]; exact hl1))) fun o ho hlo => hl1 ?_
    have e1 := kO o ho hlo
    rw [hns o ho hlo]
    simp [opN, e1]
  by_cases q2 : w = [114, 101, 108, 101, 97, 115, 101]
  ·have hidx : idxF w 0 opL = 1 := by rw [q2]; decide
   rw [hidx] at hF
   have kO : ∀ o : OpV, opR o = true → l = opS o → o.1 = 2 := fun o ho hlo => by
    have e := (hrev o ho hlo).1
    rw [q2] at e
    rcases hkk o ho with h | h | h | h | h | h | h <;> rw [h] at e <;> first | exact h | (exact absurd e (by decide))
   by_cases hl2 : ms.length = 1
   ·obtain ⟨i, rfl⟩ : ∃ i : Int, ms = [i] := by
     match ms, hl2 with
     | [i], _ => exact ⟨i, rfl⟩
    refine yes (2, i, 0, 0, 0, ()) (hF.trans (mkOp2 i)) ?_ fun o ho hlo => ?_
    ·rw [hjoin, q2, opS_join]; rfl
    ·have e1 := kO o ho hlo
     have e2 := hns o ho hlo
     have e3 := opR_kinds ho
     obtain ⟨o1, o2, o3, o4, o5, ⟨⟩⟩ := o
     simp only at e1
     subst e1
     have e4 : [i] = [o2] := e2
     simp only [List.cons.injEq, and_true] at e4
     subst e4
     have ez : o3 = 0 ∧ o4 = 0 ∧ o5 = 0 := by simpa using e3
     obtain ⟨rfl, rfl, rfl⟩ := ez
     rfl
   ·refine no (hF.trans (mkOpN2 _ (by rw [List.length_map]; exact hl2))) fun o ho hlo => hl2 ?_
    have e1 := kO o ho hlo
    rw [hns o ho hlo]
    simp [opN, e1]
  by_cases q3 : w = [99, 97, 112]
  ·have hidx : idxF w 0 opL = 2 := by rw [q3]; decide
   rw [hidx] at hF
   have kO : ∀ o : OpV, opR o = true → l = opS o → o.1 = 3 := fun o ho hlo => by
    have e := (hrev o ho hlo).1
    rw [q3] at e
    rcases hkk o ho with h | h | h | h | h | h | h <;> rw [h] at e <;> first | exact h | (exact absurd e (by decide))
   by_cases hl3 : ms.length = 2
   ·obtain ⟨i, a, rfl⟩ : ∃ i a : Int, ms = [i, a] := by
     match ms, hl3 with
     | [i, a], _ => exact ⟨i, a, rfl⟩
    refine yes (3, i, 0, a, 0, ()) (hF.trans (mkOp3 i a)) ?_ fun o ho hlo => ?_
    ·rw [hjoin, q3, opS_join]; rfl
    ·have e1 := kO o ho hlo
     have e2 := hns o ho hlo
     have e3 := opR_kinds ho
     obtain ⟨o1, o2, o3, o4, o5, ⟨⟩⟩ := o
     simp only at e1
     subst e1
     have e4 : [i, a] = [o2, o4] := e2
     simp only [List.cons.injEq, and_true] at e4
     obtain ⟨rfl, rfl⟩ := e4
     have ez : o3 = 0 ∧ o5 = 0 := by simpa using e3
     obtain ⟨rfl, rfl⟩ := ez
     rfl
   ·refine no (hF.trans (mkOpN3 _ (by rw [List.length_map]; exact hl3))) fun o ho hlo => hl3 ?_
    have e1 := kO o ho hlo
    rw [hns o ho hlo]
    simp [opN, e1]
  by_cases q4 : w = [116, 105, 99, 107]
  ·have hidx : idxF w 0 opL = 3 := by rw [q4]; decide
   rw [hidx] at hF
   have kO : ∀ o : OpV, opR o = true → l = opS o → o.1 = 4 := fun o ho hlo => by
    have e := (hrev o ho hlo).1
    rw [q4] at e
    rcases hkk o ho with h | h | h | h | h | h | h <;> rw [h] at e <;> first | exact h | (exact absurd e (by decide))
   by_cases hl4 : ms.length = 0
   ·obtain ⟨rfl⟩ : ms = [] := by
     exact List.length_eq_zero_iff.1 hl4
    refine yes (4, 0, 0, 0, 0, ()) (hF.trans (mkOp4 )) ?_ fun o ho hlo => ?_
    ·rw [hjoin, q4, opS_join]; rfl
    ·have e1 := kO o ho hlo
     have e2 := hns o ho hlo
     have e3 := opR_kinds ho
     obtain ⟨o1, o2, o3, o4, o5, ⟨⟩⟩ := o
     simp only at e1
     subst e1
     have ez : o2 = 0 ∧ o3 = 0 ∧ o4 = 0 ∧ o5 = 0 := by simpa using e3
     obtain ⟨rfl, rfl, rfl, rfl⟩ := ez
     rfl
   ·refine no (hF.trans (mkOpN4 _ (by rw [List.length_map]; exact hl4))) fun o ho hlo => hl4 ?_
    have e1 := kO o ho hlo
    rw [hns o ho hlo]
    simp [opN, e1]
  by_cases q5 : w = [114, 101, 115, 116, 97, 114, 116]
  ·have hidx : idxF w 0 opL = 4 := by rw [q5]; decide
   rw [hidx] at hF
   have kO : ∀ o : OpV, opR o = true → l = opS o → o.1 = 5 := fun o ho hlo => by
    have e := (hrev o ho hlo).1
    rw [q5] at e
    rcases hkk o ho with h | h | h | h | h | h | h <;> rw [h] at e <;> first | exact h | (exact absurd e (by decide))
   by_cases hl5 : ms.length = 0
   ·obtain ⟨rfl⟩ : ms = [] := by
     exact List.length_eq_zero_iff.1 hl5
    refine yes (5, 0, 0, 0, 0, ()) (hF.trans (mkOp5 )) ?_ fun o ho hlo => ?_
    ·rw [hjoin, q5, opS_join]; rfl
    ·have e1 := kO o ho hlo
     have e2 := hns o ho hlo
     have e3 := opR_kinds ho
     obtain ⟨o1, o2, o3, o4, o5, ⟨⟩⟩ := o
     simp only at e1
     subst e1
     have ez : o2 = 0 ∧ o3 = 0 ∧ o4 = 0 ∧ o5 = 0 := by simpa using e3
     obtain ⟨rfl, rfl, rfl, rfl⟩ := ez
     rfl
   ·refine no (hF.trans (mkOpN5 _ (by rw [List.length_map]; exact hl5))) fun o ho hlo => hl5 ?_
    have e1 := kO o ho hlo
    rw [hns o ho hlo]
    simp [opN, e1]
  by_cases q6 : w = [103, 114, 111, 117, 112]
  ·have hidx : idxF w 0 opL = 5 := by rw [q6]; decide
   rw [hidx] at hF
   have kO : ∀ o : OpV, opR o = true → l = opS o → o.1 = 6 := fun o ho hlo => by
    have e := (hrev o ho hlo).1
    rw [q6] at e
    rcases hkk o ho with h | h | h | h | h | h | h <;> rw [h] at e <;> first | exact h | (exact absurd e (by decide))
   by_cases hl6 : ms.length = 4
   ·obtain ⟨i, g, a, b, rfl⟩ : ∃ i g a b : Int, ms = [i, g, a, b] := by
     match ms, hl6 with
     | [i, g, a, b], _ => exact ⟨i, g, a, b, rfl⟩
    refine yes (6, i, g, a, b, ()) (hF.trans (mkOp6 i g a b)) ?_ fun o ho hlo => ?_
    ·rw [hjoin, q6, opS_join]; rfl
    ·have e1 := kO o ho hlo
     have e2 := hns o ho hlo
     have e3 := opR_kinds ho
     obtain ⟨o1, o2, o3, o4, o5, ⟨⟩⟩ := o
     simp only at e1
     subst e1
     have e4 : [i, g, a, b] = [o2, o3, o4, o5] := e2
     simp only [List.cons.injEq, and_true] at e4
     obtain ⟨rfl, rfl, rfl, rfl⟩ := e4
     rfl
   ·refine no (hF.trans (mkOpN6 _ (by rw [List.length_map]; exact hl6))) fun o ho hlo => hl6 ?_
    have e1 := kO o ho hlo
    rw [hns o ho hlo]
    simp [opN, e1]
  by_cases q7 : w = [100, 114, 111, 112]
  ·have hidx : idxF w 0 opL = 6 := by rw [q7]; decide
   rw [hidx] at hF
   have kO : ∀ o : OpV, opR o = true → l = opS o → o.1 = 7 := fun o ho hlo => by
    have e := (hrev o ho hlo).1
    rw [q7] at e
    rcases hkk o ho with h | h | h | h | h | h | h <;> rw [h] at e <;> first | exact h | (exact absurd e (by decide))
   by_cases hl7 : ms.length = 1
   ·obtain ⟨i, rfl⟩ : ∃ i : Int, ms = [i] := by
     match ms, hl7 with
     | [i], _ => exact ⟨i, rfl⟩
    refine yes (7, i, 0, 0, 0, ()) (hF.trans (mkOp7 i)) ?_ fun o ho hlo => ?_
    ·rw [hjoin, q7, opS_join]; rfl
    ·have e1 := kO o ho hlo
     have e2 := hns o ho hlo
     have e3 := opR_kinds ho
     obtain ⟨o1, o2, o3, o4, o5, ⟨⟩⟩ := o
     simp only at e1
     subst e1
     have e4 : [i] = [o2] := e2
     simp only [List.cons.injEq, and_true] at e4
     subst e4
     have ez : o3 = 0 ∧ o4 = 0 ∧ o5 = 0 := by simpa using e3
     obtain ⟨rfl, rfl, rfl⟩ := ez
     rfl
   ·refine no (hF.trans (mkOpN7 _ (by rw [List.length_map]; exact hl7))) fun o ho hlo => hl7 ?_
    have e1 := kO o ho hlo
    rw [hns o ho hlo]
    simp [opN, e1]
  refine no ?_ fun o ho hlo => ?_
  ·have hidx : idxF w 0 opL = -1 := by simp [idxF, opL, q1, q2, q3, q4, q5, q6, q7]
   rw [hF, hidx]
   rfl
  ·have e := (hrev o ho hlo).1
   rcases hkk o ho with h | h | h | h | h | h | h <;> rw [h] at e
   ·exact q1 e
   ·exact q2 e
   ·exact q3 e
   ·exact q4 e
   ·exact q5 e
   ·exact q6 e
   ·exact q7 e
end Go.Rv
