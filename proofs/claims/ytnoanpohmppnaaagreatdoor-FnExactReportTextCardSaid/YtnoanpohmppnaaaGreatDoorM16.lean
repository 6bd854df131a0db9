/- Plain facts: fill_i. -/
import Derived.Test.YtnoanpohmppnaaaGreatDoorM15
set_option linter.unusedVariables false
set_option linter.unusedSimpArgs false
set_option linter.unusedSectionVars false
namespace Go.Rv
/-! ### filling: the program -/
theorem ix_item {l : List ITm} (hnd : l.Nodup) (hn : l.length ≤ 100) (q : Nat) (hq : q < l.length) : F_slices_Index_impl_Item_impl_Item (l, (itA l q).1, (itA l q).2.1, (itA l q).2.2.1, ()) = some ((q : Int), ()) := by
 have key : ∀ (k0 : Nat) (hx0 : Int → Option (Int × Unit)) (hx1 : Unit → Option (Int × Unit)) (d i k : Nat), i + d = q → d < k → slices_Index_impl_Item_impl_Item.G0 k0 hx0 hx1 k l (l.length : Int) (i : Nat) (itA l q).1 (itA l q).2.1 (itA l q).2.2.1 = hx0 (q : Int) := by
  intro k0 hx0 hx1 d
  induction d with
  | zero =>
   intro i k hi hk
   obtain ⟨k, rfl⟩ : ∃ j, k = j + 1 := ⟨k - 1, by omega⟩
   have : i = q := by omega
   subst this
   simp only [slices_Index_impl_Item_impl_Item.G0, slices_Index_impl_Item_impl_Item.R0, rd_cast]
   rw [decide_eq_true (by omega), cond_true, if_pos (by omega), show l.getD i (0, 0, 0, ()) = itA l i from rfl]
   simp
  | succ d ih =>
   intro i k hi hk
   obtain ⟨k, rfl⟩ : ∃ j, k = j + 1 := ⟨k - 1, by omega⟩
   have hil : i < l.length := by omega
   simp only [slices_Index_impl_Item_impl_Item.G0, slices_Index_impl_Item_impl_Item.R0, rd_cast]
   rw [decide_eq_true (by omega), cond_true, if_pos (by omega), show l.getD i (0, 0, 0, ()) = itA l i from rfl, w64_in _ (by omega)]
   have hne : itA l q ≠ itA l i := by
    intro e
    rw [itA_eq hil, itA_eq hq] at e
    have := (List.getElem_inj hnd).1 e
    omega
   have hf : ((itA l q).1 == (itA l i).1 && ((itA l q).2.1 == (itA l i).2.1 && ((itA l q).2.2.1 == (itA l i).2.2.1 && true))) = false := by
    rw [← Bool.not_eq_true]
    intro hc
    simp only [Bool.and_eq_true, beq_iff_eq, and_true] at hc
    exact hne (Prod.ext hc.1 (Prod.ext hc.2.1 (Prod.ext hc.2.2 rfl)))
   rw [hf, cond_false]
   exact ih (i + 1) k (by omega) (by omega)
 simp only [F_slices_Index_impl_Item_impl_Item, slices_Index_impl_Item_impl_Item.FF, slices_Index_impl_Item_impl_Item.T]
 exact key _ _ _ q 0 _ (by omega) (by omega)
section
variable {l : List ITm} {a : Int}
variable (h : goodI l) (hn : l.length ≤ 100) (ha : 0 ≤ a ∧ a ≤ 72057594037927936)
include h hn
theorem im_place (t : Nat) (ht : t < l.length) : ∃ q : Nat, q < l.length ∧ rkA l q = t ∧ itA l q = oA l t ∧ F_impl_fill_1 ((oA l t).1, (oA l t).2.1, (oA l t).2.2.1, l, ()) = some ((q : Int), ()) := by
 obtain ⟨q, hq, hr, he⟩ := rk_ex h ht
 refine ⟨q, hq, hr, he, ?_⟩
 have := ix_item (good_nodup h) hn q hq
 rw [he] at this
 simp only [F_impl_fill_1, impl_fill_1.T, this, Option.bind_some]
include ha in
theorem im_fit (t : Nat) (ht : t < l.length) (hs : ∀ s, s < t → fitAt l a s) : ∃ y, F_impl_Item_fits ((oA l t).1, (oA l t).2.1, (oA l t).2.2.1, restAt l a t, allAt l t, ()) = some (y, ()) ∧ (y = true ↔ fitAt l a t) := by
 obtain ⟨h1, h2⟩ := rest_bd h ha t (by omega) hs
 have hw := w_bd h t ht
 have hA := all_bd h hn t (by omega)
 have hW := want_bd h t ht
 simp only [F_impl_Item_fits, impl_Item_fits.T]
 rw [decide_eq_true (by omega), cond_true]
 unfold fitAt
 generalize (oA l t).2.1 = w at *
 generalize (oA l t).2.2.1 = g at *
 generalize allAt l t = A at *
 generalize restAt l a t = r at *
 obtain ⟨w, rfl⟩ := Int.eq_ofNat_of_zero_le hW.1
 obtain ⟨A, rfl⟩ := Int.eq_ofNat_of_zero_le hA.1
 obtain ⟨r, rfl⟩ := Int.eq_ofNat_of_zero_le h1
 obtain ⟨g, rfl⟩ := Int.eq_ofNat_of_zero_le (by omega : 0 ≤ g)
 rw [F_pairs w A r g (by omega) (by omega) (by omega) (by omega)]
 refine ⟨_, rfl, ?_⟩
 rw [decide_eq_true_iff, Int.natCast_mul, Int.natCast_mul]
 unfold sg
 generalize (w : Int) * (A : Int) = x
 generalize (r : Int) * (g : Int) = y
 split
 ·omega
 ·split <;> omega
abbrev outT (l : List ITm) (t : Nat) : List (Int × Unit) := rg l.length fun p => if rkA l p < t then (itA l p).2.1 else 0
theorem out_set (t q : Nat) (hq : q < l.length) (hr : rkA l q = t) (he : itA l q = oA l t) : (outT l t).set q ((oA l t).2.1, ()) = outT l (t + 1) := by
 rw [rg_set]
 refine rg_congr _ _ _ fun p hp => ?_
 by_cases e : p = q
 ·subst e; rw [if_pos rfl, if_pos (by omega), he]
 ·have : rkA l p ≠ t := fun hc => e (rk_inj h hp hq (by omega))
  rw [if_neg e]
  by_cases hr : rkA l p < t
  ·rw [if_pos hr, if_pos (by omega)]
  ·rw [if_neg hr, if_neg (by omega)]
abbrev RF := Option (List (Int × Unit) × Int × Int × Int × List (Bool × Unit) × Unit)
include ha in
theorem im2 (k0 : Nat) (hx1 : List ITm → Int → Int → Int → Int → Int → Int → List ITm → List (Int × Unit) → List (Bool × Unit) → RF) (hx2 : Nat → Nat → List ITm → Int → Int → Int → Int → Int → Int → List ITm → List (Int × Unit) → List (Bool × Unit) → RF)
  (c1 c2 c3 : Int) (o5 : List (Bool × Unit)) (T : Nat) (hT : stopT l a T) :
  ∀ d t k, t + d = T → d < k → impl_fill.G2 k0 hx1 hx2 k t (l.length - t) l c1 c2 c3 (restAt l a t) (allAt l t) (t : Nat) (sortI l) (outT l t) o5 = hx2 T (l.length - T) l c1 c2 c3 (restAt l a T) (allAt l T) (T : Nat) (sortI l) (outT l T) o5 := by
 intro d
 induction d with
 | zero =>
  intro t k ht hk
  obtain ⟨k, rfl⟩ : ∃ j, k = j + 1 := ⟨k - 1, by omega⟩
  have : t = T := by omega
  subst this
  simp only [impl_fill.G2, impl_fill.R2]
  by_cases he : t = l.length
  ·rw [decide_eq_false (by omega), cond_false]
  ·have htl : t < l.length := by have := hT.1; omega
   obtain ⟨y, hy, hyf⟩ := im_fit h hn ha t htl hT.2.1
   have hnf : ¬ fitAt l a t := by rcases hT.2.2 with h1 | h1; exact absurd h1 he; exact h1
   rw [decide_eq_true (by omega), cond_true, if_pos (by rw [srt_len]; omega), if_pos (by omega), Int.toNat_zero, Nat.add_zero, show (sortI l).getD t (0, 0, 0, ()) = oA l t from rfl, hy]
   have : y = false := by cases y; rfl; exact absurd (hyf.1 rfl) hnf
   subst this
   rfl
 | succ d ih =>
  intro t k ht hk
  obtain ⟨k, rfl⟩ : ∃ j, k = j + 1 := ⟨k - 1, by omega⟩
  have htl : t < l.length := by have := hT.1; omega
  have hs : ∀ s, s < t → fitAt l a s := fun s hs => hT.2.1 s (by omega)
  obtain ⟨y, hy, hyf⟩ := im_fit h hn ha t htl hs
  obtain ⟨q, hq, hr, he, hp⟩ := im_place h hn t htl
  obtain ⟨h1, h2⟩ := rest_bd h ha t (by omega) hs
  have hw := w_bd h t htl
  have hA := all_bd h hn t (by omega)
  have hW := want_bd h t htl
  have := hyf.2 (hT.2.1 t (by omega))
  subst this
  simp only [impl_fill.G2, impl_fill.R2]
  have c1' : t + (l.length - t) ≤ (sortI l).length := by rw [srt_len]; omega
  rw [decide_eq_true (by omega), cond_true, if_pos c1', if_pos (by omega), Int.toNat_zero, Nat.add_zero, show (sortI l).getD t (0, 0, 0, ()) = oA l t from rfl, hy]
  simp only [Option.bind_some, cond_true]
  rw [if_pos c1', if_pos (by omega), hp]
  simp only [Option.bind_some, rg_len, Int.toNat_natCast]
  have e1 : w64 (restAt l a t - (oA l t).2.1) = restAt l a (t + 1) := by
   rw [w64_in _ (by omega)]; unfold restAt; simp only [sumTo]; omega
  have e2 : w64 (allAt l t - (oA l t).2.2.1) = allAt l (t + 1) := by
   rw [w64_in _ (by omega)]; unfold allAt; simp only [sumTo]; omega
  have e3 : w64 ((t : Int) + 1) = ((t + 1 : Nat) : Int) := w64_in _ (by omega)
  rw [if_pos (by omega), if_pos c1', if_pos (by omega), e1, e2, e3, out_set h hn t q hq hr he, Int.toNat_one, show l.length - t - 1 = l.length - (t + 1) by omega]
  exact ih (t + 1) k (by omega) (by omega)
include ha in
theorem im1 (k0 : Nat) (hx1 : List ITm → Int → Int → Int → Int → Int → Int → List ITm → List (Int × Unit) → List (Bool × Unit) → RF) (hx2 : Nat → Nat → List ITm → Int → Int → Int → Int → Int → Int → List ITm → List (Int × Unit) → List (Bool × Unit) → RF)
  (c1 c2 c3 : Int) (o5 : List (Bool × Unit)) (T : Nat) (hT : stopT l a T) (k : Nat) (hk : T < k) :
  impl_fill.G1 k0 hx1 hx2 k l c1 c2 c3 (restAt l a 0) (allAt l 0) 0 (sortI l) (outT l 0) o5 = if T = 0 then hx1 l c1 c2 c3 (restAt l a 0) (allAt l 0) 0 (sortI l) (outT l 0) o5 else hx2 T (l.length - T) l c1 c2 c3 (restAt l a T) (allAt l T) (T : Nat) (sortI l) (outT l T) o5 := by
 obtain ⟨k, rfl⟩ : ∃ j, k = j + 1 := ⟨k - 1, by omega⟩
 simp only [impl_fill.G1, impl_fill.R1]
 by_cases h0 : T = 0
 ·subst h0
  rw [if_pos rfl]
  by_cases he : l.length = 0
  ·rw [decide_eq_false (by rw [srt_len]; omega), cond_false]
  ·obtain ⟨y, hy, hyf⟩ := im_fit h hn ha 0 (by omega) hT.2.1
   have hnf : ¬ fitAt l a 0 := by rcases hT.2.2 with h1 | h1; exact absurd h1.symm he; exact h1
   rw [decide_eq_true (by rw [srt_len]; omega), cond_true, if_pos (by rw [srt_len]; omega), Int.toNat_zero, show (sortI l).getD 0 (0, 0, 0, ()) = oA l 0 from rfl, hy]
   have : y = false := by cases y; rfl; exact absurd (hyf.1 rfl) hnf
   subst this
   rfl
 ·rw [if_neg h0]
  have htl : 0 < l.length := by have := hT.1; omega
  have hs : ∀ s, s < 0 → fitAt l a s := fun s hs => by omega
  obtain ⟨y, hy, hyf⟩ := im_fit h hn ha 0 htl hs
  obtain ⟨q, hq, hr, he, hp⟩ := im_place h hn 0 htl
  obtain ⟨h1, h2⟩ := rest_bd h ha 0 (by omega) hs
  have hw := w_bd h 0 htl
  have hA := all_bd h hn 0 (by omega)
  have hW := want_bd h 0 htl
  have := hyf.2 (hT.2.1 0 (by omega))
  subst this
  have c1' : (0 : Int) ≤ 0 ∧ 0 < ((sortI l).length : Int) := by rw [srt_len]; omega
  rw [decide_eq_true (by rw [srt_len]; omega), cond_true, if_pos c1', Int.toNat_zero, show (sortI l).getD 0 (0, 0, 0, ()) = oA l 0 from rfl, hy]
  simp only [Option.bind_some, cond_true]
  rw [if_pos c1', hp]
  simp only [Option.bind_some, rg_len, Int.toNat_natCast]
  have e1 : w64 (restAt l a 0 - (oA l 0).2.1) = restAt l a 1 := by
   rw [w64_in _ (by omega)]; unfold restAt; simp [sumTo]
  have e2 : w64 (allAt l 0 - (oA l 0).2.2.1) = allAt l 1 := by
   rw [w64_in _ (by omega)]; unfold allAt; simp only [sumTo]; omega
  have e3 : w64 ((0 : Int) + 1) = ((1 : Nat) : Int) := w64_in _ (by omega)
  rw [if_pos (by omega), if_pos (by rw [srt_len]; omega), e1, e2, e3, out_set h hn 0 q hq hr he, Int.toNat_one, srt_len]
  exact im2 h hn ha k0 hx1 hx2 c1 c2 c3 o5 T hT (T - 1) 1 k (by omega) (by omega)
theorem im0 (k0 : Nat) (hx : List ITm → Int → Int → Int → Int → Int → Int → List (Int × Unit) → List (Bool × Unit) → RF) (c1 c2 c3 out out3 : Int) (o3 : List (Int × Unit)) (o4 : List (Bool × Unit)) (k : Nat) (hk : l.length < k) :
  impl_fill.G0 k0 hx k l (l.length : Int) 0 l c1 c2 c3 out 0 out3 o3 o4 = hx l c1 c2 c3 out (sumTo l.length fun p => (itA l p).2.2.1) out3 o3 o4 := by
 refine run 0 l.length (fun k i => impl_fill.G0 k0 hx k l (l.length : Int) (i : Nat) l c1 c2 c3 out (sumTo i fun p => (itA l p).2.2.1) out3 o3 o4) _ (fun k i _ hi => ?_) (fun k => ?_) k (by omega) (by omega)
 ·have hb := sumTo_bd 1073741824 (fun p => (itA l p).2.2.1) i fun q hq => by have := ow_rk h q (by omega); omega
  have hw := ow_rk h i hi
  show impl_fill.G0 k0 hx (k + 1) l _ (i : Nat) l c1 c2 c3 out (sumTo i fun p => (itA l p).2.2.1) out3 o3 o4 = impl_fill.G0 k0 hx k l _ ((i + 1 : Nat) : Int) l c1 c2 c3 out (sumTo (i + 1) fun p => (itA l p).2.2.1) out3 o3 o4
  simp only [impl_fill.G0, impl_fill.R0, rd_cast]
  rw [decide_eq_true (by omega), cond_true, if_pos (by omega), show l.getD i (0, 0, 0, ()) = itA l i from rfl, w64_in ((i : Int) + 1) (by omega), w64_in _ (by omega)]
  rfl
 ·simp only [impl_fill.G0, impl_fill.R0]
  rw [decide_eq_false (by omega), cond_false]
def shrT (l : List ITm) (a : Int) (T j : Nat) : Int := restAt l a T * (oA l (T + j)).2.2.1 / allAt l T
include ha in
theorem im_shr (T j : Nat) (hT : stopT l a T) (hj : T + j < l.length) : F_impl_share (restAt l a T, (oA l (T + j)).2.2.1, allAt l T, ()) = some (shrT l a T j, ()) ∧ 0 ≤ shrT l a T j ∧ shrT l a T j ≤ a := by
 obtain ⟨q, hq, hr, he⟩ := rk_ex h hj
 obtain ⟨h1, h2⟩ := rest_bd h ha T hT.1 hT.2.1
 have hw := ow_rk h q hq
 have hA := all_bd h hn T hT.1
 have hA2 := w_le_all h T q hq (by omega)
 have hS := shr_bd h hn ha T q hT hq (by omega)
 unfold shrT
 unfold shrA at hS
 rw [← show itA l q = oA l (T + j) from he]
 generalize (itA l q).2.2.1 = g at *
 generalize allAt l T = A at *
 generalize restAt l a T = r at *
 obtain ⟨A, rfl⟩ := Int.eq_ofNat_of_zero_le hA.1
 obtain ⟨r, rfl⟩ := Int.eq_ofNat_of_zero_le h1
 obtain ⟨g, rfl⟩ := Int.eq_ofNat_of_zero_le (by omega : 0 ≤ g)
 rw [← Int.natCast_mul, ← Int.natCast_ediv] at hS ⊢
 refine ⟨F_share r g A (by omega) (by omega) (by omega) (by omega) ?_, hS⟩
 generalize r * g / A = Q at *
 omega
theorem shr_eq (T q j : Nat) (hq : q < l.length) (hr : rkA l q = T + j) : shrA l a T q = shrT l a T j := by
 unfold shrA shrT
 rw [← rk_at hq, hr]
include ha in
theorem left_eq (T : Nat) (hT : stopT l a T) : restAt l a T - sumTo (l.length - T) (shrT l a T) = leftA l a T := by
 unfold leftA
 have e := sumTo_rk l h (fun t => if t < T then 0 else restAt l a T * (oA l t).2.2.1 / allAt l T)
 have e1 : (sumTo l.length fun p => if rkA l p < T then 0 else shrA l a T p) = sumTo l.length fun p => (fun t => if t < T then 0 else restAt l a T * (oA l t).2.2.1 / allAt l T) (rkA l p) := by
  refine sumTo_congr _ _ _ fun p hp => ?_
  by_cases hr : rkA l p < T
  ·simp only [if_pos hr]
  ·simp only [if_neg hr]
   unfold shrA
   rw [show oA l (rkA l p) = itA l p from rk_at hp]
 rw [e1, e]
 have hs := sumTo_split (fun t => if t < T then 0 else restAt l a T * (oA l t).2.2.1 / allAt l T) T (l.length - T)
 rw [show T + (l.length - T) = l.length by have := hT.1; omega] at hs
 rw [hs, sumTo_zero _ T fun q hq => by simp only [if_pos hq]]
 have : sumTo (l.length - T) (fun i => if T + i < T then 0 else restAt l a T * (oA l (T + i)).2.2.1 / allAt l T) = sumTo (l.length - T) (shrT l a T) := by
  refine sumTo_congr _ _ _ fun i hi => ?_
  rw [if_neg (by omega)]; rfl
 rw [this]
 omega
abbrev outJ (l : List ITm) (a : Int) (T j : Nat) : List (Int × Unit) := rg l.length fun p => if rkA l p < T then (itA l p).2.1 else if rkA l p < T + j then shrA l a T p else 0
abbrev poorJ (l : List ITm) (T j : Nat) : List (Bool × Unit) := rg l.length fun p => decide (T ≤ rkA l p ∧ rkA l p < T + j)
theorem outJ_set (T j q : Nat) (hq : q < l.length) (hr : rkA l q = T + j) : (outJ l a T j).set q (shrT l a T j, ()) = outJ l a T (j + 1) := by
 rw [rg_set]
 refine rg_congr _ _ _ fun p hp => ?_
 by_cases e : p = q
 ·subst e; rw [if_pos rfl, if_neg (by omega), if_pos (by omega), shr_eq h hn T p j hq hr]
 ·have : rkA l p ≠ T + j := fun hc => e (rk_inj h hp hq (by omega))
  rw [if_neg e]
  by_cases h1 : rkA l p < T
  ·rw [if_pos h1, if_pos h1]
  ·rw [if_neg h1, if_neg h1]
   by_cases h2 : rkA l p < T + j
   ·rw [if_pos h2, if_pos (by omega)]
   ·rw [if_neg h2, if_neg (by omega)]
theorem poorJ_set (T j q : Nat) (hq : q < l.length) (hr : rkA l q = T + j) : (poorJ l T j).set q (true, ()) = poorJ l T (j + 1) := by
 rw [rg_set]
 refine rg_congr _ _ _ fun p hp => ?_
 by_cases e : p = q
 ·subst e; rw [if_pos rfl, decide_eq_true (by omega)]
 ·have : rkA l p ≠ T + j := fun hc => e (rk_inj h hp hq (by omega))
  rw [if_neg e]
  by_cases h2 : T ≤ rkA l p ∧ rkA l p < T + j
  ·rw [decide_eq_true h2, decide_eq_true (by omega)]
  ·rw [decide_eq_false h2, decide_eq_false (by omega)]
include ha in
theorem shrT_sum (T i : Nat) (hT : stopT l a T) (hi : T + i ≤ l.length) : 0 ≤ sumTo i (shrT l a T) ∧ sumTo i (shrT l a T) ≤ 7205759403792793600 := by
 have hb := sumTo_bd 72057594037927936 (shrT l a T) i fun q hq => by have := (im_shr h hn ha T q hT (by omega)).2; omega
 omega
include ha in
theorem im4 (k0 : Nat) (hx : Int → List ITm → Int → Int → Int → Int → Int → Int → List (Bool × Unit) → List (Int × Unit) → List (Bool × Unit) → RF) (c1 c2 c3 out3 : Int) (o6 : List (Bool × Unit)) (T : Nat) (hT : stopT l a T) (k : Nat) (hk : l.length < k) :
  impl_fill.G4 k0 hx k (restAt l a T) T (l.length - T) ((l.length - T : Nat) : Int) 0 l c1 c2 c3 (restAt l a T) (allAt l T) out3 (poorJ l T 0) (sortI l) (outJ l a T 0) o6 =
   hx (restAt l a T - sumTo (l.length - T) (shrT l a T)) l c1 c2 c3 (restAt l a T) (allAt l T) out3 (poorJ l T (l.length - T)) (outJ l a T (l.length - T)) o6 := by
 have hTl := hT.1
 obtain ⟨b1, b2⟩ := rest_bd h ha T hT.1 hT.2.1
 suffices x : impl_fill.G4 k0 hx k (restAt l a T - sumTo 0 (shrT l a T)) T (l.length - T) ((l.length - T : Nat) : Int) ((0 : Nat) : Int) l c1 c2 c3 (restAt l a T) (allAt l T) out3 (poorJ l T 0) (sortI l) (outJ l a T 0) o6 =
   hx (restAt l a T - sumTo (l.length - T) (shrT l a T)) l c1 c2 c3 (restAt l a T) (allAt l T) out3 (poorJ l T (l.length - T)) (outJ l a T (l.length - T)) o6 by
  rw [show restAt l a T - sumTo 0 (shrT l a T) = restAt l a T by simp [sumTo]] at x
  exact x
 refine run 0 (l.length - T) (fun k i => impl_fill.G4 k0 hx k (restAt l a T - sumTo i (shrT l a T)) T (l.length - T) ((l.length - T : Nat) : Int) (i : Nat) l c1 c2 c3 (restAt l a T) (allAt l T) out3 (poorJ l T i) (sortI l) (outJ l a T i) o6) _ (fun k i _ hi => ?_) (fun k => ?_) k (by omega) (by omega)
 ·show impl_fill.G4 k0 hx (k + 1) (restAt l a T - sumTo i (shrT l a T)) T _ _ (i : Nat) l c1 c2 c3 _ _ out3 (poorJ l T i) _ (outJ l a T i) o6 = impl_fill.G4 k0 hx k (restAt l a T - sumTo (i + 1) (shrT l a T)) T _ _ ((i + 1 : Nat) : Int) l c1 c2 c3 _ _ out3 (poorJ l T (i + 1)) _ (outJ l a T (i + 1)) o6
  obtain ⟨q, hq, hr, he, hp⟩ := im_place h hn (T + i) (by omega)
  obtain ⟨hs, s1, s2⟩ := im_shr h hn ha T i hT (by omega)
  have hb := shrT_sum h hn ha T i hT (by omega)
  simp only [impl_fill.G4, impl_fill.R4, Int.toNat_natCast]
  rw [decide_eq_true (by omega), cond_true, if_pos (by rw [srt_len]; omega), if_pos (by omega), show (sortI l).getD (T + i) (0, 0, 0, ()) = oA l (T + i) from rfl, hp]
  simp only [Option.bind_some]
  rw [hs]
  simp only [Option.bind_some, Int.toNat_natCast]
  rw [outJ_set h hn T i q hq hr, poorJ_set h hn T i q hq hr]
  simp only [rg_len]
  rw [if_pos (by omega), if_pos (by omega), if_pos (by omega), rg_get _ _ _ _ hq, if_neg (by omega : ¬ rkA l q < T), if_pos (by omega : rkA l q < T + (i + 1)), shr_eq h hn T q i hq hr, w64_in ((i : Int) + 1) (by omega), w64_in _ (by omega)]
  simp only [sumTo]
  rw [show restAt l a T - sumTo i (shrT l a T) - shrT l a T i = restAt l a T - (sumTo i (shrT l a T) + shrT l a T i) by omega]
  rfl
 ·simp only [impl_fill.G4, impl_fill.R4]
  rw [decide_eq_false (by omega), cond_false]
include ha in
theorem im3 (k0 : Nat) (hx : Int → List ITm → Int → Int → Int → Int → Int → Int → List (Bool × Unit) → List (Int × Unit) → List (Bool × Unit) → RF) (c1 c2 c3 out3 : Int) (o6 : List (Bool × Unit)) (hT : stopT l a 0) (k : Nat) (hk : l.length < k) :
  impl_fill.G3 k0 hx k (restAt l a 0) (l.length : Int) 0 l c1 c2 c3 (restAt l a 0) (allAt l 0) out3 (poorJ l 0 0) (sortI l) (outJ l a 0 0) o6 =
   hx (restAt l a 0 - sumTo (l.length - 0) (shrT l a 0)) l c1 c2 c3 (restAt l a 0) (allAt l 0) out3 (poorJ l 0 (l.length - 0)) (outJ l a 0 (l.length - 0)) o6 := by
 obtain ⟨b1, b2⟩ := rest_bd h ha 0 hT.1 hT.2.1
 rw [Nat.sub_zero]
 suffices x : impl_fill.G3 k0 hx k (restAt l a 0 - sumTo 0 (shrT l a 0)) (l.length : Int) ((0 : Nat) : Int) l c1 c2 c3 (restAt l a 0) (allAt l 0) out3 (poorJ l 0 0) (sortI l) (outJ l a 0 0) o6 =
   hx (restAt l a 0 - sumTo l.length (shrT l a 0)) l c1 c2 c3 (restAt l a 0) (allAt l 0) out3 (poorJ l 0 l.length) (outJ l a 0 l.length) o6 by
  rw [show restAt l a 0 - sumTo 0 (shrT l a 0) = restAt l a 0 by simp [sumTo]] at x
  exact x
 refine run 0 l.length (fun k i => impl_fill.G3 k0 hx k (restAt l a 0 - sumTo i (shrT l a 0)) (l.length : Int) (i : Nat) l c1 c2 c3 (restAt l a 0) (allAt l 0) out3 (poorJ l 0 i) (sortI l) (outJ l a 0 i) o6) _ (fun k i _ hi => ?_) (fun k => ?_) k (by omega) (by omega)
 ·show impl_fill.G3 k0 hx (k + 1) (restAt l a 0 - sumTo i (shrT l a 0)) _ (i : Nat) l c1 c2 c3 _ _ out3 (poorJ l 0 i) _ (outJ l a 0 i) o6 = impl_fill.G3 k0 hx k (restAt l a 0 - sumTo (i + 1) (shrT l a 0)) _ ((i + 1 : Nat) : Int) l c1 c2 c3 _ _ out3 (poorJ l 0 (i + 1)) _ (outJ l a 0 (i + 1)) o6
  obtain ⟨q, hq, hr, he, hp⟩ := im_place h hn (0 + i) (by omega)
  obtain ⟨hs, s1, s2⟩ := im_shr h hn ha 0 i hT (by omega)
  have hb := shrT_sum h hn ha 0 i hT (by omega)
  simp only [impl_fill.G3, impl_fill.R3, Int.toNat_natCast]
  rw [decide_eq_true (by omega), cond_true, if_pos (by rw [srt_len]; omega), show (sortI l).getD i (0, 0, 0, ()) = oA l (0 + i) by rw [Nat.zero_add], hp]
  simp only [Option.bind_some]
  rw [hs]
  simp only [Option.bind_some, Int.toNat_natCast]
  rw [outJ_set h hn 0 i q hq hr, poorJ_set h hn 0 i q hq hr]
  simp only [rg_len]
  rw [if_pos (by omega), if_pos (by omega), if_pos (by omega), rg_get _ _ _ _ hq, if_neg (by omega : ¬ rkA l q < 0), if_pos (by omega : rkA l q < 0 + (i + 1)), shr_eq h hn 0 q i hq hr, w64_in ((i : Int) + 1) (by omega), w64_in _ (by omega)]
  simp only [sumTo]
  rw [show restAt l a 0 - sumTo i (shrT l a 0) - shrT l a 0 i = restAt l a 0 - (sumTo i (shrT l a 0) + shrT l a 0 i) by omega]
  rfl
 ·simp only [impl_fill.G3, impl_fill.R3]
  rw [decide_eq_false (by omega), cond_false]
abbrev moreA (l : List ITm) (a : Int) (T : Nat) : List (Bool × Unit) := rg l.length fun p => decide (T ≤ rkA l p ∧ 0 < lfA l a T p)
include ha in
theorem im5 (k0 : Nat) (hx : Int → Int → Int → Int → Int → Int → List (Int × Unit) → List (Bool × Unit) → RF) (c1 c2 c3 out out2 out3 : Int) (T : Nat) (hT : stopT l a T) (k : Nat) (hk : l.length < k) :
  impl_fill.G5 k0 hx k (leftA l a T) (l.length : Int) 0 c1 c2 c3 out out2 out3 (rg l.length fun p => decide (T ≤ rkA l p)) (rg l.length (bseA l a T)) (rg l.length fun _ => false) = hx c1 c2 c3 out out2 out3 (rg l.length (amtA l a T)) (moreA l a T) := by
 have e0 : rg l.length (bseA l a T) = rg l.length fun p => if p < 0 then amtA l a T p else bseA l a T p := rg_congr _ _ _ fun p _ => (if_neg (by omega : ¬ p < 0)).symm
 have e1 : rg l.length (amtA l a T) = rg l.length fun p => if p < l.length then amtA l a T p else bseA l a T p := rg_congr _ _ _ fun p hp => (if_pos hp).symm
 have e2 : (rg l.length fun _ => false) = rg l.length fun p => decide (p < 0 ∧ T ≤ rkA l p ∧ 0 < lfA l a T p) := rg_congr _ _ _ fun p _ => (decide_eq_false (by omega)).symm
 have e3 : moreA l a T = rg l.length fun p => decide (p < l.length ∧ T ≤ rkA l p ∧ 0 < lfA l a T p) := rg_congr _ _ _ fun p hp => by
  by_cases hc : T ≤ rkA l p ∧ 0 < lfA l a T p
  ·rw [decide_eq_true hc, decide_eq_true ⟨hp, hc⟩]
  ·rw [decide_eq_false hc, decide_eq_false (fun x => hc x.2)]
 rw [e0, e1, e2, e3]
 refine run 0 l.length (fun k i => impl_fill.G5 k0 hx k (lfA l a T i) (l.length : Int) (i : Nat) c1 c2 c3 out out2 out3 (rg l.length fun p => decide (T ≤ rkA l p)) (rg l.length fun p => if p < i then amtA l a T p else bseA l a T p) (rg l.length fun p => decide (p < i ∧ T ≤ rkA l p ∧ 0 < lfA l a T p))) _ (fun k i _ hi => ?_) (fun k => ?_) k (by omega) (by omega)
 ·show impl_fill.G5 k0 hx (k + 1) (lfA l a T i) _ (i : Nat) c1 c2 c3 out out2 out3 _ _ _ = impl_fill.G5 k0 hx k (lfA l a T (i + 1)) _ ((i + 1 : Nat) : Int) c1 c2 c3 out out2 out3 _ _ _
  have hb := lf_bd h hn ha T hT i
  simp only [impl_fill.G5, impl_fill.R5, rg_len, Int.toNat_natCast, lfA]
  rw [decide_eq_true (by omega), cond_true, if_pos (by omega), rg_get _ _ _ _ hi, rg_get _ _ _ _ hi, w64_in ((i : Int) + 1) (by omega), if_neg (by omega : ¬ i < i)]
  have cg : ∀ (hc : ¬ (T ≤ rkA l i ∧ 0 < lfA l a T i)), (rg l.length fun p => if p < i then amtA l a T p else bseA l a T p) = (rg l.length fun p => if p < i + 1 then amtA l a T p else bseA l a T p) ∧
    (rg l.length fun p => decide (p < i ∧ T ≤ rkA l p ∧ 0 < lfA l a T p)) = (rg l.length fun p => decide (p < i + 1 ∧ T ≤ rkA l p ∧ 0 < lfA l a T p)) := by
   intro hc
   refine ⟨rg_congr _ _ _ fun p hp => ?_, rg_congr _ _ _ fun p hp => ?_⟩
   ·by_cases e : p = i
    ·subst e; rw [if_neg (by omega : ¬ p < p), if_pos (by omega : p < p + 1)]; unfold amtA; rw [if_neg hc]
    ·by_cases e2 : p < i
     ·rw [if_pos e2, if_pos (by omega : p < i + 1)]
     ·rw [if_neg e2, if_neg (by omega : ¬ p < i + 1)]
   ·by_cases e : p = i
    ·subst e; rw [decide_eq_false (by omega), decide_eq_false (fun x => hc x.2)]
    ·by_cases e2 : p < i
     ·simp only [e2, show p < i + 1 by omega, true_and]
     ·rw [decide_eq_false (by omega), decide_eq_false (by omega)]
  by_cases hr : T ≤ rkA l i
  ·rw [decide_eq_true hr, cond_true]
   by_cases hl : 0 < lfA l a T i
   ·have hB : bseA l a T i = shrA l a T i := by unfold bseA; rw [if_neg (by omega)]
    have hS := shr_bd h hn ha T i hT hi hr
    rw [decide_eq_true (by omega), cond_true, if_pos (by omega), if_pos (by omega), if_pos (by omega), rg_set, rg_set, w64_in _ (by omega), w64_in _ (by omega), if_pos ⟨hr, hl⟩]
    congr 1
    ·refine rg_congr _ _ _ fun p hp => ?_
     by_cases e : p = i
     ·subst e; rw [if_pos rfl, if_pos (by omega : p < p + 1)]; unfold amtA; rw [if_pos ⟨hr, hl⟩]
     ·rw [if_neg e]
      by_cases e2 : p < i
      ·rw [if_pos e2, if_pos (by omega : p < i + 1)]
      ·rw [if_neg e2, if_neg (by omega : ¬ p < i + 1)]
    ·refine rg_congr _ _ _ fun p hp => ?_
     by_cases e : p = i
     ·subst e; rw [if_pos rfl, decide_eq_true ⟨by omega, hr, hl⟩]
     ·rw [if_neg e]
      by_cases e2 : p < i
      ·simp only [e2, show p < i + 1 by omega, true_and]
      ·rw [decide_eq_false (by omega), decide_eq_false (by omega)]
   ·obtain ⟨g1, g2⟩ := cg (fun x => hl x.2)
    rw [decide_eq_false (by omega), cond_false, if_neg (fun x => hl x.2), g1, g2]
    rfl
  ·obtain ⟨g1, g2⟩ := cg (fun x => hr x.1)
   rw [decide_eq_false hr, cond_false, if_neg (fun x => hr x.1), g1, g2]
   rfl
 ·simp only [impl_fill.G5, impl_fill.R5]
  rw [decide_eq_false (by omega), cond_false]
include ha in
theorem implFill (T : Nat) (hT : stopT l a T) : F_impl_fill (a, l, ()) = some (rg l.length (amtA l a T), if T = l.length then 0 else restAt l a T, if T = l.length then 0 else allAt l T, (T : Int), moreA l a T, ()) := by
 have hTl := hT.1
 simp only [F_impl_fill, impl_fill.FF, impl_fill.T]
 rw [if_pos (by omega), if_pos (by omega), im0 h hn _ _ _ _ _ _ _ _ _ _ (by omega)]
 simp only [impl_fill.A0, F_sorted l h, Option.bind_some]
 rw [Int.toNat_natCast, rg_const, rg_const]
 have r0 : restAt l a 0 = a := by unfold restAt; simp [sumTo]
 have a0 : allAt l 0 = sumTo l.length fun p => (itA l p).2.2.1 := by unfold allAt; simp [sumTo]
 have o0 : outT l 0 = rg l.length fun _ => (0 : Int) := rg_congr _ _ _ fun p _ => by rw [if_neg (by omega)]
 have h1 := fun k0 hx1 hx2 k hk => im1 h hn ha k0 hx1 hx2 0 0 0 (rg l.length fun _ => false) T hT k hk
 rw [r0, a0, o0] at h1
 rw [h1 _ _ _ _ (by omega)]
 have fin : ∀ (c1 c2 c3 : Int), T ≠ l.length → ∀ left, left = leftA l a T →
   impl_fill.A3 (impl_fill.G5 (300 + l.length) (impl_fill.A4 a l) (300 + l.length)) a l left l c1 c2 c3 (restAt l a T) (allAt l T) (T : Int) (poorJ l T (l.length - T)) (outJ l a T (l.length - T)) (rg l.length fun _ => false) = some (rg l.length (amtA l a T), restAt l a T, allAt l T, (T : Int), moreA l a T, ()) := by
  intro c1 c2 c3 _ left hl
  subst hl
  have e1 : poorJ l T (l.length - T) = rg l.length fun p => decide (T ≤ rkA l p) := rg_congr _ _ _ fun p hp => by
   have := rk_lt hp
   by_cases hr : T ≤ rkA l p
   ·rw [decide_eq_true hr, decide_eq_true (by omega)]
   ·rw [decide_eq_false hr, decide_eq_false (by omega)]
  have e2 : outJ l a T (l.length - T) = rg l.length (bseA l a T) := rg_congr _ _ _ fun p hp => by
   have := rk_lt hp
   unfold bseA
   by_cases hr : rkA l p < T
   ·rw [if_pos hr, if_pos hr]
   ·rw [if_neg hr, if_neg hr, if_pos (by omega)]
  simp only [impl_fill.A3]
  rw [e1, e2, im5 h hn ha _ _ _ _ _ _ _ _ T hT _ (by omega)]
  rfl
 have full : T = l.length → ∀ (c1 c2 : Int), some (outT l T, (0 : Int), (0 : Int), (T : Int), (rg l.length fun _ => false), ()) = some (rg l.length (amtA l a T), if T = l.length then 0 else restAt l a T, if T = l.length then 0 else allAt l T, (T : Int), moreA l a T, ()) := by
  intro he _ _
  rw [if_pos he, if_pos he]
  have e1 : outT l T = rg l.length (amtA l a T) := rg_congr _ _ _ fun p hp => by
   have hlt : rkA l p < T := by have := rk_lt hp; omega
   unfold amtA
   rw [if_neg (by omega : ¬ (T ≤ rkA l p ∧ 0 < lfA l a T p))]
   unfold bseA
   rw [if_pos hlt, if_pos hlt]
  have e2 : (rg l.length fun _ => false) = moreA l a T := rg_congr _ _ _ fun p hp => by
   have hlt : rkA l p < T := by have := rk_lt hp; omega
   exact (decide_eq_false (by omega)).symm
  rw [e1, e2]
 have pj0 : ∀ T, (rg l.length fun _ => false) = poorJ l T 0 := fun T => rg_congr _ _ _ fun p _ => (decide_eq_false (by omega)).symm
 have oj0 : ∀ T, outT l T = outJ l a T 0 := fun T => rg_congr _ _ _ fun p _ => by
  by_cases hr : rkA l p < T
  ·rw [if_pos hr, if_pos hr]
  ·rw [if_neg hr, if_neg hr, if_neg (by omega)]
 by_cases h0 : T = 0
 ·subst h0
  rw [if_pos rfl]
  simp only [impl_fill.A1]
  by_cases he : 0 = l.length
  ·rw [show (((sortI l).length : Int) == 0) = true by rw [srt_len, ← he]; rfl, cond_true, ← full he 0 0, o0]
   rfl
  ·rw [show (((sortI l).length : Int) == 0) = false from beq_eq_false_iff_ne.2 (by rw [srt_len]; omega), cond_false, if_pos (by omega), Int.toNat_natCast, rg_const, srt_len]
   rw [if_neg he, if_neg he, r0, a0, pj0 0, ← o0, oj0 0]
   have x := im3 h hn ha (300 + l.length) (impl_fill.A3 (impl_fill.G5 (300 + l.length) (impl_fill.A4 a l) (300 + l.length)) a l) 0 0 0 0 (poorJ l 0 0) hT (300 + l.length) (by omega)
   rw [r0, a0] at x
   rw [x]
   have y := fin 0 0 0 he _ (left_eq h hn ha 0 hT)
   rw [r0, a0, pj0 0] at y
   exact y
 ·rw [if_neg h0]
  simp only [impl_fill.A2]
  by_cases he : T = l.length
  ·rw [show (((l.length - T : Nat) : Int) == 0) = true by rw [he, Nat.sub_self]; rfl, cond_true, ← full he 0 0]
  ·rw [show (((l.length - T : Nat) : Int) == 0) = false by simp; omega, cond_false, if_pos (by omega), Int.toNat_natCast, rg_const, if_neg he, if_neg he]
   have y := fin 0 0 0 he _ (left_eq h hn ha T hT)
   rw [pj0 T] at y ⊢
   rw [oj0 T, im4 h hn ha _ _ _ _ _ _ _ T hT _ (by omega)]
   exact y
end
end Go.Rv
