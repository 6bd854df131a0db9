/- Plain facts: fill_s. -/
import Derived.Test.YtnoanpohmppnaaaGreatDoorM14
set_option linter.unusedVariables false
set_option linter.unusedSimpArgs false
set_option linter.unusedSectionVars false
namespace Go.Rv
/-! ### filling: the reference -/
section
variable {l : List ITm} {a : Int}
def nxA (l : List ITm) (T : Nat) : Nat → Int
 | 0 => -1
 | i + 1 => if rkA l i < T then nxA l T i else if nxA l T i < 0 then (i : Int) else if rkA l i < rkA l (nxA l T i).toNat then (i : Int) else nxA l T i
theorem nx_ok (T : Nat) : ∀ i, (nxA l T i = -1 ∧ ∀ p, p < i → rkA l p < T) ∨ ∃ q : Nat, nxA l T i = q ∧ q < i ∧ T ≤ rkA l q ∧ ∀ p, p < i → T ≤ rkA l p → rkA l q ≤ rkA l p
 | 0 => Or.inl ⟨rfl, by intro p hp; omega⟩
 | i + 1 => by
  simp only [nxA]
  rcases nx_ok T i with ⟨h1, h2⟩ | ⟨q, h1, h2, h3, h4⟩
  ·by_cases hr : rkA l i < T
   ·rw [if_pos hr]
    refine Or.inl ⟨h1, fun p hp => ?_⟩
    by_cases e : p = i
    ·subst e; exact hr
    ·exact h2 p (by omega)
   ·rw [if_neg hr, if_pos (by omega)]
    refine Or.inr ⟨i, rfl, by omega, by omega, fun p hp hT => ?_⟩
    by_cases e : p = i
    ·subst e; exact Nat.le_refl _
    ·have := h2 p (by omega); omega
  ·right
   by_cases hr : rkA l i < T
   ·rw [if_pos hr]
    refine ⟨q, h1, by omega, h3, fun p hp hT => ?_⟩
    by_cases e : p = i
    ·subst e; omega
    ·exact h4 p (by omega) hT
   ·rw [if_neg hr, if_neg (by omega), h1, Int.toNat_natCast]
    by_cases hc : rkA l i < rkA l q
    ·rw [if_pos hc]
     refine ⟨i, rfl, by omega, by omega, fun p hp hT => ?_⟩
     by_cases e : p = i
     ·subst e; exact Nat.le_refl _
     ·have := h4 p (by omega) hT; omega
    ·rw [if_neg hc]
     refine ⟨q, rfl, by omega, h3, fun p hp hT => ?_⟩
     by_cases e : p = i
     ·subst e; omega
     ·exact h4 p (by omega) hT
theorem nx_none (h : goodI l) : nxA l l.length l.length = -1 := by
 rcases nx_ok (l := l) l.length l.length with ⟨h1, _⟩ | ⟨q, _, h2, h3, _⟩
 ·exact h1
 ·have := rk_lt h2; omega
theorem nx_some (h : goodI l) (T : Nat) (hT : T < l.length) : ∃ q : Nat, nxA l T l.length = q ∧ q < l.length ∧ rkA l q = T ∧ itA l q = oA l T := by
 obtain ⟨p, hp, hr, he⟩ := rk_ex h hT
 rcases nx_ok (l := l) T l.length with ⟨_, h2⟩ | ⟨q, h1, h2, h3, h4⟩
 ·have := h2 p hp; omega
 ·have := h4 p hp (by omega)
  have hq : rkA l q = T := by omega
  have e := rk_inj h h2 hp (by omega)
  subst e
  exact ⟨q, h1, h2, hq, he⟩
variable (h : goodI l) (hid : ∀ p, p < l.length → idP (itA l p).1) (hn : l.length ≤ 100) (ha : 0 ≤ a ∧ a ≤ 72057594037927936)
include h hn
theorem sp0 (k0 : Nat) (hx : List ITm → Int → Int → List (Int × Unit) → List (Bool × Unit) → Option (List (Int × Unit) × Unit)) (rest : Int) (out : List (Int × Unit)) (dn : List (Bool × Unit)) (k : Nat) (hk : l.length < k) :
  spec_l05Fill.G0 k0 hx k l rest 0 0 out dn = hx l rest (sumTo l.length fun p => (itA l p).2.2.1) out dn := by
 refine run 0 l.length (fun k i => spec_l05Fill.G0 k0 hx k l rest (sumTo i fun p => (itA l p).2.2.1) (i : Nat) out dn) _ (fun k i _ hi => ?_) (fun k => ?_) k (by omega) (by omega)
 ·have hb := sumTo_bd 1073741824 (fun p => (itA l p).2.2.1) i fun q hq => by have := ow_rk h q (by omega); omega
  have hw := ow_rk h i hi
  show spec_l05Fill.G0 k0 hx (k + 1) l rest (sumTo i fun p => (itA l p).2.2.1) (i : Nat) out dn = spec_l05Fill.G0 k0 hx k l rest (sumTo (i + 1) fun p => (itA l p).2.2.1) ((i + 1 : Nat) : Int) out dn
  simp only [spec_l05Fill.G0, spec_l05Fill.R0, rd_cast]
  rw [decide_eq_true (by omega), cond_true, if_pos (by omega), show l.getD i (0, 0, 0, ()) = itA l i from rfl, w64_in _ (by omega), w64_in _ (by omega)]
  rfl
 ·simp only [spec_l05Fill.G0, spec_l05Fill.R0]
  rw [decide_eq_false (by omega), cond_false]
include hid in
theorem sp2 (k0 : Nat) (hx : List ITm → Int → Int → Int → List (Int × Unit) → List (Bool × Unit) → Option (List (Int × Unit) × Unit)) (T : Nat) (rest all : Int) (out : List (Int × Unit)) (k : Nat) (hk : l.length < k) :
  spec_l05Fill.G2 k0 hx k l rest all (-1) 0 out (rg l.length fun p => decide (rkA l p < T)) = hx l rest all (nxA l T l.length) out (rg l.length fun p => decide (rkA l p < T)) := by
 refine run 0 l.length (fun k i => spec_l05Fill.G2 k0 hx k l rest all (nxA l T i) (i : Nat) out (rg l.length fun p => decide (rkA l p < T))) _ (fun k i _ hi => ?_) (fun k => ?_) k (by omega) (by omega)
 ·show spec_l05Fill.G2 k0 hx (k + 1) l rest all (nxA l T i) (i : Nat) out _ = spec_l05Fill.G2 k0 hx k l rest all (nxA l T (i + 1)) ((i + 1 : Nat) : Int) out _
  simp only [spec_l05Fill.G2, spec_l05Fill.R2, rd_cast, rg_len, Int.toNat_natCast]
  rw [decide_eq_true (by omega), cond_true, if_pos (by omega), rg_get _ _ _ _ hi, w64_in _ (by omega)]
  simp only [nxA]
  by_cases hr : rkA l i < T
  ·rw [decide_eq_true hr, if_pos hr]; rfl
  ·rw [decide_eq_false hr, if_neg hr]
   simp only [Bool.not_false, cond_true]
   rcases nx_ok (l := l) T i with ⟨h1, _⟩ | ⟨q, h1, h2, _⟩
   ·rw [h1, decide_eq_true (by omega), cond_true, if_pos (by omega)]; rfl
   ·have c1 : ¬ ((q : Int) < 0) := by omega
    have c2 : (0 : Int) ≤ (i : Int) ∧ (i : Int) < (l.length : Int) := by omega
    have c3 : (0 : Int) ≤ (q : Int) ∧ (q : Int) < (l.length : Int) := by omega
    rw [h1, decide_eq_false c1, cond_false, if_neg c1, if_pos c2, if_pos c3, Int.toNat_natCast, rd_cast]
    have hc := specRatioCmp (itA l i) (itA l q) (h.1 _ (itA_mem hi)) (h.1 _ (itA_mem (by omega))) (hid i hi) (hid q (by omega))
    rw [hc]
    simp only [Option.bind_some]
    have ho := rk_ord h hi (show q < l.length by omega)
    by_cases hlt : rkA l i < rkA l q
    ·rw [decide_eq_true (ho.2 hlt), cond_true, if_pos hlt]; rfl
    ·rw [decide_eq_false (fun x => hlt (ho.1 x)), cond_false, if_neg hlt]; rfl
 ·simp only [spec_l05Fill.G2, spec_l05Fill.R2]
  rw [decide_eq_false (by omega), cond_false]
include ha in
theorem sp_fit (t : Nat) (ht : t < l.length) (hs : ∀ s, s < t → fitAt l a s) : ∃ y, F_spec_l02Times ((oA l t).2.1, allAt l t, restAt l a t, (oA l t).2.2.1, ()) = some (y, ()) ∧ (y > 0 ↔ ¬ fitAt l a t) := by
 obtain ⟨h1, h2⟩ := rest_bd h ha t (by omega) hs
 have hw := w_bd h t ht
 have hA := all_bd h hn t (by omega)
 have hW := want_bd h t ht
 unfold fitAt
 generalize (oA l t).2.1 = w at *
 generalize (oA l t).2.2.1 = g at *
 generalize allAt l t = A at *
 generalize restAt l a t = r at *
 obtain ⟨w, rfl⟩ := Int.eq_ofNat_of_zero_le hW.1
 obtain ⟨A, rfl⟩ := Int.eq_ofNat_of_zero_le hA.1
 obtain ⟨r, rfl⟩ := Int.eq_ofNat_of_zero_le h1
 obtain ⟨g, rfl⟩ := Int.eq_ofNat_of_zero_le (by omega : 0 ≤ g)
 refine ⟨_, specTimes w A r g (by omega) (by omega) (by omega) (by omega), ?_⟩
 rw [Int.natCast_mul, Int.natCast_mul]
 unfold sg
 generalize (w : Int) * (A : Int) = x
 generalize (r : Int) * (g : Int) = y
 split
 ·omega
 ·split <;> omega
include ha hid in
theorem sp1 (k0 : Nat) (hk0 : l.length < k0) (hx2 hx3 : List ITm → Int → Int → List (Int × Unit) → List (Bool × Unit) → Option (List (Int × Unit) × Unit)) (T : Nat) (hT : stopT l a T) :
  ∀ d t k, t + d = T → d < k → spec_l05Fill.G1 k0 hx2 hx3 k l (restAt l a t) (allAt l t) (rg l.length fun p => if rkA l p < t then (itA l p).2.1 else 0) (rg l.length fun p => decide (rkA l p < t)) =
   if T = l.length then hx2 l (restAt l a T) (allAt l T) (rg l.length fun p => if rkA l p < T then (itA l p).2.1 else 0) (rg l.length fun p => decide (rkA l p < T))
   else hx3 l (restAt l a T) (allAt l T) (rg l.length fun p => if rkA l p < T then (itA l p).2.1 else 0) (rg l.length fun p => decide (rkA l p < T)) := by
 intro d
 induction d with
 | zero =>
  intro t k ht hk
  obtain ⟨k, rfl⟩ : ∃ j, k = j + 1 := ⟨k - 1, by omega⟩
  have : t = T := by omega
  subst this
  simp only [spec_l05Fill.G1, spec_l05Fill.R1]
  rw [sp2 h hid hn k0 _ t _ _ _ k0 hk0]
  simp only [spec_l05Fill.A1]
  by_cases he : t = l.length
  ·rw [if_pos he]
   have : nxA l t l.length = -1 := by rw [he]; exact nx_none h
   rw [this, decide_eq_true (by omega), cond_true]
  ·rw [if_neg he]
   have htl : t < l.length := by have := hT.1; omega
   obtain ⟨q, hq, hql, hqr, hqe⟩ := nx_some h t htl
   obtain ⟨y, hy, hyf⟩ := sp_fit h hn ha t htl hT.2.1
   rw [hq, decide_eq_false (by omega), cond_false, if_pos (by omega), if_pos (by omega)]
   simp only [rd_cast]
   rw [show l.getD q (0, 0, 0, ()) = oA l t from hqe, hy]
   simp only [Option.bind_some]
   have hnf : ¬ fitAt l a t := by rcases hT.2.2 with h1 | h1; exact absurd h1 he; exact h1
   rw [decide_eq_true (hyf.2 hnf), cond_true]
 | succ d ih =>
  intro t k ht hk
  obtain ⟨k, rfl⟩ : ∃ j, k = j + 1 := ⟨k - 1, by omega⟩
  have htl : t < l.length := by have := hT.1; omega
  have hs : ∀ s, s < t → fitAt l a s := fun s hs => hT.2.1 s (by omega)
  obtain ⟨q, hq, hql, hqr, hqe⟩ := nx_some h t htl
  obtain ⟨y, hy, hyf⟩ := sp_fit h hn ha t htl hs
  obtain ⟨h1, h2⟩ := rest_bd h ha t (by omega) hs
  have hw := w_bd h t htl
  have hA := all_bd h hn t (by omega)
  have hW := want_bd h t htl
  have IH := ih (t + 1) k (by omega) (by omega)
  simp only [spec_l05Fill.G1, spec_l05Fill.R1]
  rw [sp2 h hid hn k0 _ t _ _ _ k0 hk0]
  simp only [spec_l05Fill.A1]
  rw [hq, decide_eq_false (by omega), cond_false, if_pos (by omega), if_pos (by omega)]
  simp only [rd_cast, rg_len]
  rw [show l.getD q (0, 0, 0, ()) = oA l t from hqe, hy]
  simp only [Option.bind_some]
  have hff : ¬ y > 0 := fun hc => hyf.1 hc (hT.2.1 t (by omega))
  rw [decide_eq_false hff, cond_false, if_pos (by omega), if_pos (by omega), if_pos (by omega), if_pos (by omega), if_pos (by omega), Int.toNat_natCast, rg_set, rg_set]
  have e1 : w64 (restAt l a t - (oA l t).2.1) = restAt l a (t + 1) := by
   rw [w64_in _ (by omega)]; unfold restAt; simp only [sumTo]; omega
  have e2 : w64 (allAt l t - (oA l t).2.2.1) = allAt l (t + 1) := by
   rw [w64_in _ (by omega)]; unfold allAt; simp only [sumTo]; omega
  rw [e1, e2]
  refine Eq.trans ?_ IH
  congr 1
  ·refine rg_congr _ _ _ fun p hp => ?_
   by_cases e : p = q
   ·subst e; rw [if_pos rfl, if_pos (by omega), show itA l p = oA l t from hqe]
   ·have : rkA l p ≠ t := fun hc => e (rk_inj h hp hql (by omega))
    rw [if_neg e]
    by_cases hr : rkA l p < t
    ·rw [if_pos hr, if_pos (by omega)]
    ·rw [if_neg hr, if_neg (by omega)]
  ·refine rg_congr _ _ _ fun p hp => ?_
   by_cases e : p = q
   ·subst e; rw [if_pos rfl, decide_eq_true (by omega)]
   ·have : rkA l p ≠ t := fun hc => e (rk_inj h hp hql (by omega))
    rw [if_neg e]
    by_cases hr : rkA l p < t
    ·rw [decide_eq_true hr, decide_eq_true (by omega)]
    ·rw [decide_eq_false hr, decide_eq_false (by omega)]
include ha in
theorem sp_shr (T p : Nat) (hT : stopT l a T) (hp : p < l.length) (hr : T ≤ rkA l p) : ∃ x y u v w, F_spec_WideMul (IntKind.u64.wrap (restAt l a T), IntKind.u64.wrap (itA l p).2.2.1, ()) = some (x, y, ()) ∧
  F_spec_WideDiv (x, y, IntKind.u64.wrap (allAt l T), ()) = some (u, v, w, ()) ∧ w64 v = shrA l a T p := by
 obtain ⟨h1, h2⟩ := rest_bd h ha T hT.1 hT.2.1
 have hw := ow_rk h p hp
 have hA := all_bd h hn T hT.1
 have hA2 := w_le_all h T p hp hr
 have hS := shr_bd h hn ha T p hT hp hr
 unfold shrA at hS ⊢
 generalize (itA l p).2.2.1 = g at *
 generalize allAt l T = A at *
 generalize restAt l a T = r at *
 obtain ⟨A, rfl⟩ := Int.eq_ofNat_of_zero_le hA.1
 obtain ⟨r, rfl⟩ := Int.eq_ofNat_of_zero_le h1
 obtain ⟨g, rfl⟩ := Int.eq_ofNat_of_zero_le (by omega : 0 ≤ g)
 rw [u64_nat, u64_nat, u64_nat, Nat.mod_eq_of_lt (by omega), Nat.mod_eq_of_lt (by omega), Nat.mod_eq_of_lt (by omega)]
 have hrg : r * g < 340282366920938463463374607431768211456 := Nat.lt_of_le_of_lt (Nat.mul_le_mul (by omega : r ≤ 72057594037927936) (by omega : g ≤ 1073741824)) (by decide)
 rw [← Int.natCast_mul, ← Int.natCast_ediv] at hS
 refine ⟨_, _, _, _, _, wmul r g (by omega) (by omega), wdiv (r * g) A hrg (by omega) (by omega), ?_⟩
 rw [← Int.natCast_mul, ← Int.natCast_ediv]
 generalize r * g / A = Q at *
 show w64 ((Q % 18446744073709551616 : Nat) : Int) = _
 rw [Nat.mod_eq_of_lt (by omega), w64_in _ (by omega)]
include ha in
theorem sp3 (k0 : Nat) (hx : List ITm → Int → List (Int × Unit) → List (Bool × Unit) → Option (List (Int × Unit) × Unit)) (T : Nat) (hT : stopT l a T) (k : Nat) (hk : l.length < k) :
  spec_l05Fill.G3 k0 hx k l (restAt l a T) (allAt l T) (restAt l a T) 0 (rg l.length fun p => if rkA l p < T then (itA l p).2.1 else 0) (rg l.length fun p => decide (rkA l p < T)) =
   hx l (leftA l a T) (rg l.length (bseA l a T)) (rg l.length fun p => decide (rkA l p < T)) := by
 have e0 : (rg l.length fun p => if rkA l p < T then (itA l p).2.1 else 0) = rg l.length fun p => if p < 0 then bseA l a T p else if rkA l p < T then (itA l p).2.1 else 0 := rg_congr _ _ _ fun p _ => (if_neg (by omega : ¬ p < 0)).symm
 have e1 : rg l.length (bseA l a T) = rg l.length fun p => if p < l.length then bseA l a T p else if rkA l p < T then (itA l p).2.1 else 0 := rg_congr _ _ _ fun p hp => (if_pos hp).symm
 rw [e0, e1]
 suffices x : spec_l05Fill.G3 k0 hx k l (restAt l a T) (allAt l T) (restAt l a T - sumTo 0 fun p => if rkA l p < T then 0 else shrA l a T p) ((0 : Nat) : Int) (rg l.length fun p => if p < 0 then bseA l a T p else if rkA l p < T then (itA l p).2.1 else 0) (rg l.length fun p => decide (rkA l p < T)) = hx l (leftA l a T) (rg l.length fun p => if p < l.length then bseA l a T p else if rkA l p < T then (itA l p).2.1 else 0) (rg l.length fun p => decide (rkA l p < T)) by
  rw [show (restAt l a T - sumTo 0 fun p => if rkA l p < T then 0 else shrA l a T p) = restAt l a T by simp [sumTo]] at x
  exact x
 refine run 0 l.length (fun k i => spec_l05Fill.G3 k0 hx k l (restAt l a T) (allAt l T) (restAt l a T - sumTo i fun p => if rkA l p < T then 0 else shrA l a T p) (i : Nat) (rg l.length fun p => if p < i then bseA l a T p else if rkA l p < T then (itA l p).2.1 else 0) (rg l.length fun p => decide (rkA l p < T))) _ (fun k i _ hi => ?_) (fun k => ?_) k (by omega) (by omega)
 ·show spec_l05Fill.G3 k0 hx (k + 1) l _ _ _ (i : Nat) _ _ = spec_l05Fill.G3 k0 hx k l _ _ (restAt l a T - sumTo (i + 1) fun p => if rkA l p < T then 0 else shrA l a T p) ((i + 1 : Nat) : Int) _ _
  simp only [spec_l05Fill.G3, spec_l05Fill.R3, rd_cast, rg_len, Int.toNat_natCast]
  rw [decide_eq_true (by omega), cond_true, if_pos (by omega), rg_get _ _ _ _ hi, w64_in ((i : Int) + 1) (by omega)]
  by_cases hr : rkA l i < T
  ·rw [decide_eq_true hr]
   simp only [Bool.not_true, cond_false, sumTo]
   rw [if_pos hr, Int.add_zero]
   congr 1
   refine rg_congr _ _ _ fun p hp => ?_
   by_cases e : p = i
   ·subst e; rw [if_neg (by omega : ¬ p < p), if_pos (by omega : p < p + 1), if_pos hr]; unfold bseA; rw [if_pos hr]
   ·by_cases e2 : p < i
    ·rw [if_pos e2, if_pos (by omega : p < i + 1)]
    ·rw [if_neg e2, if_neg (by omega : ¬ p < i + 1)]
  ·rw [decide_eq_false hr]
   obtain ⟨x, y, u, v, w, hm, hd, hv⟩ := sp_shr h hn ha T i hT hi (by omega)
   have hS := shr_bd h hn ha T i hT hi (by omega)
   simp only [Bool.not_false, cond_true]
   rw [if_pos (by omega), show l.getD i (0, 0, 0, ()) = itA l i from rfl, hm]
   simp only [Option.bind_some]
   rw [hd]
   simp only [Option.bind_some]
   rw [hv, rg_set]
   simp only [rg_len]
   rw [if_pos (by omega), if_pos (by omega), rg_get _ _ _ _ hi, if_pos rfl]
   simp only [sumTo]
   rw [if_neg hr]
   have hb := sumTo_bd 72057594037927936 (fun p => if rkA l p < T then 0 else shrA l a T p) i fun q hq => by
    by_cases hr : rkA l q < T
    ·rw [if_pos hr]; omega
    ·rw [if_neg hr]; have := shr_bd h hn ha T q hT (by omega) (by omega); omega
   obtain ⟨h1, h2⟩ := rest_bd h ha T hT.1 hT.2.1
   rw [w64_in _ (by omega), show restAt l a T - (sumTo i fun p => if rkA l p < T then 0 else shrA l a T p) - shrA l a T i = restAt l a T - ((sumTo i fun p => if rkA l p < T then 0 else shrA l a T p) + shrA l a T i) by omega]
   congr 1
   refine rg_congr _ _ _ fun p hp => ?_
   by_cases e : p = i
   ·subst e; rw [if_pos rfl, if_pos (by omega)]; unfold bseA; rw [if_neg hr]
   ·rw [if_neg e]
    by_cases e2 : p < i
    ·rw [if_pos e2, if_pos (by omega : p < i + 1)]
    ·rw [if_neg e2, if_neg (by omega : ¬ p < i + 1)]
 ·simp only [spec_l05Fill.G3, spec_l05Fill.R3]
  rw [decide_eq_false (by omega), cond_false]
  rfl
include ha in
theorem sp4 (k0 : Nat) (hx : List (Int × Unit) → Option (List (Int × Unit) × Unit)) (T : Nat) (hT : stopT l a T) (k : Nat) (hk : l.length < k) :
  spec_l05Fill.G4 k0 hx k l (leftA l a T) 0 (rg l.length (bseA l a T)) (rg l.length fun p => decide (rkA l p < T)) = hx (rg l.length (amtA l a T)) := by
 have key : ∀ d i k, i + d = l.length → d < k → spec_l05Fill.G4 k0 hx k l (lfA l a T i) (i : Nat) (rg l.length fun p => if p < i then amtA l a T p else bseA l a T p) (rg l.length fun p => decide (rkA l p < T)) = hx (rg l.length (amtA l a T)) := by
  intro d
  induction d with
  | zero =>
   intro i k hi hk
   obtain ⟨k, rfl⟩ : ∃ j, k = j + 1 := ⟨k - 1, by omega⟩
   simp only [spec_l05Fill.G4, spec_l05Fill.R4]
   rw [decide_eq_false (by omega), cond_false]
   congr 1
   exact rg_congr _ _ _ fun p hp => by rw [if_pos (by omega)]
  | succ d ih =>
   intro i k hi hk
   obtain ⟨k, rfl⟩ : ∃ j, k = j + 1 := ⟨k - 1, by omega⟩
   have hb := lf_bd h hn ha T hT i
   have IH := ih (i + 1) k (by omega) (by omega)
   simp only [spec_l05Fill.G4, spec_l05Fill.R4, rg_len, Int.toNat_natCast]
   rw [decide_eq_true (by omega), cond_true]
   by_cases hl : 0 < lfA l a T i
   ·rw [decide_eq_true (by omega), cond_true, if_pos (by omega), rg_get _ _ _ _ (by omega), rg_get _ _ _ _ (by omega), w64_in ((i : Int) + 1) (by omega), if_neg (by omega : ¬ i < i)]
    by_cases hr : rkA l i < T
    ·rw [decide_eq_true hr]
     simp only [Bool.not_true, cond_false]
     refine Eq.trans ?_ IH
     simp only [lfA]
     rw [if_neg (by omega)]
     congr 1
     refine rg_congr _ _ _ fun p hp => ?_
     by_cases e : p = i
     ·subst e; rw [if_neg (by omega), if_pos (by omega)]; unfold amtA; rw [if_neg (by omega)]
     ·by_cases e2 : p < i
      ·rw [if_pos e2, if_pos (by omega : p < i + 1)]
      ·rw [if_neg e2, if_neg (by omega : ¬ p < i + 1)]
    ·rw [decide_eq_false hr]
     simp only [Bool.not_false, cond_true]
     have hB : bseA l a T i = shrA l a T i := by unfold bseA; rw [if_neg hr]
     have hS := shr_bd h hn ha T i hT (by omega) (by omega)
     rw [if_pos (by omega), if_pos (by omega), rg_set, w64_in _ (by omega), w64_in _ (by omega)]
     refine Eq.trans ?_ IH
     simp only [lfA]
     rw [if_pos (by omega)]
     congr 1
     refine rg_congr _ _ _ fun p hp => ?_
     by_cases e : p = i
     ·subst e; rw [if_pos rfl, if_pos (by omega)]; unfold amtA; rw [if_pos (by omega)]
     ·rw [if_neg e]
      by_cases e2 : p < i
      ·rw [if_pos e2, if_pos (by omega : p < i + 1)]
      ·rw [if_neg e2, if_neg (by omega : ¬ p < i + 1)]
   ·rw [decide_eq_false (by omega), cond_false]
    congr 1
    refine rg_congr _ _ _ fun p hp => ?_
    by_cases e2 : p < i
    ·rw [if_pos e2]
    ·rw [if_neg e2]
     unfold amtA
     rw [if_neg (by rw [lf_neg T i (by omega) p (by omega)]; omega)]
 have := key l.length 0 k (by omega) hk
 rw [show (rg l.length fun p => if p < 0 then amtA l a T p else bseA l a T p) = rg l.length (bseA l a T) from rg_congr _ _ _ fun p _ => by rw [if_neg (by omega)]] at this
 exact this
include ha hid in
theorem specFill (T : Nat) (hT : stopT l a T) : F_spec_l05Fill (a, l, ()) = some (rg l.length (amtA l a T), ()) := by
 simp only [F_spec_l05Fill, spec_l05Fill.FF, spec_l05Fill.T]
 rw [if_pos (by omega), if_pos (by omega), sp0 h hn _ _ _ _ _ _ (by omega)]
 simp only [spec_l05Fill.A0]
 rw [Int.toNat_natCast, rg_const, rg_const]
 have h1 := sp1 h hid hn ha (300 + l.length) (by omega) (spec_l05Fill.A2 a l) (spec_l05Fill.A3 (spec_l05Fill.G3 (300 + l.length) (spec_l05Fill.A4 (spec_l05Fill.G4 (300 + l.length) (spec_l05Fill.A5 a l) (300 + l.length)) a l) (300 + l.length)) a l) T hT T 0 (300 + l.length) (by omega) (by have := hT.1; omega)
 have r0 : restAt l a 0 = a := by unfold restAt; simp [sumTo]
 have a0 : allAt l 0 = sumTo l.length fun p => (itA l p).2.2.1 := by unfold allAt; simp [sumTo]
 have o0 : (rg l.length fun p => if rkA l p < 0 then (itA l p).2.1 else 0) = rg l.length fun _ => (0 : Int) := rg_congr _ _ _ fun p _ => by rw [if_neg (by omega)]
 have d0 : (rg l.length fun p => decide (rkA l p < 0)) = rg l.length fun _ => false := rg_congr _ _ _ fun p _ => decide_eq_false (by omega)
 rw [r0, a0, o0, d0] at h1
 rw [h1]
 by_cases he : T = l.length
 ·rw [if_pos he]
  simp only [spec_l05Fill.A2]
  congr 2
  refine rg_congr _ _ _ fun p hp => ?_
  have hlt : rkA l p < T := by have := rk_lt hp; omega
  unfold amtA
  rw [if_neg (by omega : ¬ (T ≤ rkA l p ∧ 0 < lfA l a T p))]
  unfold bseA
  rw [if_pos hlt, if_pos hlt]
 ·rw [if_neg he]
  simp only [spec_l05Fill.A3]
  rw [sp3 h hn ha _ _ T hT _ (by omega)]
  simp only [spec_l05Fill.A4]
  rw [sp4 h hn ha _ _ T hT _ (by omega)]
  rfl
end
end Go.Rv
