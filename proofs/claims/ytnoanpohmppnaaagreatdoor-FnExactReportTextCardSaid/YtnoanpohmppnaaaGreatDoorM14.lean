/- Plain facts: fill0. -/
import Derived.Test.YtnoanpohmppnaaaGreatDoorM13
set_option linter.unusedVariables false
set_option linter.unusedSimpArgs false
set_option linter.unusedSectionVars false
namespace Go.Rv
/-! ### filling: the plain law -/
abbrev itA (l : List ITm) (p : Nat) : ITm := l.getD p (0, 0, 0, ())
def rkA (l : List ITm) (p : Nat) : Nat := (sortI l).idxOf (itA l p)
theorem itA_mem {l : List ITm} {p : Nat} (hp : p < l.length) : itA l p ∈ l := by
 simp only [itA, List.getD_eq_getElem?_getD, List.getElem?_eq_getElem hp, Option.getD_some]; exact List.getElem_mem hp
theorem itA_eq {l : List ITm} {p : Nat} (hp : p < l.length) : itA l p = l[p] := by
 simp [itA, List.getD_eq_getElem?_getD, hp]
theorem good_nodup {l : List ITm} (h : goodI l) : l.Nodup := by
 rw [List.nodup_iff_pairwise_ne]
 exact h.2.1.imp fun hab e => hab (by rw [e])
theorem srt_perm (l : List ITm) : (sortI l).Perm l := List.mergeSort_perm _ _
theorem srt_len (l : List ITm) : (sortI l).length = l.length := (srt_perm l).length_eq
theorem srt_nodup {l : List ITm} (h : goodI l) : (sortI l).Nodup := (srt_perm l).nodup_iff.2 (good_nodup h)
theorem srt_good {l : List ITm} (h : goodI l) (t : Nat) (ht : t < l.length) : itemP (itA (sortI l) t) :=
 h.1 _ ((srt_perm l).mem_iff.1 (itA_mem (by rw [srt_len]; exact ht)))
theorem rk_lt {l : List ITm} {p : Nat} (hp : p < l.length) : rkA l p < l.length := by
 rw [← srt_len]; exact List.idxOf_lt_length_iff.2 ((srt_perm l).mem_iff.2 (itA_mem hp))
theorem rk_at {l : List ITm} {p : Nat} (hp : p < l.length) : itA (sortI l) (rkA l p) = itA l p := by
 have h := rk_lt hp
 rw [← srt_len] at h
 rw [itA_eq h]
 exact List.getElem_idxOf h
theorem rk_inj {l : List ITm} (h : goodI l) {p q : Nat} (hp : p < l.length) (hq : q < l.length) (e : rkA l p = rkA l q) : p = q := by
 have := (rk_at hp).symm.trans ((congrArg (itA (sortI l)) e).trans (rk_at hq))
 rw [itA_eq hp, itA_eq hq] at this
 exact (List.getElem_inj (good_nodup h)).1 this
theorem rk_ex {l : List ITm} (h : goodI l) {t : Nat} (ht : t < l.length) : ∃ p, p < l.length ∧ rkA l p = t ∧ itA l p = itA (sortI l) t := by
 have hts : t < (sortI l).length := by rw [srt_len]; exact ht
 have hm : itA (sortI l) t ∈ l := (srt_perm l).mem_iff.1 (itA_mem hts)
 obtain ⟨p, hp, hpe⟩ := List.getElem_of_mem hm
 refine ⟨p, hp, ?_, by rw [itA_eq hp, hpe]⟩
 unfold rkA
 rw [itA_eq hp, hpe, itA_eq hts]
 exact (srt_nodup h).idxOf_getElem t hts
theorem srt_pair {l : List ITm} (h : goodI l) : (sortI l).Pairwise fun a b => ltI b a = false := by
 have e : ((l.attach).mergeSort fun x y => !ltI y.1 x.1).map (·.1) = sortI l := by
  refine (List.map_mergeSort (r := fun x y : MemI l => !ltI y.1 x.1) (s := fun a b => !ltI b a) (f := fun x : MemI l => x.1) (fun a _ b _ => rfl)).trans ?_
  show ((l.attach).map Subtype.val).mergeSort _ = _
  rw [List.attach_map_subtype_val]
  rfl
 rw [← e, List.pairwise_map]
 refine (List.pairwise_mergeSort (le := fun x y : MemI l => !ltI y.1 x.1) ?_ ?_ _).imp fun hab => by simpa using hab
 ·intro a b c h1 h2
  simp only [Bool.not_eq_true'] at h1 h2 ⊢
  exact ltI_ntrans (h.1 _ c.2) (h.1 _ b.2) (h.1 _ a.2) h2 h1
 ·intro a b
  simp only [Bool.or_eq_true, Bool.not_eq_true']
  by_cases hab : ltI b.1 a.1 = true
  ·right
   rw [ltI_iff] at hab
   rw [ltI_false]
   omega
  ·left; simpa using hab
theorem ltI_of_false {a b : ITm} (h : ltI b a = false) (hne : a.1 ≠ b.1) : ltI a b = true := by
 rw [ltI_false] at h
 rw [ltI_iff]
 omega
theorem rk_ltI {l : List ITm} (h : goodI l) {p q : Nat} (hp : p < l.length) (hq : q < l.length) (e : rkA l p < rkA l q) : ltI (itA l p) (itA l q) = true := by
 have h1 := List.pairwise_iff_getElem.1 (srt_pair h) (rkA l p) (rkA l q) (by rw [srt_len]; exact rk_lt hp) (by rw [srt_len]; exact rk_lt hq) e
 rw [← itA_eq, ← itA_eq, rk_at hp, rk_at hq] at h1
 refine ltI_of_false h1 fun hid => ?_
 have := good_eq h.2.1 (itA_mem hp) (itA_mem hq) hid
 rw [itA_eq hp, itA_eq hq] at this
 have := (List.getElem_inj (good_nodup h)).1 this
 subst this
 omega
theorem rk_ord {l : List ITm} (h : goodI l) {p q : Nat} (hp : p < l.length) (hq : q < l.length) : ordI (itA l p) (itA l q) < 0 ↔ rkA l p < rkA l q := by
 constructor
 ·intro ho
  refine Nat.lt_of_not_le fun hle => ?_
  rcases Nat.lt_or_eq_of_le hle with hlt | heq
  ·have h2 := rk_ltI h hq hp hlt
   have h1 : ltI (itA l p) (itA l q) = true := by unfold ltI; exact decide_eq_true ho
   rw [ltI_iff] at h1 h2
   omega
  ·have := rk_inj h hq hp heq
   subst this
   rw [ordI_neg] at ho
   omega
 ·intro hlt
  have := rk_ltI h hp hq hlt
  unfold ltI at this
  exact of_decide_eq_true this
/-! sums -/
def lsum (f : ITm → Int) (l : List ITm) : Int := (l.map f).sum
theorem lsum_perm {f : ITm → Int} {l l' : List ITm} (h : l.Perm l') : lsum f l = lsum f l' := by
 induction h with
 | nil => rfl
 | cons x _ ih => simp only [lsum, List.map_cons, List.sum_cons] at ih ⊢; rw [ih]
 | swap x y _ => simp only [lsum, List.map_cons, List.sum_cons]; omega
 | trans _ _ ih1 ih2 => rw [ih1, ih2]
theorem sumTo_lsum (f : ITm → Int) (l : List ITm) : sumTo l.length (fun i => f (itA l i)) = lsum f l := by
 have key : ∀ k, k ≤ l.length → sumTo k (fun i => f (itA l i)) = lsum f (l.take k) := by
  intro k
  induction k with
  | zero => intro _; simp [sumTo, lsum]
  | succ k ih =>
   intro hk
   have hk' : k < l.length := hk
   simp only [sumTo]
   rw [ih (by omega), List.take_add_one, List.getElem?_eq_getElem hk', itA_eq hk']
   simp only [lsum, List.map_append, List.sum_append, Option.toList, List.map_cons, List.map_nil, List.sum_cons, List.sum_nil, Int.add_zero]
 rw [key _ (Nat.le_refl _), List.take_length]
theorem sumTo_split (f : Nat → Int) (t : Nat) : ∀ m, sumTo (t + m) f = sumTo t f + sumTo m (fun i => f (t + i))
 | 0 => by simp [sumTo]
 | m + 1 => by
  rw [← Nat.add_assoc]
  simp only [sumTo]
  rw [sumTo_split f t m]; omega
theorem sumTo_srt (f : ITm → Int) (l : List ITm) : sumTo l.length (fun i => f (itA l i)) = sumTo l.length (fun i => f (itA (sortI l) i)) := by
 rw [sumTo_lsum, ← lsum_perm (srt_perm l), ← sumTo_lsum, srt_len]
theorem sumTo_rk (l : List ITm) (h : goodI l) (g : Nat → Int) : sumTo l.length (fun p => g (rkA l p)) = sumTo l.length g := by
 have h1 := sumTo_srt (fun a => g ((sortI l).idxOf a)) l
 refine Eq.trans h1 (sumTo_congr _ _ _ fun t ht => ?_)
 have hts : t < (sortI l).length := by rw [srt_len]; exact ht
 show g ((sortI l).idxOf (itA (sortI l) t)) = g t
 rw [itA_eq hts, (srt_nodup h).idxOf_getElem t hts]
/-! rows told place by place -/
def rg {α : Type} (n : Nat) (f : Nat → α) : List (α × Unit) := (List.range n).map fun p => (f p, ())
theorem rg_len {α : Type} (n : Nat) (f : Nat → α) : (rg n f).length = n := by simp [rg]
theorem rg_get {α : Type} (n : Nat) (f : Nat → α) (z : α × Unit) (p : Nat) (hp : p < n) : (rg n f).getD p z = (f p, ()) := by
 simp [rg, List.getD_eq_getElem?_getD, hp]
theorem rg_set {α : Type} (n : Nat) (f : Nat → α) (q : Nat) (y : α) : (rg n f).set q (y, ()) = rg n fun p => if p = q then y else f p := by
 apply List.ext_getElem
 ·simp [rg]
 ·intro i h1 h2
  simp only [rg, List.getElem_set, List.getElem_map, List.getElem_range]
  by_cases hq : q = i
  ·rw [if_pos hq, if_pos hq.symm]
  ·rw [if_neg hq, if_neg (Ne.symm hq)]
theorem rg_congr {α : Type} (n : Nat) (f g : Nat → α) (h : ∀ p, p < n → f p = g p) : rg n f = rg n g := by
 apply List.ext_getElem
 ·simp [rg]
 ·intro i h1 h2
  simp only [rg, List.getElem_map, List.getElem_range]
  rw [h i (by simpa [rg] using h1)]
theorem rg_const {α : Type} (n : Nat) (c : α) : List.replicate n (c, ()) = rg n fun _ => c := by
 apply List.ext_getElem
 ·simp [rg]
 ·intro i h1 h2; simp [rg]
/-! the law -/
section
variable (l : List ITm) (a : Int)
abbrev oA (t : Nat) : ITm := itA (sortI l) t
def restAt (t : Nat) : Int := a - sumTo t fun s => (oA l s).2.1
def allAt (t : Nat) : Int := sumTo l.length (fun p => (itA l p).2.2.1) - sumTo t fun s => (oA l s).2.2.1
def fitAt (t : Nat) : Prop := (oA l t).2.1 * allAt l t ≤ restAt l a t * (oA l t).2.2.1
def stopT (T : Nat) : Prop := T ≤ l.length ∧ (∀ t, t < T → fitAt l a t) ∧ (T = l.length ∨ ¬ fitAt l a T)
theorem stop_ex : ∃ T, stopT l a T := by
 have key : ∀ d t, t ≤ l.length → l.length - t = d → (∀ s, s < t → fitAt l a s) → ∃ T, stopT l a T := by
  intro d
  induction d with
  | zero => intro t ht hd hs; exact ⟨t, ht, hs, Or.inl (by omega)⟩
  | succ d ih =>
   intro t ht hd hs
   by_cases hf : fitAt l a t
   ·refine ih (t + 1) (by omega) (by omega) fun s hs' => ?_
    by_cases e : s = t
    ·subst e; exact hf
    ·exact hs s (by omega)
   ·exact ⟨t, ht, hs, Or.inr hf⟩
 exact key _ 0 (Nat.zero_le _) rfl (by intro s hs; omega)
def shrA (T p : Nat) : Int := restAt l a T * (itA l p).2.2.1 / allAt l T
def bseA (T p : Nat) : Int := if rkA l p < T then (itA l p).2.1 else shrA l a T p
def leftA (T : Nat) : Int := restAt l a T - sumTo l.length fun p => if rkA l p < T then 0 else shrA l a T p
def lfA (T : Nat) : Nat → Int
 | 0 => leftA l a T
 | i + 1 => if T ≤ rkA l i ∧ 0 < lfA T i then lfA T i - 1 else lfA T i
def amtA (T p : Nat) : Int := if T ≤ rkA l p ∧ 0 < lfA l a T p then bseA l a T p + 1 else bseA l a T p
end
section
variable {l : List ITm} {a : Int} (h : goodI l) (hn : l.length ≤ 100) (ha : 0 ≤ a ∧ a ≤ 72057594037927936)
include h
theorem all_eq (t : Nat) (ht : t ≤ l.length) : allAt l t = sumTo (l.length - t) fun i => (oA l (t + i)).2.2.1 := by
 unfold allAt
 rw [show sumTo l.length (fun p => (itA l p).2.2.1) = sumTo l.length (fun t => (oA l t).2.2.1) from sumTo_srt (fun x => x.2.2.1) l]
 have := sumTo_split (fun i => (oA l i).2.2.1) t (l.length - t)
 rw [show t + (l.length - t) = l.length by omega] at this
 omega
theorem w_bd (t : Nat) (ht : t < l.length) : 1 ≤ (oA l t).2.2.1 ∧ (oA l t).2.2.1 ≤ 1073741824 := (srt_good h t ht).2.2
theorem all_ge (t : Nat) (ht : t < l.length) : (oA l t).2.2.1 ≤ allAt l t := by
 rw [all_eq h t (by omega)]
 obtain ⟨m, hm⟩ : ∃ m, l.length - t = 1 + m := ⟨l.length - t - 1, by omega⟩
 rw [hm, sumTo_split]
 have h1 : sumTo 1 (fun i => (oA l (t + i)).2.2.1) = (oA l t).2.2.1 := by simp [sumTo]
 have h2 := sumTo_bd 1073741824 (fun i => (oA l (t + (1 + i))).2.2.1) m fun q hq => by have := w_bd h (t + (1 + q)) (by omega); omega
 rw [h1]; omega
include hn in
theorem all_bd (t : Nat) (ht : t ≤ l.length) : 0 ≤ allAt l t ∧ allAt l t ≤ 107374182400 := by
 rw [all_eq h t ht]
 have h2 := sumTo_bd 1073741824 (fun i => (oA l (t + i)).2.2.1) (l.length - t) fun q hq => by have := w_bd h (t + q) (by omega); omega
 omega
theorem want_bd (t : Nat) (ht : t < l.length) : 0 ≤ (oA l t).2.1 ∧ (oA l t).2.1 ≤ 1125899906842624 := ⟨(srt_good h t ht).1, (srt_good h t ht).2.1⟩
include ha in
theorem rest_bd : ∀ t, t ≤ l.length → (∀ s, s < t → fitAt l a s) → 0 ≤ restAt l a t ∧ restAt l a t ≤ a := by
 intro t
 induction t with
 | zero => intro _ _; unfold restAt; simp [sumTo]; exact ha.1
 | succ t ih =>
  intro ht hs
  obtain ⟨h1, h2⟩ := ih (by omega) fun s hs' => hs s (by omega)
  have hf := hs t (by omega)
  have hw := w_bd h t (by omega)
  have hA := all_ge h t (by omega)
  have hW := want_bd h t (by omega)
  have e : restAt l a (t + 1) = restAt l a t - (oA l t).2.1 := by unfold restAt; simp only [sumTo]; omega
  unfold fitAt at hf
  have h3 : (oA l t).2.1 * (oA l t).2.2.1 ≤ restAt l a t * (oA l t).2.2.1 := Int.le_trans (Int.mul_le_mul_of_nonneg_left hA hW.1) hf
  have h4 := Int.le_of_mul_le_mul_right h3 (by omega)
  omega
theorem ow_rk (p : Nat) (hp : p < l.length) : 1 ≤ (itA l p).2.2.1 ∧ (itA l p).2.2.1 ≤ 1073741824 ∧ 0 ≤ (itA l p).2.1 ∧ (itA l p).2.1 ≤ 1125899906842624 := by
 have := h.1 _ (itA_mem hp)
 unfold itemP at this
 omega
theorem w_le_all (T p : Nat) (hp : p < l.length) (hr : T ≤ rkA l p) : (itA l p).2.2.1 ≤ allAt l T := by
 rw [all_eq h T (by have := rk_lt hp; omega)]
 obtain ⟨i, hi⟩ : ∃ i, rkA l p = T + i := ⟨rkA l p - T, by omega⟩
 have hrl := rk_lt hp
 obtain ⟨m, hm⟩ : ∃ m, l.length - T = i + (1 + m) := ⟨l.length - T - i - 1, by omega⟩
 rw [hm, sumTo_split, sumTo_split]
 have h1 : sumTo 1 (fun j => (oA l (T + (i + j))).2.2.1) = (itA l p).2.2.1 := by
  simp only [sumTo, Nat.add_zero]
  rw [← hi, show oA l (rkA l p) = itA l p from rk_at hp]; omega
 have h2 := sumTo_bd 1073741824 (fun j => (oA l (T + j)).2.2.1) i fun q hq => by have := w_bd h (T + q) (by omega); omega
 have h3 := sumTo_bd 1073741824 (fun j => (oA l (T + (i + (1 + j)))).2.2.1) m fun q hq => by have := w_bd h (T + (i + (1 + q))) (by omega); omega
 omega
include hn ha in
theorem shr_bd (T p : Nat) (hT : stopT l a T) (hp : p < l.length) (hr : T ≤ rkA l p) : 0 ≤ shrA l a T p ∧ shrA l a T p ≤ a := by
 obtain ⟨h1, h2⟩ := rest_bd h ha T hT.1 hT.2.1
 have hw := ow_rk h p hp
 have hA := w_le_all h T p hp hr
 have hA2 := all_bd h hn T hT.1
 unfold shrA
 refine ⟨Int.ediv_nonneg (Int.mul_nonneg h1 (by omega)) (by omega), ?_⟩
 refine Int.le_trans (Int.ediv_le_of_le_mul (by omega) ?_) h2
 exact Int.mul_le_mul_of_nonneg_left hA h1
include hn ha in
theorem left_bd (T : Nat) (hT : stopT l a T) : -7205759403792793600 ≤ leftA l a T ∧ leftA l a T ≤ 72057594037927936 := by
 obtain ⟨h1, h2⟩ := rest_bd h ha T hT.1 hT.2.1
 have h3 := sumTo_bd 72057594037927936 (fun p => if rkA l p < T then 0 else shrA l a T p) l.length fun q hq => by
  by_cases hr : rkA l q < T
  ·rw [if_pos hr]; omega
  ·rw [if_neg hr]; have := shr_bd h hn ha T q hT hq (by omega); omega
 unfold leftA
 omega
include hn ha in
theorem lf_bd (T : Nat) (hT : stopT l a T) : ∀ i, -7205759403792793600 ≤ lfA l a T i ∧ lfA l a T i ≤ 72057594037927936
 | 0 => left_bd h hn ha T hT
 | i + 1 => by
  have := lf_bd T hT i
  simp only [lfA]
  split <;> omega
omit h in
theorem lf_neg (T : Nat) : ∀ i, lfA l a T i ≤ 0 → ∀ j, i ≤ j → lfA l a T j = lfA l a T i := by
 intro i hi j hij
 obtain ⟨d, rfl⟩ : ∃ d, j = i + d := ⟨j - i, by omega⟩
 induction d with
 | zero => rfl
 | succ d ih =>
  have := ih (by omega)
  rw [← Nat.add_assoc]
  simp only [lfA]
  rw [this, if_neg (by omega)]
end
end Go.Rv
