/- Plain facts: shares. -/
import Derived.Test.YtnoanpohmppnaaaGreatDoorM18
set_option linter.unusedVariables false
set_option linter.unusedSimpArgs false
set_option linter.unusedSectionVars false
namespace Go.Rv
/-! ### nobody gets more than it wants -/
section
variable {l : List ITm} {a : Int} (h : goodI l) (hn : l.length ≤ 100) (ha : 0 ≤ a ∧ a ≤ 72057594037927936)
include h hn ha
theorem amt_bd (T p : Nat) (hT : stopT l a T) (hp : p < l.length) : 0 ≤ amtA l a T p ∧ amtA l a T p ≤ (itA l p).2.1 := by
 have hw := ow_rk h p hp
 by_cases hr : rkA l p < T
 ·unfold amtA
  rw [if_neg (by omega : ¬ (T ≤ rkA l p ∧ 0 < lfA l a T p))]
  unfold bseA
  rw [if_pos hr]
  omega
 ·have hS := shr_bd h hn ha T p hT hp (by omega)
  have hlt : shrA l a T p < (itA l p).2.1 := by
   have hrl := rk_lt hp
   have hTl : T < l.length := by omega
   have hnf : ¬ fitAt l a T := by rcases hT.2.2 with h1 | h1; omega; exact h1
   obtain ⟨b1, b2⟩ := rest_bd h ha T hT.1 hT.2.1
   have hA := all_bd h hn T hT.1
   have hA2 := w_le_all h T p hp (by omega)
   have hwT := w_bd h T hTl
   obtain ⟨q, hq, hqr, hqe⟩ := rk_ex h hTl
   have hcross : (oA l T).2.1 * (itA l p).2.2.1 ≤ (itA l p).2.1 * (oA l T).2.2.1 := by
    rcases Nat.lt_or_eq_of_le (show T ≤ rkA l p by omega) with hlt | heq
    ·have := rk_ltI h hq hp (by omega)
     rw [show itA l q = oA l T from hqe, ltI_iff] at this
     omega
    ·have := rk_inj h hq hp (by omega)
     subst this
     rw [show itA l q = oA l T from hqe]
     exact Int.le_refl _
   unfold fitAt at hnf
   have h1 : restAt l a T * (oA l T).2.2.1 < (oA l T).2.1 * allAt l T := by omega
   have key : restAt l a T * (itA l p).2.2.1 < (itA l p).2.1 * allAt l T := by
    have p1 : restAt l a T * (oA l T).2.2.1 * (itA l p).2.2.1 < (oA l T).2.1 * allAt l T * (itA l p).2.2.1 := Int.mul_lt_mul_of_pos_right h1 (by omega)
    have p2 : (oA l T).2.1 * (itA l p).2.2.1 * allAt l T ≤ (itA l p).2.1 * (oA l T).2.2.1 * allAt l T := Int.mul_le_mul_of_nonneg_right hcross hA.1
    refine Int.lt_of_mul_lt_mul_right (a := (oA l T).2.2.1) ?_ (by omega)
    have e1 : restAt l a T * (oA l T).2.2.1 * (itA l p).2.2.1 = restAt l a T * (itA l p).2.2.1 * (oA l T).2.2.1 := Int.mul_right_comm _ _ _
    have e2 : (oA l T).2.1 * allAt l T * (itA l p).2.2.1 = (oA l T).2.1 * (itA l p).2.2.1 * allAt l T := Int.mul_right_comm _ _ _
    have e3 : (itA l p).2.1 * (oA l T).2.2.1 * allAt l T = (itA l p).2.1 * allAt l T * (oA l T).2.2.1 := Int.mul_right_comm _ _ _
    rw [e1, e2] at p1
    rw [e3] at p2
    exact Int.lt_of_lt_of_le p1 p2
   unfold shrA
   exact Int.ediv_lt_of_lt_mul (by omega) key
  unfold amtA bseA
  rw [if_neg hr]
  split <;> omega
end
/-! ### kids -/
def plc (l : List I4) (id : Int) (k : Nat) : List Nat := (List.range k).filter fun i => decide ((g4 l i).2.1 = id)
theorem plc_succ (l : List I4) (id : Int) (k : Nat) : plc l id (k + 1) = if (g4 l k).2.1 = id then plc l id k ++ [k] else plc l id k := by
 unfold plc
 rw [List.range_succ, List.filter_append]
 by_cases e : (g4 l k).2.1 = id
 ·rw [if_pos e, List.filter_cons, if_pos (decide_eq_true e), List.filter_nil]
 ·rw [if_neg e, List.filter_cons, if_neg (by rw [decide_eq_true_iff]; exact e), List.filter_nil, List.append_nil]
theorem plc_len (l : List I4) (id : Int) (k : Nat) : (plc l id k).length ≤ k := by
 have := List.length_filter_le (fun i => decide ((g4 l i).2.1 = id)) (List.range k)
 rw [List.length_range] at this
 exact this
theorem plc_lt {l : List I4} {id : Int} {k i : Nat} (h : i ∈ plc l id k) : i < k := by
 unfold plc at h
 exact List.mem_range.1 (List.mem_filter.1 h).1
theorem plc_get {l : List I4} {id : Int} {k j : Nat} (hj : j < (plc l id k).length) : (plc l id k).getD j 0 < k := by
 rw [List.getD_eq_getElem?_getD, List.getElem?_eq_getElem hj]
 exact plc_lt (List.getElem_mem hj)
def num (r : List (Int × Int)) : List ITm := r.mapIdx fun j x => ((j : Int) + 1, x.1, x.2, ())
theorem num_concat (r : List (Int × Int)) (x : Int × Int) : num (r ++ [x]) = num r ++ [((r.length : Int) + 1, x.1, x.2, ())] := by
 unfold num; rw [List.mapIdx_concat]
theorem num_len (r : List (Int × Int)) : (num r).length = r.length := by simp [num]
def gRaw (l : List I4) (F : Nat → Int) (id : Int) (k : Nat) : List (Int × Int) := (plc l id k).map fun i => (F i, (g4 l i).2.2.2.1)
def mRaw (m : List I4) (id : Int) (k : Nat) : List (Int × Int) := (plc m id k).map fun i => ((g4 m i).2.2.1, (g4 m i).2.2.2.1)
theorem gRaw_len (l : List I4) (F : Nat → Int) (id : Int) (k : Nat) : (gRaw l F id k).length = (plc l id k).length := by simp [gRaw]
theorem mRaw_len (m : List I4) (id : Int) (k : Nat) : (mRaw m id k).length = (plc m id k).length := by simp [mRaw]
abbrev gk (l : List I4) (id : Int) (k : Nat) : List (Int × Int × Unit) := (plc l id k).map fun (i : Nat) => ((i : Int), -1, ())
abbrev mk' (m : List I4) (id : Int) (k : Nat) : List (Int × Int × Unit) := (plc m id k).map fun (i : Nat) => (-1, (i : Int), ())
abbrev ow (l : List I4) (id : Int) (k : Nat) : List (Int × Unit) := (plc l id k).map fun (i : Nat) => ((i : Int), ())
abbrev itsA (l m : List I4) (F : Nat → Int) (id : Int) : List ITm := num (gRaw l F id l.length ++ mRaw m id m.length)
section
variable {c : Int} {l m : List I4} (h : farmP c l m)
include h
theorem specKids (id : Int) (F : List (Int × Unit)) (hF : F_spec_l05Wants (c, l, m, ()) = some (F, ())) (hFl : F.length = l.length) :
  F_spec_l05Kids (c, l, m, id, ()) = some (gk l id l.length ++ mk' m id m.length, itsA l m (fI F) id, ()) := by
 have hl := h.2.1
 have hm := h.2.2.1
 simp only [F_spec_l05Kids, spec_l05Kids.FF, spec_l05Kids.T, hF, Option.bind_some]
 have s0 : ∀ (k0 : Nat) (hx : Int → Int → List I4 → List I4 → List (Int × Int × Unit) → List ITm → Option (List (Int × Int × Unit) × List ITm × Unit)) (k : Nat), l.length < k →
   spec_l05Kids.G0 k0 hx k id 0 c l m F ([] : List (Int × Int × Unit)) ([] : List ITm) = hx id c l m (gk l id l.length) (num (gRaw l (fI F) id l.length)) := by
  intro k0 hx k hk
  refine run 0 l.length (fun k i => spec_l05Kids.G0 k0 hx k id (i : Nat) c l m F (gk l id i) (num (gRaw l (fI F) id i))) _ (fun k i _ hi => ?_) (fun k => ?_) k (by omega) (by omega)
  ·show spec_l05Kids.G0 k0 hx (k + 1) id (i : Nat) c l m F (gk l id i) (num (gRaw l (fI F) id i)) = spec_l05Kids.G0 k0 hx k id ((i + 1 : Nat) : Int) c l m F (gk l id (i + 1)) (num (gRaw l (fI F) id (i + 1)))
   have hpl := plc_len l id i
   simp only [spec_l05Kids.G0, spec_l05Kids.R0, rd_cast, Int.toNat_natCast]
   rw [decide_eq_true (by omega), cond_true, if_pos (by omega), w64_in ((i : Int) + 1) (by omega)]
   by_cases e : (g4 l i).2.1 = id
   ·rw [show ((l.getD i (0, 0, 0, 0, ())).2.1 == id) = true from beq_iff_eq.2 e, cond_true, if_pos (by simp only [List.length_map, List.length_cons, List.length_nil, maxRow]; omega), if_pos (by omega), if_pos (by omega), if_pos (by rw [num_len, gRaw_len]; simp only [List.length_cons, List.length_nil, maxRow]; omega)]
    have e1 : gk l id (i + 1) = gk l id i ++ [((i : Int), -1, ())] := by simp only [gk]; rw [plc_succ, if_pos e, List.map_append]; rfl
    have e2 : num (gRaw l (fI F) id (i + 1)) = num (gRaw l (fI F) id i) ++ [(((gk l id i ++ [((i : Int), -1, ())]).length : Int), (F.getD i (0, ())).1, (l.getD i (0, 0, 0, 0, ())).2.2.2.1, ())] := by
     unfold gRaw
     rw [plc_succ, if_pos e, List.map_append, List.map_cons, List.map_nil, num_concat]
     simp only [List.length_append, List.length_map, List.length_cons, List.length_nil]
     rfl
    rw [e1, e2]
    rfl
   ·rw [show ((l.getD i (0, 0, 0, 0, ())).2.1 == id) = false from beq_eq_false_iff_ne.2 e, cond_false]
    simp only [gk, gRaw]
    rw [plc_succ, if_neg e]
    rfl
  ·simp only [spec_l05Kids.G0, spec_l05Kids.R0]
   rw [decide_eq_false (by omega), cond_false]
 have s1 : ∀ (k0 : Nat) (hx : List (Int × Int × Unit) → List ITm → Option (List (Int × Int × Unit) × List ITm × Unit)) (k : Nat), m.length < k →
   spec_l05Kids.G1 k0 hx k id 0 c l m (gk l id l.length) (num (gRaw l (fI F) id l.length)) = hx (gk l id l.length ++ mk' m id m.length) (itsA l m (fI F) id) := by
  intro k0 hx k hk
  suffices x : spec_l05Kids.G1 k0 hx k id ((0 : Nat) : Int) c l m (gk l id l.length ++ mk' m id 0) (num (gRaw l (fI F) id l.length ++ mRaw m id 0)) = hx (gk l id l.length ++ mk' m id m.length) (itsA l m (fI F) id) by
   simpa [mk', mRaw, plc] using x
  refine run 0 m.length (fun k i => spec_l05Kids.G1 k0 hx k id (i : Nat) c l m (gk l id l.length ++ mk' m id i) (num (gRaw l (fI F) id l.length ++ mRaw m id i))) _ (fun k i _ hi => ?_) (fun k => ?_) k (by omega) (by omega)
  ·show spec_l05Kids.G1 k0 hx (k + 1) id (i : Nat) c l m (gk l id l.length ++ mk' m id i) (num (gRaw l (fI F) id l.length ++ mRaw m id i)) = spec_l05Kids.G1 k0 hx k id ((i + 1 : Nat) : Int) c l m (gk l id l.length ++ mk' m id (i + 1)) (num (gRaw l (fI F) id l.length ++ mRaw m id (i + 1)))
   have hpl := plc_len m id i
   have hpg := plc_len l id l.length
   simp only [spec_l05Kids.G1, spec_l05Kids.R1, rd_cast]
   rw [decide_eq_true (by omega), cond_true, if_pos (by omega), w64_in ((i : Int) + 1) (by omega)]
   by_cases e : (g4 m i).2.1 = id
   ·rw [show ((m.getD i (0, 0, 0, 0, ())).2.1 == id) = true from beq_iff_eq.2 e, cond_true, if_pos (by simp only [List.length_append, List.length_map, List.length_cons, List.length_nil, maxRow]; omega), if_pos (by omega), if_pos (by omega), if_pos (by rw [num_len, List.length_append, gRaw_len, mRaw_len]; simp only [List.length_cons, List.length_nil, maxRow]; omega)]
    have e1 : mk' m id (i + 1) = mk' m id i ++ [(-1, (i : Int), ())] := by simp only [mk']; rw [plc_succ, if_pos e, List.map_append]; rfl
    have e2 : num (gRaw l (fI F) id l.length ++ mRaw m id (i + 1)) = num (gRaw l (fI F) id l.length ++ mRaw m id i) ++ [((((gk l id l.length ++ mk' m id i) ++ [(-1, (i : Int), ())]).length : Int), (m.getD i (0, 0, 0, 0, ())).2.2.1, (m.getD i (0, 0, 0, 0, ())).2.2.2.1, ())] := by
     have e3 : mRaw m id (i + 1) = mRaw m id i ++ [((g4 m i).2.2.1, (g4 m i).2.2.2.1)] := by unfold mRaw; rw [plc_succ, if_pos e, List.map_append]; rfl
     rw [e3, ← List.append_assoc, num_concat]
     simp only [List.length_append, List.length_map, List.length_cons, List.length_nil, gRaw_len, mRaw_len]
     rfl
    rw [e1, e2, List.append_assoc]
    rfl
   ·rw [show ((m.getD i (0, 0, 0, 0, ())).2.1 == id) = false from beq_eq_false_iff_ne.2 e, cond_false]
    simp only [mk', mRaw]
    rw [plc_succ, if_neg e]
    rfl
  ·simp only [spec_l05Kids.G1, spec_l05Kids.R1]
   rw [decide_eq_false (by omega), cond_false]
 rw [s0 _ _ _ (by omega)]
 simp only [spec_l05Kids.A0]
 rw [s1 _ _ _ (by omega)]
 rfl
theorem implKids (id : Int) (F : Nat → Int) (hF : smallF F) (hW : isW l m F) :
  F_impl_Farm_kids (c, l, m, id, ()) = some (itsA l m F id, ow l id l.length, ow m id m.length, ()) := by
 have hl := h.2.1
 have hm := h.2.2.1
 simp only [F_impl_Farm_kids, impl_Farm_kids.FF, impl_Farm_kids.T]
 have s0 : ∀ (k0 : Nat) (hx : Int → Int → List I4 → List I4 → List ITm → List (Int × Unit) → List (Int × Unit) → Option (List ITm × List (Int × Unit) × List (Int × Unit) × Unit)) (k : Nat), l.length < k →
   impl_Farm_kids.G0 k0 hx k id l (l.length : Int) 0 c l m ([] : List ITm) ([] : List (Int × Unit)) ([] : List (Int × Unit)) = hx id c l m (num (gRaw l F id l.length)) (ow l id l.length) [] := by
  intro k0 hx k hk
  refine run 0 l.length (fun k i => impl_Farm_kids.G0 k0 hx k id l (l.length : Int) (i : Nat) c l m (num (gRaw l F id i)) (ow l id i) []) _ (fun k i _ hi => ?_) (fun k => ?_) k (by omega) (by omega)
  ·show impl_Farm_kids.G0 k0 hx (k + 1) id l _ (i : Nat) c l m (num (gRaw l F id i)) (ow l id i) [] = impl_Farm_kids.G0 k0 hx k id l _ ((i + 1 : Nat) : Int) c l m (num (gRaw l F id (i + 1))) (ow l id (i + 1)) []
   have hpl := plc_len l id i
   simp only [impl_Farm_kids.G0, impl_Farm_kids.R0, rd_cast]
   rw [decide_eq_true (by omega), cond_true, if_pos (by omega), w64_in ((i : Int) + 1) (by omega)]
   by_cases e : (g4 l i).2.1 = id
   ·have hw := implWantAt h F hF hW i hi
    rw [show ((l.getD i (0, 0, 0, 0, ())).2.1 == id) = true from beq_iff_eq.2 e, cond_true, hw]
    simp only [Option.bind_some]
    rw [if_pos (by rw [num_len, gRaw_len]; simp only [List.length_cons, List.length_nil, maxRow]; omega), if_pos (by simp only [List.length_map, List.length_cons, List.length_nil, maxRow]; omega)]
    have e1 : ow l id (i + 1) = ow l id i ++ [((i : Int), ())] := by simp only [ow]; rw [plc_succ, if_pos e, List.map_append]; rfl
    have e2 : num (gRaw l F id (i + 1)) = num (gRaw l F id i) ++ [(w64 (((num (gRaw l F id i)).length : Int) + 1), F i, (l.getD i (0, 0, 0, 0, ())).2.2.2.1, ())] := by
     have e3 : gRaw l F id (i + 1) = gRaw l F id i ++ [(F i, (g4 l i).2.2.2.1)] := by unfold gRaw; rw [plc_succ, if_pos e, List.map_append]; rfl
     rw [e3, num_concat, num_len, gRaw_len, w64_in _ (by omega)]
    rw [e1, e2]
    rfl
   ·rw [show ((l.getD i (0, 0, 0, 0, ())).2.1 == id) = false from beq_eq_false_iff_ne.2 e, cond_false]
    simp only [ow, gRaw]
    rw [plc_succ, if_neg e]
    rfl
  ·simp only [impl_Farm_kids.G0, impl_Farm_kids.R0]
   rw [decide_eq_false (by omega), cond_false]
 have s1 : ∀ (k0 : Nat) (hx : List ITm → List (Int × Unit) → List (Int × Unit) → Option (List ITm × List (Int × Unit) × List (Int × Unit) × Unit)) (k : Nat), m.length < k →
   impl_Farm_kids.G1 k0 hx k id m (m.length : Int) 0 (num (gRaw l F id l.length)) (ow l id l.length) [] = hx (itsA l m F id) (ow l id l.length) (ow m id m.length) := by
  intro k0 hx k hk
  suffices x : impl_Farm_kids.G1 k0 hx k id m (m.length : Int) ((0 : Nat) : Int) (num (gRaw l F id l.length ++ mRaw m id 0)) (ow l id l.length) (ow m id 0) = hx (itsA l m F id) (ow l id l.length) (ow m id m.length) by
   have z1 : mRaw m id 0 = [] := by simp [mRaw, plc]
   have z2 : ow m id 0 = [] := by simp [ow, plc]
   rw [z1, z2, List.append_nil] at x
   exact x
  refine run 0 m.length (fun k i => impl_Farm_kids.G1 k0 hx k id m (m.length : Int) (i : Nat) (num (gRaw l F id l.length ++ mRaw m id i)) (ow l id l.length) (ow m id i)) _ (fun k i _ hi => ?_) (fun k => ?_) k (by omega) (by omega)
  ·show impl_Farm_kids.G1 k0 hx (k + 1) id m _ (i : Nat) (num (gRaw l F id l.length ++ mRaw m id i)) (ow l id l.length) (ow m id i) = impl_Farm_kids.G1 k0 hx k id m _ ((i + 1 : Nat) : Int) (num (gRaw l F id l.length ++ mRaw m id (i + 1))) (ow l id l.length) (ow m id (i + 1))
   have hpl := plc_len m id i
   have hpg := plc_len l id l.length
   simp only [impl_Farm_kids.G1, impl_Farm_kids.R1, rd_cast]
   rw [decide_eq_true (by omega), cond_true, if_pos (by omega), w64_in ((i : Int) + 1) (by omega)]
   by_cases e : (g4 m i).2.1 = id
   ·rw [show ((m.getD i (0, 0, 0, 0, ())).2.1 == id) = true from beq_iff_eq.2 e, cond_true, if_pos (by rw [num_len, List.length_append, gRaw_len, mRaw_len]; simp only [List.length_cons, List.length_nil, maxRow]; omega), if_pos (by simp only [List.length_map, List.length_cons, List.length_nil, maxRow]; omega)]
    have e1 : ow m id (i + 1) = ow m id i ++ [((i : Int), ())] := by simp only [ow]; rw [plc_succ, if_pos e, List.map_append]; rfl
    have e2 : num (gRaw l F id l.length ++ mRaw m id (i + 1)) = num (gRaw l F id l.length ++ mRaw m id i) ++ [(w64 (((num (gRaw l F id l.length ++ mRaw m id i)).length : Int) + 1), (m.getD i (0, 0, 0, 0, ())).2.2.1, (m.getD i (0, 0, 0, 0, ())).2.2.2.1, ())] := by
     have e3 : mRaw m id (i + 1) = mRaw m id i ++ [((g4 m i).2.2.1, (g4 m i).2.2.2.1)] := by unfold mRaw; rw [plc_succ, if_pos e, List.map_append]; rfl
     rw [e3, ← List.append_assoc, num_concat, num_len, List.length_append, gRaw_len, mRaw_len, w64_in _ (by omega)]
    rw [e1, e2]
    rfl
   ·rw [show ((m.getD i (0, 0, 0, 0, ())).2.1 == id) = false from beq_eq_false_iff_ne.2 e, cond_false]
    simp only [ow, mRaw]
    rw [plc_succ, if_neg e]
    rfl
  ·simp only [impl_Farm_kids.G1, impl_Farm_kids.R1]
   rw [decide_eq_false (by omega), cond_false]
 rw [s0 _ _ _ (by omega)]
 simp only [impl_Farm_kids.A0]
 rw [s1 _ _ _ (by omega)]
 rfl
/-! the kids as items -/
theorem its_len (F : Nat → Int) (id : Int) : (itsA l m F id).length = (plc l id l.length).length + (plc m id m.length).length := by
 rw [num_len, List.length_append, gRaw_len, mRaw_len]
theorem its_le (F : Nat → Int) (id : Int) : (itsA l m F id).length ≤ 90 := by
 rw [its_len h]
 have := plc_len l id l.length
 have := plc_len m id m.length
 have hl := h.2.1
 have hm := h.2.2.1
 omega
theorem num_at (r : List (Int × Int)) (p : Nat) (hp : p < r.length) : itA (num r) p = ((p : Int) + 1, r[p].1, r[p].2, ()) := by
 rw [itA_eq (by rw [num_len]; exact hp)]
 simp [num]
theorem raw_bd (F : Nat → Int) (hF : smallF F) (id : Int) (x : Int × Int) (hx : x ∈ gRaw l F id l.length ++ mRaw m id m.length) : 0 ≤ x.1 ∧ x.1 ≤ 1125899906842624 ∧ 1 ≤ x.2 ∧ x.2 ≤ 1073741824 := by
 rcases List.mem_append.1 hx with hx | hx
 ·obtain ⟨i, hi, rfl⟩ := List.mem_map.1 hx
  have := hF i
  have h2 := (h.2.2.2.1 i (plc_lt hi)).2.2.2.2
  unfold weightP at h2
  omega
 ·obtain ⟨i, hi, rfl⟩ := List.mem_map.1 hx
  have h2 := h.2.2.2.2 i (plc_lt hi)
  obtain ⟨_, _, _, h3, h4⟩ := h2
  unfold wantP at h3
  unfold weightP at h4
  omega
theorem its_good (F : Nat → Int) (hF : smallF F) (id : Int) : goodI (itsA l m F id) ∧ (∀ p, p < (itsA l m F id).length → idP (itA (itsA l m F id) p).1) := by
 have hle := its_le h F id
 refine ⟨⟨?_, ?_, by omega⟩, ?_⟩
 ·intro x hx
  obtain ⟨p, hp, rfl⟩ := List.getElem_of_mem hx
  rw [← itA_eq hp]
  rw [num_len] at hp
  rw [num_at h _ _ hp]
  have := raw_bd h F hF id _ (List.getElem_mem hp)
  unfold itemP
  simp only
  omega
 ·rw [List.pairwise_iff_getElem]
  intro i j hi hj hij
  rw [← itA_eq hi, ← itA_eq hj]
  rw [num_len] at hi hj
  rw [num_at h _ _ hi, num_at h _ _ hj]
  simp only
  omega
 ·intro p hp
  have hp' := hp
  rw [num_len] at hp'
  rw [num_at h _ _ hp']
  unfold idP
  simp only
  omega
end
/-! ### pouring -/
noncomputable def tA (l : List ITm) (a : Int) : Nat := Classical.choose (stop_ex l a)
theorem tA_ok (l : List ITm) (a : Int) : stopT l a (tA l a) := Classical.choose_spec (stop_ex l a)
noncomputable def fA (l m : List I4) (F : Nat → Int) (id a : Int) (p : Nat) : Int := amtA (itsA l m F id) a (tA (itsA l m F id) a) p
def updA (A : List (Int × Unit)) (ps : List Nat) (f : Nat → Int) : Nat → List (Int × Unit)
 | 0 => A
 | j + 1 => (updA A ps f j).set (ps.getD j 0) (f j, ())
theorem updA_len (A : List (Int × Unit)) (ps : List Nat) (f : Nat → Int) : ∀ j, (updA A ps f j).length = A.length
 | 0 => rfl
 | j + 1 => by simp only [updA]; rw [List.length_set, updA_len A ps f j]
theorem updA_bd (A : List (Int × Unit)) (ps : List Nat) (f : Nat → Int) (hA : ∀ q, 0 ≤ fI A q ∧ fI A q ≤ 1125899906842624) : ∀ j, (∀ i, i < j → 0 ≤ f i ∧ f i ≤ 1125899906842624) → ∀ q, 0 ≤ fI (updA A ps f j) q ∧ fI (updA A ps f j) q ≤ 1125899906842624
 | 0, _, q => hA q
 | j + 1, hf, q => by
  have ih := updA_bd A ps f hA j (fun i hi => hf i (by omega)) q
  simp only [updA]
  unfold fI at ih ⊢
  rw [List.getD_eq_getElem?_getD, List.getElem?_set]
  by_cases e : ps.getD j 0 = q
  ·rw [if_pos e]
   split
   ·exact hf j (by omega)
   ·simp
  ·rw [if_neg e, ← List.getD_eq_getElem?_getD]; exact ih
section
variable {c : Int} {l m : List I4} (h : farmP c l m)
abbrev gp (l : List I4) (id : Int) : List Nat := plc l id l.length
noncomputable def pG (l m : List I4) (F : Nat → Int) (id a : Int) (G : List (Int × Unit)) : List (Int × Unit) := updA G (gp l id) (fA l m F id a) (gp l id).length
noncomputable def pM (l m : List I4) (F : Nat → Int) (id a : Int) (M : List (Int × Unit)) : List (Int × Unit) := updA M (gp m id) (fun j => fA l m F id a ((gp l id).length + j)) (gp m id).length
include h
theorem fA_bd (F : Nat → Int) (hF : smallF F) (id a : Int) (ha : 0 ≤ a ∧ a ≤ 72057594037927936) (p : Nat) (hp : p < (itsA l m F id).length) : 0 ≤ fA l m F id a p ∧ fA l m F id a p ≤ 1125899906842624 := by
 have hg := (its_good h F hF id).1
 have := amt_bd hg (by have := its_le h F id; omega) ha _ p (tA_ok _ a) hp
 have hw := ow_rk hg p hp
 unfold fA
 omega
theorem fill_s (F : Nat → Int) (hF : smallF F) (id a : Int) (ha : 0 ≤ a ∧ a ≤ 72057594037927936) : F_spec_l05Fill (a, itsA l m F id, ()) = some (rg (itsA l m F id).length (fA l m F id a), ()) := by
 obtain ⟨g1, g2⟩ := its_good h F hF id
 exact specFill g1 g2 (by have := its_le h F id; omega) ha _ (tA_ok _ a)
theorem fill_i (F : Nat → Int) (hF : smallF F) (id a : Int) (ha : 0 ≤ a ∧ a ≤ 72057594037927936) : ∃ y, F_impl_fill (a, itsA l m F id, ()) = some (rg (itsA l m F id).length (fA l m F id a), y) := by
 obtain ⟨g1, g2⟩ := its_good h F hF id
 exact ⟨_, implFill g1 (by have := its_le h F id; omega) ha _ (tA_ok _ a)⟩
end
end Go.Rv
