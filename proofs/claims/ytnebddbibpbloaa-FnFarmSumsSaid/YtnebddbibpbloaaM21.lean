/- Plain facts: FarmSums. -/
import Derived.Test.YtnebddbibpbloaaM20
set_option linter.unusedVariables false
set_option linter.unusedSimpArgs false
set_option linter.unusedSectionVars false
namespace Go.Rv
/-! ### the law of the sums -/
theorem am_pr (l : List I4) (A : List (Int × Unit)) : am (pr l A) = A := by
  apply List.ext_getElem
  · simp [am, pr]
  · intro i h1 h2; simp [am, pr]
theorem ids_pr (l : List I4) (A : List (Int × Unit)) (hA : A.length = l.length) : idsP l (pr l A) := fun i hi => by
  rw [pr_get _ _ _ _ (by omega)]
section
variable {c : Int} {l m : List I4} (h : farmP c l m)
include h
theorem fairTrue (F : Nat → Int) (hF : smallF F) (hW : isW l m F) (u has : Int) (G M : List (Int × Unit)) (hG : G.length = l.length) (hM : M.length = m.length) (hu : (u = 0 ∧ has = c) ∨ ∃ k, k < l.length ∧ u = (g4 l k).1 ∧ has = fI G k) (ha : amountP has)
    (hk : ∀ i, i < (itsA l m F u).length → kvA l m u G M i = fA l m F u has i) : F_impl_FarmFair (c, l, m, u, pr l G, pr m M, ()) = some (true, ()) := by
  have hl30 := h.2.1
  have hm60 := h.2.2.1
  have hr := rise h
  obtain ⟨q, hq, hq1, hq2⟩ := F_iGroup c l m u (by omega) hr
  have hu' : u = 0 ∨ hasP l l.length u := by
    rcases hu with ⟨e, _⟩ | ⟨k, h1, h2, _⟩
    · exact Or.inl e
    · exact Or.inr ⟨k, h1, h2.symm⟩
  have hGl : (pr l G).length = l.length := by rw [pr_len, hG]
  have hMl : (pr m M).length = m.length := by rw [pr_len, hM]
  simp only [F_impl_FarmFair, impl_FarmFair.FF, impl_FarmFair.T, implFarm c l m (by omega) (by omega), Option.bind_some, bb_true h, F_iHas c l m u (by omega) hr, bb_true hu', Bool.not_true, cond_false]
  rw [show (((pr l G).length : Int) != (l.length : Int)) = false by rw [hGl]; simp, show (((pr m M).length : Int) != (m.length : Int)) = false by rw [hMl]; simp, cond_false, cond_false]
  obtain ⟨K, hK, hK2⟩ : ∃ K, K = 300 + l.length + m.length + (pr l G).length + (pr m M).length ∧ 200 < K := ⟨_, rfl, by omega⟩
  rw [← hK]
  have a3 : impl_FarmFair.A3 c l m u (pr l G) (pr m M) u (pr l G) (pr m M) c l m = some (true, ()) := by
    have tail : ∀ z, z = has → ((F_impl_isAmount (z, ())).bind fun y2 => cond (!y2.1) (some (false, ())) ((F_slices_Clone_impl_Part_impl_Part (pr l G, ())).bind fun y3 => (F_slices_Clone_impl_Part_impl_Part (pr m M, ())).bind fun y4 => (F_impl_Farm_pour (c, l, m, u, z, y3.1, y4.1, ())).bind fun y5 => (F_slices_Equal_impl_Part_impl_Part (y5.1, pr l G, ())).bind fun y6 => cond y6.1 ((F_slices_Equal_impl_Part_impl_Part (y5.2.1, pr m M, ())).bind fun y7 => some (y7.1, ())) (some (false, ())))) = some (true, ()) := by
      rintro z rfl
      rw [F_iAmount, bb_true ha]
      obtain ⟨x, y, e1, e2, e3, e4⟩ := fairPour h F hF hW u z ha (pr l G) (pr m M) hGl hMl (ids_pr _ _ hG) (ids_pr _ _ hM)
      rw [am_pr, am_pr] at e4
      obtain ⟨rfl, rfl⟩ := e4.2 hk
      simp only [Option.bind_some, Bool.not_true, cond_false, F_clone _ (show (pr l G).length ≤ 1048576 by omega), F_clone _ (show (pr m M).length ≤ 1048576 by omega), e1, F_equalP (pr l G) (pr l G) (by omega), F_equalP (pr m M) (pr m M) (by omega), bb_true, cond_true]
    simp only [impl_FarmFair.A3]
    rw [hq]
    simp only [Option.bind_some]
    rcases hu with ⟨hu0, hc⟩ | ⟨k, hk1, hk2, hk3⟩
    · have hno : ¬ hasP l l.length u := by
        rintro ⟨i, hi, e⟩
        have := id_pos h i hi
        omega
      rw [bb_neg hno, cond_false]
      exact tail c hc.symm
    · have hyes : hasP l l.length u := ⟨k, hk1, hk2.symm⟩
      obtain ⟨h1, h2⟩ := hq2 hyes
      have hqk : q = k := by
        refine Nat.le_antisymm (Nat.le_of_not_lt fun hc => ?_) (Nat.le_of_not_lt fun hc => ?_)
        · have := hr q h1 k hc; omega
        · have := hr k hk1 q hc; omega
      rw [bb_true hyes, cond_true, if_pos (by omega)]
      refine tail _ ?_
      rw [rd_cast, pr_get _ _ _ _ (by omega), hqk, hk3]
  have g1 : ∀ k, m.length < k → impl_FarmFair.G1 K (impl_FarmFair.A2 c l m u (pr l G) (pr m M)) (impl_FarmFair.A3 c l m u (pr l G) (pr m M)) k u (pr l G) (pr m M) m (m.length : Int) 0 c l m = some (true, ()) := by
    intro k hk
    refine run 0 m.length (fun k i => impl_FarmFair.G1 K (impl_FarmFair.A2 c l m u (pr l G) (pr m M)) (impl_FarmFair.A3 c l m u (pr l G) (pr m M)) k u (pr l G) (pr m M) m (m.length : Int) (i : Nat) c l m) _ (fun k i _ hi => ?_) (fun k => ?_) k (by omega) (by omega)
    · show impl_FarmFair.G1 _ _ _ (k + 1) u _ _ m _ (i : Nat) c l m = impl_FarmFair.G1 _ _ _ k u _ _ m _ ((i + 1 : Nat) : Int) c l m
      simp only [impl_FarmFair.G1, impl_FarmFair.R1, rd_cast]
      rw [decide_eq_true (by omega), cond_true, if_pos (by omega), if_pos (by omega), w64_in _ (by omega), pr_get _ _ _ _ (by omega)]
      rw [show ((g4 m i).1 != (m.getD i (0, 0, 0, 0, ())).1) = false by simp, cond_false]
      rfl
    · simp only [impl_FarmFair.G1, impl_FarmFair.R1]
      rw [decide_eq_false (by omega), cond_false]
      exact a3
  refine run 0 l.length (fun k i => impl_FarmFair.G0 K (impl_FarmFair.A0 c l m u (pr l G) (pr m M)) (impl_FarmFair.A1 (impl_FarmFair.G1 K (impl_FarmFair.A2 c l m u (pr l G) (pr m M)) (impl_FarmFair.A3 c l m u (pr l G) (pr m M)) K) c l m u (pr l G) (pr m M)) k u (pr l G) (pr m M) l (l.length : Int) (i : Nat) c l m) _ (fun k i _ hi => ?_) (fun k => ?_) K (by omega) (by omega)
  · show impl_FarmFair.G0 _ _ _ (k + 1) u _ _ l _ (i : Nat) c l m = impl_FarmFair.G0 _ _ _ k u _ _ l _ ((i + 1 : Nat) : Int) c l m
    simp only [impl_FarmFair.G0, impl_FarmFair.R0, rd_cast]
    rw [decide_eq_true (by omega), cond_true, if_pos (by omega), if_pos (by omega), w64_in _ (by omega), pr_get _ _ _ _ (by omega)]
    rw [show ((g4 l i).1 != (l.getD i (0, 0, 0, 0, ())).1) = false by simp, cond_false]
    rfl
  · simp only [impl_FarmFair.G0, impl_FarmFair.R0]
    rw [decide_eq_false (by omega), cond_false]
    exact g1 K (by omega)
theorem wantOf (F : Nat → Int) (hF : smallF F) (hW : isW l m F) (i : Nat) (hi : i < l.length) : F_impl_FarmWant (c, l, m, (g4 l i).1, ()) = some (F i, ()) := by
  have hl30 := h.2.1
  have hm60 := h.2.2.1
  simp only [F_impl_FarmWant, impl_FarmWant.T, implFarm c l m (by omega) (by omega), Option.bind_some, bb_true h, F_iHas c l m _ (by omega) (rise h), bb_true (Or.inr ⟨i, hi, rfl⟩ : (g4 l i).1 = 0 ∨ hasP l l.length (g4 l i).1), Bool.not_true, cond_false, implWantAt h F hF hW i hi]
abbrev NX := Int → Int → List (Int × Int × Unit) → List (Int × Int × Unit) → List I4 → List I4 → Option (Bool × Unit)
theorem sumBody (F : Nat → Int) (hF : smallF F) (hW : isW l m F) (id has : Int) (hat : atA c l m F id has) (k0 : Nat) (hk0 : 200 < k0) (hx0 : Bool → Option (Bool × Unit)) (nx : NX) (g : Int) (G M : List (Int × Unit)) (eG : G = (stA c l m F l.length).1) (eM : M = (stA c l m F l.length).2) :
    laws_FnFarmSums.G1 k0 (laws_FnFarmSums.A2 (laws_FnFarmSums.G2 k0 (laws_FnFarmSums.A3 hx0) (laws_FnFarmSums.A4 nx hx0) k0)) k0 g id has 0 0 0 c (pr m M) (pr l G) l m = nx (w64 (g + 1)) c (pr m M) (pr l G) l m := by
  have hl30 := h.2.1
  have hm60 := h.2.2.1
  obtain ⟨s1, s2, s3⟩ := stA_ok h F hF l.length
  rw [← eG] at s1 s3
  rw [← eM] at s2
  have hGs : smallF (fI G) := s3
  obtain ⟨mS, hmS⟩ : ∃ mS : Nat → Int, mS = fun q => if (g4 m q).2.1 = id then fI M q else 0 := ⟨_, rfl⟩
  have hmb : ∀ q, q < m.length → (g4 m q).2.1 = id → 0 ≤ fI M q ∧ fI M q ≤ (g4 m q).2.2.1 := fun q hq hu => by rw [eM]; exact mem_le h F hF id has hat q hq hu
  have hms : ∀ q, q < m.length → 0 ≤ mS q ∧ mS q ≤ 1125899906842624 := fun q hq => by
    have hw := (h.2.2.2.2 q hq).2.2.2.1
    unfold wantP at hw
    rw [hmS]
    show 0 ≤ (if (g4 m q).2.1 = id then fI M q else 0) ∧ (if (g4 m q).2.1 = id then fI M q else 0) ≤ 1125899906842624
    by_cases hu : (g4 m q).2.1 = id
    · rw [if_pos hu]; have := hmb q hq hu; omega
    · rw [if_neg hu]; omega
  have hsM : ∀ j, j ≤ m.length → 0 ≤ sumTo j mS ∧ sumTo j mS ≤ 67553994410557440 := fun j hj => by
    have := sumTo_bd 1125899906842624 mS j fun q hq => hms q (by omega)
    omega
  -- the groups
  refine Eq.trans (run 0 l.length (fun k i => laws_FnFarmSums.G1 k0 (laws_FnFarmSums.A2 (laws_FnFarmSums.G2 k0 (laws_FnFarmSums.A3 hx0) (laws_FnFarmSums.A4 nx hx0) k0)) k g id has (sumTo i (gW l (fI G) id)) (sumTo i (gW l F id)) (i : Nat) c (pr m M) (pr l G) l m) (laws_FnFarmSums.A2 (laws_FnFarmSums.G2 k0 (laws_FnFarmSums.A3 hx0) (laws_FnFarmSums.A4 nx hx0) k0) g id has (sumTo l.length (gW l (fI G) id)) (sumTo l.length (gW l F id)) c (pr m M) (pr l G) l m) (fun k i _ hi => ?_) (fun k => ?_) k0 (by omega) (by omega)) ?_
  · show laws_FnFarmSums.G1 k0 _ (k + 1) g id has (sumTo i (gW l (fI G) id)) (sumTo i (gW l F id)) (i : Nat) c (pr m M) (pr l G) l m = laws_FnFarmSums.G1 k0 _ k g id has (sumTo (i + 1) (gW l (fI G) id)) (sumTo (i + 1) (gW l F id)) ((i + 1 : Nat) : Int) c (pr m M) (pr l G) l m
    have b1 := sG_bd h (fI G) id hGs i (by omega)
    have b2 := sG_bd h F id hF i (by omega)
    have b3 := hGs i
    have b4 := hF i
    simp only [laws_FnFarmSums.G1, laws_FnFarmSums.R1, Int.toNat_natCast, sumTo]
    rw [decide_eq_true (by omega), cond_true, if_pos (by omega), w64_in ((i : Int) + 1) (by omega)]
    by_cases hu : (g4 l i).2.1 = id
    · rw [show ((l.getD i (0, 0, 0, 0, ())).2.1 == id) = true from beq_iff_eq.2 hu, cond_true, pr_len, if_pos (by omega), if_pos (by omega), wantOf h F hF hW i hi, pr_get _ _ _ _ (by omega)]
      simp only [Option.bind_some]
      rw [w64_in _ (by omega), w64_in _ (by omega), show gW l (fI G) id i = fI G i from if_pos hu, show gW l F id i = F i from if_pos hu]
      rfl
    · rw [show ((l.getD i (0, 0, 0, 0, ())).2.1 == id) = false from beq_eq_false_iff_ne.2 hu, cond_false, show gW l (fI G) id i = 0 from if_neg hu, show gW l F id i = 0 from if_neg hu, Int.add_zero, Int.add_zero]
      rfl
  · simp only [laws_FnFarmSums.G1, laws_FnFarmSums.R1]
    rw [decide_eq_false (by omega), cond_false]
  have b1 := sG_bd h (fI G) id hGs l.length (Nat.le_refl _)
  have b2 := sG_bd h F id hF l.length (Nat.le_refl _)
  generalize hS : sumTo l.length (gW l (fI G) id) = S at b1 ⊢
  generalize hV : sumTo l.length (gW l F id) = V at b2 ⊢
  simp only [laws_FnFarmSums.A2]
  -- the members
  have e0 : ∀ x y, x = S → y = V → laws_FnFarmSums.G2 k0 (laws_FnFarmSums.A3 hx0) (laws_FnFarmSums.A4 nx hx0) k0 g id has S V 0 c (pr m M) (pr l G) l m = laws_FnFarmSums.G2 k0 (laws_FnFarmSums.A3 hx0) (laws_FnFarmSums.A4 nx hx0) k0 g id has x y 0 c (pr m M) (pr l G) l m := by
    rintro _ _ rfl rfl; rfl
  refine Eq.trans (Eq.trans (e0 (S + sumTo 0 mS) (V + sumTo 0 (mW m id)) (Int.add_zero S) (Int.add_zero V))
    (run 0 m.length (fun k i => laws_FnFarmSums.G2 k0 (laws_FnFarmSums.A3 hx0) (laws_FnFarmSums.A4 nx hx0) k g id has (S + sumTo i mS) (V + sumTo i (mW m id)) (i : Nat) c (pr m M) (pr l G) l m) (laws_FnFarmSums.A4 nx hx0 g id has (S + sumTo m.length mS) (V + sumTo m.length (mW m id)) c (pr m M) (pr l G) l m) (fun k i _ hi => ?_) (fun k => ?_) k0 (by omega) (by omega))) ?_
  · show laws_FnFarmSums.G2 k0 _ _ (k + 1) g id has (S + sumTo i mS) (V + sumTo i (mW m id)) (i : Nat) c (pr m M) (pr l G) l m = laws_FnFarmSums.G2 k0 _ _ k g id has (S + sumTo (i + 1) mS) (V + sumTo (i + 1) (mW m id)) ((i + 1 : Nat) : Int) c (pr m M) (pr l G) l m
    have c1 := hsM i (by omega)
    have c2 := sM_bd h id i (by omega)
    have c3 := (h.2.2.2.2 i hi).2.2.2.1
    unfold wantP at c3
    simp only [laws_FnFarmSums.G2, laws_FnFarmSums.R2, Int.toNat_natCast, sumTo]
    rw [decide_eq_true (by omega), cond_true, if_pos (by omega), w64_in ((i : Int) + 1) (by omega)]
    by_cases hu : (g4 m i).2.1 = id
    · obtain ⟨d1, d2⟩ := hmb i hi hu
      rw [show ((m.getD i (0, 0, 0, 0, ())).2.1 == id) = true from beq_iff_eq.2 hu, cond_true, pr_len, if_pos (by omega), if_pos (by omega), if_pos (by omega), if_pos (by omega)]
      have hv : ((pr m M).getD i (0, 0, ())).2.1 = fI M i := by rw [pr_get _ _ _ _ (by omega)]
      simp only [hv]
      rw [show mS i = fI M i by rw [hmS]; exact if_pos hu, show mW m id i = (g4 m i).2.2.1 from if_pos hu]
      rw [show decide (fI M i > (m.getD i (0, 0, 0, 0, ())).2.2.1) = false from decide_eq_false (by show ¬ fI M i > (g4 m i).2.2.1; omega), cond_false, if_pos (by omega), decide_eq_false (by omega), cond_false,
        w64_in (S + sumTo i mS + fI M i) (by omega), w64_in (V + sumTo i (mW m id) + (m.getD i (0, 0, 0, 0, ())).2.2.1) (by show -9223372036854775808 ≤ V + sumTo i (mW m id) + (g4 m i).2.2.1 ∧ V + sumTo i (mW m id) + (g4 m i).2.2.1 ≤ _; omega), Int.add_assoc, Int.add_assoc]
      rfl
    · rw [show ((m.getD i (0, 0, 0, 0, ())).2.1 == id) = false from beq_eq_false_iff_ne.2 hu, cond_false, show mS i = 0 by rw [hmS]; exact if_neg hu, show mW m id i = 0 from if_neg hu, Int.add_zero, Int.add_zero]
      rfl
  · simp only [laws_FnFarmSums.G2, laws_FnFarmSums.R2]
    rw [decide_eq_false (by omega), cond_false]
  -- the end of it
  have hb := at_bd h F hF id has hat
  have key := kids_sum h F hF id has hat
  rw [← eG, ← eM, ← hmS, hS] at key
  have hwq : wq l m F id = V + sumTo m.length (mW m id) := by unfold wq; rw [hV]
  rw [hwq] at key
  simp only [laws_FnFarmSums.A4, F_laws_lwMin, laws_lwMin.T]
  have hmin : cond (decide (has < V + sumTo m.length (mW m id))) (some ((has, ()) : Int × Unit)) (some (V + sumTo m.length (mW m id), ())) = some (S + sumTo m.length mS, ()) := by
    rw [key]
    by_cases hlt : has < V + sumTo m.length (mW m id)
    · rw [decide_eq_true hlt, cond_true]; unfold mn; rw [if_neg (by omega)]
    · rw [decide_eq_false hlt, cond_false]; unfold mn
      split
      · rfl
      · rw [show has = V + sumTo m.length (mW m id) by omega]
  rw [hmin]
  simp only [Option.bind_some]
  rw [show ((S + sumTo m.length mS) != (S + sumTo m.length mS)) = false by simp, cond_false, if_pos (by simp only [List.length_nil, pr_len, maxRow]; omega), if_pos (by simp only [List.length_nil, pr_len, maxRow]; omega), List.nil_append, List.nil_append,
    fairTrue h F hF hW id has G M s1 s2 (by rw [eG]; exact hat) (by unfold amountP; omega) (fun i hi => by rw [eG, eM]; exact fin_kids h F hF id has hat i hi)]
  simp only [Option.bind_some, Bool.not_true, cond_false]
theorem sumLoop (F : Nat → Int) (hF : smallF F) (hW : isW l m F) (k0 : Nat) (hk0 : 200 < k0) (hx0 : Bool → Option (Bool × Unit)) (hx1 : Unit → Option (Bool × Unit)) (h1 : hx1 () = some (true, ())) (G M : List (Int × Unit)) (eG : G = (stA c l m F l.length).1) (eM : M = (stA c l m F l.length).2) :
    laws_FnFarmSums.G0 k0 hx0 hx1 k0 (-1) c (pr m M) (pr l G) l m = some (true, ()) := by
  have hl30 := h.2.1
  have hm60 := h.2.2.1
  obtain ⟨s1, s2, s3⟩ := stA_ok h F hF l.length
  rw [← eG] at s1 s3
  refine run 0 (l.length + 1) (fun k j => laws_FnFarmSums.G0 k0 hx0 hx1 k ((j : Nat) - 1) c (pr m M) (pr l G) l m) _ (fun k j _ hj => ?_) (fun k => ?_) k0 (by omega) (by omega)
  · show laws_FnFarmSums.G0 k0 hx0 hx1 (k + 1) ((j : Int) - 1) c (pr m M) (pr l G) l m = laws_FnFarmSums.G0 k0 hx0 hx1 k (((j + 1 : Nat) : Int) - 1) c (pr m M) (pr l G) l m
    have hw : w64 ((j : Int) - 1 + 1) = ((j + 1 : Nat) : Int) - 1 := (w64_in _ (by omega)).trans (by omega)
    simp only [laws_FnFarmSums.G0, laws_FnFarmSums.R0]
    rw [decide_eq_true (by omega), cond_true]
    by_cases hj0 : j = 0
    · rw [decide_eq_false (by omega), cond_false, sumBody h F hF hW 0 c (Or.inl ⟨rfl, rfl⟩) k0 hk0 hx0 _ _ G M eG eM, hw]
    · obtain ⟨q, rfl⟩ : ∃ q, j = q + 1 := ⟨j - 1, by omega⟩
      have hq : q < l.length := by omega
      have e : ((q + 1 : Nat) : Int) - 1 = (q : Int) := by omega
      have hcap := (h.2.2.2.1 q hq).2.2.2.1
      unfold wantP at hcap
      obtain ⟨has', hat'⟩ := up_at h F q hq
      have hle := grp_le h F hF _ has' hat' q hq rfl
      rw [← eG] at hle
      have hFq := hW q hq
      have hFle : F q ≤ (g4 l q).2.2.1 := by rw [hFq]; unfold mn; split <;> omega
      rw [e] at hw ⊢
      simp only [Int.toNat_natCast]
      rw [decide_eq_true (by omega), cond_true, if_pos (by omega), pr_len, if_pos (by omega), if_pos (by omega)]
      have hv : ((pr l G).getD q (0, 0, ())).2.1 = fI G q := by rw [pr_get _ _ _ _ (by omega)]
      simp only [hv]
      rw [show decide (fI G q > (l.getD q (0, 0, 0, 0, ())).2.2.1) = false from decide_eq_false (by show ¬ fI G q > (g4 l q).2.2.1; omega), cond_false, wantOf h F hF hW q hq]
      simp only [Option.bind_some]
      rw [show decide (fI G q > F q) = false from decide_eq_false (by omega), cond_false, show decide (fI G q < 0) = false from decide_eq_false (by omega), cond_false]
      rw [sumBody h F hF hW (g4 l q).1 (fI G q) (Or.inr ⟨q, hq, rfl, by rw [eG]⟩) k0 hk0 hx0 _ _ G M eG eM, hw]
  · simp only [laws_FnFarmSums.G0, laws_FnFarmSums.R0]
    rw [decide_eq_false (by omega), cond_false, h1]
end
theorem lawFarmSums (code : List (Int × Unit)) : F_laws_FnFarmSums (code, ()) = some (true, ()) := by
  simp only [F_laws_FnFarmSums, laws_FnFarmSums.FF, laws_FnFarmSums.T]
  by_cases hc : (code.length : Int) > 1048576
  · rw [decide_eq_true hc]; rfl
  rw [decide_eq_false hc, cond_false]
  obtain ⟨c, l, m, e, hl, hm⟩ := drawFarm code (by omega)
  simp only [e, Option.bind_some, specFarm c l m (by omega) (by omega), F_impl_FarmShares, F_impl_FarmGroups, impl_FarmShares.T, impl_FarmGroups.T, implFarm c l m (by omega) (by omega)]
  by_cases h : farmP c l m
  · obtain ⟨F, hF, hW⟩ := wants_ex h
    obtain ⟨s1, s2, s3⟩ := stA_ok h F hF l.length
    simp only [bb_true h, Bool.not_true, cond_false, implShares h F hF hW, Option.bind_some, pr_len, s1, s2]
    rw [show ((m.length : Int) != (m.length : Int)) = false by simp, show ((l.length : Int) != (l.length : Int)) = false by simp, cond_false, cond_false]
    exact sumLoop h F hF hW (300 + code.length) (by omega) _ _ rfl _ _ rfl rfl
  · simp only [bb_neg h, Bool.not_false, cond_true, Option.bind_some]
    rfl
theorem pureFarmSums : ∀ x : CTs.V (insC [.v false [.sl [CT.int .u8]]]), CTs.ok (insC [.v false [.sl [CT.int .u8]]]) x → F_laws_FnFarmSums x = some (true, ()) := by
  rintro ⟨code, ⟨⟩⟩ _
  exact lawFarmSums code
end Go.Rv
