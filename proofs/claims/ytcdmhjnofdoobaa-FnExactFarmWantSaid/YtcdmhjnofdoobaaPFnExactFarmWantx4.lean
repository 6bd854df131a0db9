/- Functions of the program and of the reference, each with its walk: written by a program of this session out of the translation. -/
import Derived.Test.YtcdmhjnofdoobaaPFnExactFarmWantx0
namespace Go.Proofs.Ytcdmhjnofdoobaa.PFnExactFarmWant
open Go.RowKit Go.Proofs.YtcdmhjnofdoobaaW.PrintWords Go.Proofs.YtcdmhjnofdoobaaW.PrintLast Go.Proofs.YtcdmhjnofdoobaaW.PrintMore
attribute [local go_sem] max2_int min2_int max_two min_two max_three min_three max_four min_four   -- for this text's walks alone
set_option linter.unusedVariables false
set_option linter.unusedSimpArgs false

/-! ### impl_Group_int64: function 78 -/
def cmp_Compare_int64.v (x y : Int) : Int := if x < y then -1 else if y < x then 1 else 0
set_option maxHeartbeats 1000000 in
theorem cmp_isNaN_int64.tells (x : Int) (W : World) : Calls Try.prog 89 #[.int .i64 x] W fun e w' => e = .returned (.bool false) ∧ w' = W := by
  go_enter Try.func89, Try.ntmps89
  go_wp2_with fail
  go_ret
  exact ⟨by simp, rfl⟩
set_option maxHeartbeats 1000000 in
theorem cmp_Compare_int64.tells (x y : Int) (W : World) : Calls Try.prog 80 #[.int .i64 x, .int .i64 y] W fun e w' => e = .returned (.int .i64 (cmp_Compare_int64.v x y)) ∧ w' = W := by
  obtain ⟨v, hv⟩ : ∃ v, v = cmp_Compare_int64.v x y := ⟨_, rfl⟩
  rw [← hv]
  have HV := Aside0.mk hv
  clear hv
  go_enter Try.func80, Try.ntmps80
  go_wp2_with (go_at_call 89; refine (cmp_isNaN_int64.tells _ _).mono ?_; rintro e w' ⟨rfl, rfl⟩)
  all_goals
    go_ret
    refine ⟨?_, rfl⟩
    rw [HV.out]
    unfold cmp_Compare_int64.v
    first
    | (rw [if_pos (by omega)]; rfl)
    | (rw [if_neg (by omega), if_pos (by omega)]; rfl)
    | (rw [if_neg (by omega), if_neg (by omega)]; rfl)
set_option maxHeartbeats 1000000 in
theorem impl_Farm_group.order (x0 x1 x2 x3 id : Int) (W : World) : Calls Try.prog 79 #[.agg #[.int .i64 x0, .int .i64 x1, .int .i64 x2, .int .i64 x3], .int .i64 id] W fun e w' => e = .returned (.int .i64 (cmp_Compare_int64.v x0 id)) ∧ Below W.heap.size W w' := by
  have HC := fun W => Aside0.mk (cmp_Compare_int64.tells x0 id W)
  generalize cmp_Compare_int64.v x0 id = v at HC
  go_enter Try.func79, Try.ntmps79
  go_wp2_with (go_at_call 80; refine (HC _).out.mono ?_; rintro e w' ⟨rfl, rfl⟩)
  go_ret
  exact ⟨rfl, by repeat (first | exact Below.refl _ _ | apply below_alloc)⟩
/-- where a search by halves ends -/
def impl_Farm_group.at (l : List S64) (id : Int) (i j : Nat) : Nat := if i < j then (if (rd_T64 l ((i + j) / 2 : Nat)).f0 < id then impl_Farm_group.at l id ((i + j) / 2 + 1) j else impl_Farm_group.at l id i ((i + j) / 2)) else i
termination_by j - i
decreasing_by all_goals omega
theorem impl_Farm_group.at_step (l : List S64) (id : Int) (i j : Nat) (h : i < j) : impl_Farm_group.at l id i j = (if (rd_T64 l ((i + j) / 2 : Nat)).f0 < id then impl_Farm_group.at l id ((i + j) / 2 + 1) j else impl_Farm_group.at l id i ((i + j) / 2)) := by
  rw [impl_Farm_group.at, if_pos h]
theorem impl_Farm_group.at_end (l : List S64) (id : Int) (i j : Nat) (h : ¬ i < j) : impl_Farm_group.at l id i j = i := by
  rw [impl_Farm_group.at, if_neg h]
def impl_Farm_group.has (l : List S64) (id : Int) (n : Nat) : Bool := decide (n < l.length) && (rd_T64 l n).f0 == id
theorem impl_Farm_group.half {x : Int} (h : 0 ≤ x ∧ x ≤ 18446744073709551615) : IntKind.u64.wrap (wrap64 x) = x := by
  have h2 : wrap64 x = x ∨ wrap64 x = x - 18446744073709551616 := by unfold wrap64; omega
  rw [IntKind.wrap_u64]
  rcases h2 with h2 | h2 <;> rw [h2] <;> omega
set_option maxHeartbeats 4000000 in
set_option maxRecDepth 100000 in
theorem impl_Group_int64.calls (A0 : Option Addr) (c0 : Nat) (l0 : List S64) (id : Int) (w : World) (hr0 : Kd.C k64 w A0 l0.length l0) :
    Calls Try.prog 78 #[.slice A0 l0.length c0, .int .i64 id, .func (.func 79) #[] #[]] w fun e w' => e = .returned (.tuple #[.int .i64 (impl_Farm_group.at l0 id 0 l0.length), .bool (impl_Farm_group.has l0 id (impl_Farm_group.at l0 id 0 l0.length))]) ∧ Below w.heap.size w w' := by
  have eg : ∀ args w, (callFunc 79 args).run Try.prog w = .ok (.enter 79 args) w := Go.Proofs.enters_of Try.func79 (by kernel_rfl) rfl
  have HM := Aside0.mk hr0.2.1
  have HR := Aside0.mk hr0
  clear hr0
  obtain ⟨z, hz⟩ : ∃ z, z = impl_Farm_group.at l0 id 0 l0.length := ⟨_, rfl⟩
  rw [← hz]
  have HZ := Aside0.mk hz
  clear hz
  obtain ⟨q, hq⟩ : ∃ q, q = impl_Farm_group.has l0 id z := ⟨_, rfl⟩
  rw [← hq]
  have HQ := Aside0.mk hq
  clear hq
  go_enter Try.func78, Try.ntmps78
  go_wp2_with fail
  go_loopg [9, 10, 11] l0.length (fun gg v9 v10 v11 wr => ∃ i j : Nat, i ≤ j ∧ j ≤ l0.length ∧ j - i ≤ gg ∧ v9 = .int .i64 i ∧ v10 = .int .i64 j ∧ Aside0 (Below w.heap.size w wr) ∧ Aside0 (z = impl_Farm_group.at l0 id i j))
  case atStart => exact ⟨0, l0.length, by omega, by omega, by omega, rfl, rfl, ⟨Below.refl _ _⟩, HZ⟩
  case round =>
    clear HZ
    obtain ⟨i, j, hij, hj, hg, rfl, rfl, HB, HZ⟩ := hrel
    have hm := HM.out
    by_cases hlt : i < j
    · have hz := HZ.out
      rw [impl_Farm_group.at_step l0 id i j hlt] at hz
      have HZ := Aside0.mk hz
      clear hz
      obtain ⟨h, hh⟩ : ∃ h, h = (i + j) / 2 := ⟨_, rfl⟩
      rw [← hh] at HZ
      have hd : (h : Int) < (l0.length : Int) := by omega
      obtain ⟨ad, rfl, x0, x1, x2, x3⟩ := at_T64 (Kd.C_below HR.out HB.out) h (by omega) hd
      simp only [Int.toNat_natCast] at x0 x1 x2 x3
      have hv : wrap64 (IntKind.u64.wrap (wrap64 ((i : Int) + (j : Int))) / 2) = (h : Int) := by
        rw [impl_Farm_group.half (by omega)]
        unfold wrap64
        omega
      have hbt : i ≤ h ∧ h < j := by omega
      clear hh
      have HC := fun W => Aside0.mk (impl_Farm_group.order (rd_T64 l0 h).f0 (rd_T64 l0 h).f1 (rd_T64 l0 h).f2 (rd_T64 l0 h).f3 id W)
      generalize (rd_T64 l0 h).f0 = y at x0 HC HZ
      have HV := Aside0.mk (show (cmp_Compare_int64.v y id < 0) ↔ y < id by unfold cmp_Compare_int64.v; split <;> (try split) <;> omega)
      generalize cmp_Compare_int64.v y id = v at HC HV
      go_wp2_with fail
      go_at_fn 79
      refine (HC _).out.mono ?_
      rintro e w' ⟨rfl, hb⟩
      have HB2 := Aside0.mk (below_step HB.out hb)
      clear hb HB x0 x1 x2 x3
      go_wp2_with fail
      · go_roundg (j - (h + 1))
        case measure => omega
        case rel => exact ⟨h + 1, j, by omega, by omega, by omega, by go_num, rfl, HB2, ⟨by have h1 := HZ.out; have h2 := HV.out; rw [if_pos (by omega)] at h1; exact h1⟩⟩
      · go_roundg (h - i)
        case measure => omega
        case rel => exact ⟨i, h, by omega, by omega, by omega, rfl, rfl, HB2, ⟨by have h1 := HZ.out; have h2 := HV.out; rw [if_neg (by omega)] at h1; exact h1⟩⟩
    · have hz := HZ.out
      rw [impl_Farm_group.at_end l0 id i j hlt] at hz
      subst hz
      clear HZ
      obtain rfl : z = j := by omega
      by_cases hn : z < l0.length
      · have hd : (z : Int) < (l0.length : Int) := by omega
        obtain ⟨ad, rfl, x0, x1, x2, x3⟩ := at_T64 (Kd.C_below HR.out HB.out) z (by omega) hd
        simp only [Int.toNat_natCast] at x0 x1 x2 x3
        have HC := fun W => Aside0.mk (impl_Farm_group.order (rd_T64 l0 z).f0 (rd_T64 l0 z).f1 (rd_T64 l0 z).f2 (rd_T64 l0 z).f3 id W)
        have hq := HQ.out
        unfold impl_Farm_group.has at hq
        generalize (rd_T64 l0 z).f0 = y at x0 HC hq
        rw [decide_eq_true hn, Bool.true_and] at hq
        rw [show (y == id) = (cmp_Compare_int64.v y id == 0) by unfold cmp_Compare_int64.v; rw [Bool.eq_iff_iff]; simp only [beq_iff_eq]; split <;> (try split) <;> omega] at hq
        have HQ := Aside0.mk hq
        clear hq
        generalize cmp_Compare_int64.v y id = v at HC HQ
        go_wp2_with fail
        refine (HC _).out.mono ?_
        rintro e w' ⟨rfl, hb⟩
        have HB2 := Aside0.mk (below_step HB.out hb)
        clear hb HB x0 x1 x2 x3
        go_wp2_with fail
        all_goals
          go_ret2
          refine ⟨?_, HB2.out⟩
          rw [HQ.out]
          simp
      · have hq := HQ.out
        unfold impl_Farm_group.has at hq
        rw [decide_eq_false hn, Bool.false_and] at hq
        subst hq
        go_wp2_with fail
        go_ret2
        exact ⟨rfl, HB.out⟩

/-! ### impl_Farm_group: function 60 -/
def impl_Farm_group.f (a0_0 : Int) (l0_1 : List S64) (l0_2 : List S66) (a1 : Int) : Option (Int × Bool) := some ((impl_Farm_group.at l0_1 a1 0 l0_1.length : Nat), impl_Farm_group.has l0_1 a1 (impl_Farm_group.at l0_1 a1 0 l0_1.length))
set_option maxHeartbeats 1000000 in
theorem impl_Farm_group.calls (a0_0 : Int) (A0_1 : Option Addr) (c0_1 : Nat) (l0_1 : List (S64)) (A0_2 : Option Addr) (c0_2 : Nat) (l0_2 : List (S66)) (a1 : Int) (r1 : Int) (r2 : Bool) (w : World) (hr0_1 : Kd.C k64 w A0_1 l0_1.length l0_1) (hc0_1 : l0_1.length ≤ c0_1) (hr0_2 : Kd.C k66 w A0_2 l0_2.length l0_2) (hc0_2 : l0_2.length ≤ c0_2) (h : impl_Farm_group.f a0_0 l0_1 l0_2 a1 = some (r1, r2)) :
    Calls Try.prog 60 #[.agg #[.int .i64 a0_0, .slice A0_1 l0_1.length c0_1, .slice A0_2 l0_2.length c0_2], .int .i64 a1] w fun e w' => e = .returned (.tuple #[.int .i64 r1, .bool r2]) ∧ Below w.heap.size w w' := by
  obtain ⟨rfl, rfl⟩ := Prod.mk.inj (Option.some.inj h)
  have HC := fun W hb => Aside0.mk (impl_Group_int64.calls A0_1 c0_1 l0_1 a1 W (Kd.C_below hr0_1 hb))
  clear hr0_1 hr0_2 h
  go_enter Try.func60, Try.ntmps60
  go_wp2_with fail
  have HB := Aside0.mk (below_alloc (Below.refl w.heap.size w) (.cells #[.int .i64 a0_0, .slice A0_1 l0_1.length c0_1, .slice A0_2 l0_2.length c0_2] 31))
  refine (HC _ HB.out).out.mono ?_
  rintro e w' ⟨rfl, hb⟩
  have HB2 := Aside0.mk (below_step HB.out hb)
  clear hb
  go_wp2_with fail
  go_ret2
  exact ⟨rfl, HB2.out⟩

/-! ### impl_Farm_hasGroup: function 32 -/
def impl_Farm_hasGroup.f (a0_0 : Int) (l0_1 : List (S64)) (l0_2 : List (S66)) (a1 : Int) : Option (Bool) := (impl_Farm_group.f a0_0 l0_1 l0_2 a1).bind fun bt165 => (if bt165.2 = true then (some true) else (some (a1 == 0)))
set_option maxHeartbeats 8000000 in
set_option maxRecDepth 100000 in
theorem impl_Farm_hasGroup.calls (a0_0 : Int) (A0_1 : Option Addr) (c0_1 : Nat) (l0_1 : List (S64)) (A0_2 : Option Addr) (c0_2 : Nat) (l0_2 : List (S66)) (a1 : Int) (r : Bool) (w : World) (hr0_1 : Kd.C k64 w A0_1 l0_1.length l0_1) (hc0_1 : l0_1.length ≤ c0_1) (hr0_2 : Kd.C k66 w A0_2 l0_2.length l0_2) (hc0_2 : l0_2.length ≤ c0_2) (h : impl_Farm_hasGroup.f a0_0 l0_1 l0_2 a1 = some r) :
    Calls Try.prog 32 #[.agg #[.int .i64 a0_0, .slice A0_1 l0_1.length c0_1, .slice A0_2 l0_2.length c0_2], .int .i64 a1] w fun e w' => e = .returned (.bool r) ∧ Below w.heap.size w w' := by
  have hu31 := Try.underlying31
  have HR0_1 := Aside0.mk hr0_1
  have HC0_1 := Aside0.mk hc0_1
  clear hr0_1 hc0_1
  have HR0_2 := Aside0.mk hr0_2
  have HC0_2 := Aside0.mk hc0_2
  clear hr0_2 hc0_2
  have HB := Aside0.mk (Below.refl w.heap.size w)
  have H : ((impl_Farm_group.f a0_0 l0_1 l0_2 a1).bind fun bt165 => (if bt165.2 = true then (some true) else (some (a1 == 0)))) = some r := h
  clear h
  replace H := Option.bind_eq_some_iff.mp H
  obtain ⟨⟨t165, t166⟩, A30, H⟩ := H
  replace H : (if t166 = true then (some true) else (some (a1 == 0))) = some r := H
  have A3 := Aside0.mk A30
  clear A30
  by_cases c4 : t166 = true
  · subst c4
    have H1 : (some true) = some r := by rw [if_pos rfl] at H; exact H
    clear H
    have H := H1
    clear H1
    obtain rfl := Option.some.inj H
    go_enter Try.func32, Try.ntmps32
    go_wp2_with (first | ((with_reducible refine gate_dst (N := 2) rfl ?_); refine box_event ?hg (N := 2) ?hd (cs := #[.int .i64 a0_0, .slice A0_1 l0_1.length c0_1, .slice A0_2 l0_2.length c0_2]) (t := 31) ?hr ?_; (case hd => rfl); (case hg => rfl); (case hr => first | (go_simp; done) | (go_simp; rfl)); intro gb164 hg w5 hbox hb; have n0_ := Aside0.mk (below_step (by repeat (first | (with_reducible first | exact HB.out | apply below_alloc | apply pw_below_drewN | apply below_drew1) | exact HB.out)) hb); have n1_ := Aside0.mk (hbox); have n2_ := Aside0.mk ((by rw [hg]; exact (below_size (by repeat (first | (with_reducible first | exact HB.out | apply below_alloc | apply pw_below_drewN | apply below_drew1) | exact HB.out))) : w.heap.size ≤ gb164)); have n3_ := Aside0.mk ((by rw [hg]; exact (below_size (by repeat (first | (with_reducible first | exact HB.out | apply below_alloc | apply pw_below_drewN | apply below_drew1) | exact HB.out))) : w.heap.size ≤ gb164)); clear HB; have HB := n0_; have BK164 := n1_; have GW164 := n2_; have GE164 := n3_; clear n0_ n1_ n2_ n3_; clear hb hbox hg; have hcz6_0 : w5.cell? ⟨gb164, 0, none⟩ = some (.int .i64 a0_0) := (blk_cell BK164.out 0).trans rfl; have hcz6_1 : w5.cell? ⟨gb164, 1, none⟩ = some (.slice A0_1 l0_1.length c0_1) := (blk_cell BK164.out 1).trans rfl; have hcz6_2 : w5.cell? ⟨gb164, 2, none⟩ = some (.slice A0_2 l0_2.length c0_2) := (blk_cell BK164.out 2).trans rfl; have hfz6_0 := blk_frozen BK164.out 0; have hfz6_1 := blk_frozen BK164.out 1; have hfz6_2 := blk_frozen BK164.out 2) | ((with_reducible refine gate_callee (f := 60) rfl ?_); refine goesL_ (some 10) rfl rfl Try.func60 (by kernel_rfl) rfl #[.agg #[.int .i64 a0_0, .slice A0_1 l0_1.length c0_1, .slice A0_2 l0_2.length c0_2], .int .i64 a1] rfl (by (try simp only [List.map_toArray, List.map_cons, List.map_nil]); first | done | rfl | (simp only [List.length_drop, List.length_take]; rfl)) ?_; (with_reducible refine (impl_Farm_group.calls a0_0 _ _ l0_1 _ _ l0_2 a1 t165 true _ ?side1 ?side2 ?side3 ?side4 A3.out).mono ?_); (case side1 => repeat (first | exact (Kd.C_below HR0_1.out HB.out) | (with_reducible refine Kd.C_alloc ?_ _) | (with_reducible refine Kd.C_drewN ?_ _) | (with_reducible refine Kd.C_drew ?_))); (case side2 => exact HC0_1.out); (case side3 => repeat (first | exact (Kd.C_below HR0_2.out HB.out) | (with_reducible refine Kd.C_alloc ?_ _) | (with_reducible refine Kd.C_drewN ?_ _) | (with_reducible refine Kd.C_drew ?_))); (case side4 => exact HC0_2.out); rintro e w7 ⟨rfl, hb⟩; refine ⟨_, rfl, ?_⟩; have n0_ := Aside0.mk (blk_below (g := gb164) (o := .cells #[.int .i64 a0_0, .slice A0_1 l0_1.length c0_1, .slice A0_2 l0_2.length c0_2] 31 (0, 0)) (by (with_reducible repeat (first | refine blk_drewN ?_ _ | refine blk_drew ?_ | refine blk_alloc ?_ _)); exact BK164.out) hb); have n1_ := Aside0.mk (below_step (by repeat (first | (with_reducible first | exact HB.out | apply below_alloc | apply pw_below_drewN | apply below_drew1 | refine below_set ?_ GE164.out) | exact HB.out)) hb); clear BK164; clear HB; have BK164 := n0_; have HB := n1_; clear n0_ n1_; (try clear hb); (try clear hb2); (try clear hk); (try clear hi)))
    go_ret
    exact ⟨by first | rfl | (simp [errW_none, errW_some] <;> rfl) | (simp [*, errW_none, errW_some] <;> rfl), by repeat (first | (with_reducible first | exact HB.out | apply below_alloc | apply pw_below_drewN | apply below_drew1 | refine below_set ?_ GE164.out) | exact HB.out)⟩
  · replace c4 := Bool.eq_false_iff.mpr c4
    subst c4
    have H1 : (some (a1 == 0)) = some r := by rw [if_neg (show ¬ (false = true) by decide)] at H; exact H
    clear H
    have H := H1
    clear H1
    obtain rfl := Option.some.inj H
    go_enter Try.func32, Try.ntmps32
    go_wp2_with (first | ((with_reducible refine gate_dst (N := 2) rfl ?_); refine box_event ?hg (N := 2) ?hd (cs := #[.int .i64 a0_0, .slice A0_1 l0_1.length c0_1, .slice A0_2 l0_2.length c0_2]) (t := 31) ?hr ?_; (case hd => rfl); (case hg => rfl); (case hr => first | (go_simp; done) | (go_simp; rfl)); intro gb164 hg w8 hbox hb; have n0_ := Aside0.mk (below_step (by repeat (first | (with_reducible first | exact HB.out | apply below_alloc | apply pw_below_drewN | apply below_drew1) | exact HB.out)) hb); have n1_ := Aside0.mk (hbox); have n2_ := Aside0.mk ((by rw [hg]; exact (below_size (by repeat (first | (with_reducible first | exact HB.out | apply below_alloc | apply pw_below_drewN | apply below_drew1) | exact HB.out))) : w.heap.size ≤ gb164)); have n3_ := Aside0.mk ((by rw [hg]; exact (below_size (by repeat (first | (with_reducible first | exact HB.out | apply below_alloc | apply pw_below_drewN | apply below_drew1) | exact HB.out))) : w.heap.size ≤ gb164)); clear HB; have HB := n0_; have BK164 := n1_; have GW164 := n2_; have GE164 := n3_; clear n0_ n1_ n2_ n3_; clear hb hbox hg; have hcz9_0 : w8.cell? ⟨gb164, 0, none⟩ = some (.int .i64 a0_0) := (blk_cell BK164.out 0).trans rfl; have hcz9_1 : w8.cell? ⟨gb164, 1, none⟩ = some (.slice A0_1 l0_1.length c0_1) := (blk_cell BK164.out 1).trans rfl; have hcz9_2 : w8.cell? ⟨gb164, 2, none⟩ = some (.slice A0_2 l0_2.length c0_2) := (blk_cell BK164.out 2).trans rfl; have hfz9_0 := blk_frozen BK164.out 0; have hfz9_1 := blk_frozen BK164.out 1; have hfz9_2 := blk_frozen BK164.out 2) | ((with_reducible refine gate_callee (f := 60) rfl ?_); refine goesL_ (some 10) rfl rfl Try.func60 (by kernel_rfl) rfl #[.agg #[.int .i64 a0_0, .slice A0_1 l0_1.length c0_1, .slice A0_2 l0_2.length c0_2], .int .i64 a1] rfl (by (try simp only [List.map_toArray, List.map_cons, List.map_nil]); first | done | rfl | (simp only [List.length_drop, List.length_take]; rfl)) ?_; (with_reducible refine (impl_Farm_group.calls a0_0 _ _ l0_1 _ _ l0_2 a1 t165 false _ ?side1 ?side2 ?side3 ?side4 A3.out).mono ?_); (case side1 => repeat (first | exact (Kd.C_below HR0_1.out HB.out) | (with_reducible refine Kd.C_alloc ?_ _) | (with_reducible refine Kd.C_drewN ?_ _) | (with_reducible refine Kd.C_drew ?_))); (case side2 => exact HC0_1.out); (case side3 => repeat (first | exact (Kd.C_below HR0_2.out HB.out) | (with_reducible refine Kd.C_alloc ?_ _) | (with_reducible refine Kd.C_drewN ?_ _) | (with_reducible refine Kd.C_drew ?_))); (case side4 => exact HC0_2.out); rintro e w10 ⟨rfl, hb⟩; refine ⟨_, rfl, ?_⟩; have n0_ := Aside0.mk (blk_below (g := gb164) (o := .cells #[.int .i64 a0_0, .slice A0_1 l0_1.length c0_1, .slice A0_2 l0_2.length c0_2] 31 (0, 0)) (by (with_reducible repeat (first | refine blk_drewN ?_ _ | refine blk_drew ?_ | refine blk_alloc ?_ _)); exact BK164.out) hb); have n1_ := Aside0.mk (below_step (by repeat (first | (with_reducible first | exact HB.out | apply below_alloc | apply pw_below_drewN | apply below_drew1 | refine below_set ?_ GE164.out) | exact HB.out)) hb); clear BK164; clear HB; have BK164 := n0_; have HB := n1_; clear n0_ n1_; (try clear hb); (try clear hb2); (try clear hk); (try clear hi)))
    go_ret
    exact ⟨by first | rfl | (simp [errW_none, errW_some] <;> rfl) | (simp [*, errW_none, errW_some] <;> rfl), by repeat (first | (with_reducible first | exact HB.out | apply below_alloc | apply pw_below_drewN | apply below_drew1 | refine below_set ?_ GE164.out) | exact HB.out)⟩

/-! ### impl_in: function 69 -/
def impl_in.f (a0 : Int) (a1 : Int) (a2 : Int) : Option (Bool) := if a1 ≤ a0 then (some (decide (a0 ≤ a2))) else (some false)
set_option maxHeartbeats 8000000 in
set_option maxRecDepth 100000 in
theorem impl_in.calls (a0 : Int) (a1 : Int) (a2 : Int) (r : Bool) (w : World) (h : impl_in.f a0 a1 a2 = some r) :
    Calls Try.prog 69 #[.int .i64 a0, .int .i64 a1, .int .i64 a2] w fun e w' => e = .returned (.bool r) ∧ Drawn0 w w' := by
  have H : (if a1 ≤ a0 then (some (decide (a0 ≤ a2))) else (some false)) = some r := h
  clear h
  by_cases c4 : a1 ≤ a0
  · rw [if_pos c4] at H
    have c4b0 : decide (a1 ≤ a0) = true := decide_eq_true c4
    clear c4
    obtain rfl := Option.some.inj H
    go_enter Try.func69, Try.ntmps69
    go_wp2
    go_ret
    exact ⟨by first | rfl | (simp; done) | (simp [*]; done), by repeat (first | exact Drawn0.refl _ | apply Drawn0.step)⟩
  · rw [if_neg c4] at H
    have c4b0 : decide (a1 ≤ a0) = false := decide_eq_false c4
    clear c4
    obtain rfl := Option.some.inj H
    go_enter Try.func69, Try.ntmps69
    go_wp2
    go_ret
    exact ⟨by first | rfl | (simp; done) | (simp [*]; done), by repeat (first | exact Drawn0.refl _ | apply Drawn0.step)⟩

/-! ### impl_isWant: function 57 -/
def impl_isWant.f (a0 : Int) : Option (Bool) := (impl_in.f a0 0 1125899906842624).bind fun t167 => (some t167)
set_option maxHeartbeats 8000000 in
set_option maxRecDepth 100000 in
theorem impl_isWant.calls (a0 : Int) (r : Bool) (w : World) (h : impl_isWant.f a0 = some r) :
    Calls Try.prog 57 #[.int .i64 a0] w fun e w' => e = .returned (.bool r) ∧ Drawn0 w w' := by
  have H : ((impl_in.f a0 0 1125899906842624).bind fun t167 => (some t167)) = some r := h
  clear h
  replace H := Option.bind_eq_some_iff.mp H
  obtain ⟨t167, A20, H⟩ := H
  replace H : (some t167) = some r := H
  have A2 := Aside0.mk A20
  clear A20
  obtain rfl := Option.some.inj H
  go_enter Try.func57, Try.ntmps57
  go_wp2_with (first | ((with_reducible refine gate_callee (f := 69) rfl ?_); refine goesL_ (some 4) rfl rfl Try.func69 (by kernel_rfl) rfl #[.int .i64 a0, .int .i64 0, .int .i64 1125899906842624] rfl (by (try simp only [List.map_toArray, List.map_cons, List.map_nil]); first | done | rfl | (simp only [List.length_drop, List.length_take]; rfl)) ?_; (with_reducible refine (impl_in.calls a0 0 1125899906842624 t167 _ A2.out).mono ?_); rintro e w' ⟨rfl, ⟨nd, rfl⟩⟩; refine ⟨_, rfl, ?_⟩))
  go_ret
  exact ⟨by first | rfl | (simp; done) | (simp [*]; done), by repeat (first | exact Drawn0.refl _ | apply Drawn0.step)⟩

/-! ### impl_isId: function 58 -/
def impl_isId.f (a0 : Int) : Option (Bool) := (impl_in.f a0 1 1000000).bind fun t168 => (some t168)
set_option maxHeartbeats 8000000 in
set_option maxRecDepth 100000 in
theorem impl_isId.calls (a0 : Int) (r : Bool) (w : World) (h : impl_isId.f a0 = some r) :
    Calls Try.prog 58 #[.int .i64 a0] w fun e w' => e = .returned (.bool r) ∧ Drawn0 w w' := by
  have H : ((impl_in.f a0 1 1000000).bind fun t168 => (some t168)) = some r := h
  clear h
  replace H := Option.bind_eq_some_iff.mp H
  obtain ⟨t168, A20, H⟩ := H
  replace H : (some t168) = some r := H
  have A2 := Aside0.mk A20
  clear A20
  obtain rfl := Option.some.inj H
  go_enter Try.func58, Try.ntmps58
  go_wp2_with (first | ((with_reducible refine gate_callee (f := 69) rfl ?_); refine goesL_ (some 4) rfl rfl Try.func69 (by kernel_rfl) rfl #[.int .i64 a0, .int .i64 1, .int .i64 1000000] rfl (by (try simp only [List.map_toArray, List.map_cons, List.map_nil]); first | done | rfl | (simp only [List.length_drop, List.length_take]; rfl)) ?_; (with_reducible refine (impl_in.calls a0 1 1000000 t168 _ A2.out).mono ?_); rintro e w' ⟨rfl, ⟨nd, rfl⟩⟩; refine ⟨_, rfl, ?_⟩))
  go_ret
  exact ⟨by first | rfl | (simp; done) | (simp [*]; done), by repeat (first | exact Drawn0.refl _ | apply Drawn0.step)⟩

/-! ### impl_isWeight: function 59 -/
def impl_isWeight.f (a0 : Int) : Option (Bool) := (impl_in.f a0 1 1073741824).bind fun t169 => (some t169)
set_option maxHeartbeats 8000000 in
set_option maxRecDepth 100000 in
theorem impl_isWeight.calls (a0 : Int) (r : Bool) (w : World) (h : impl_isWeight.f a0 = some r) :
    Calls Try.prog 59 #[.int .i64 a0] w fun e w' => e = .returned (.bool r) ∧ Drawn0 w w' := by
  have H : ((impl_in.f a0 1 1073741824).bind fun t169 => (some t169)) = some r := h
  clear h
  replace H := Option.bind_eq_some_iff.mp H
  obtain ⟨t169, A20, H⟩ := H
  replace H : (some t169) = some r := H
  have A2 := Aside0.mk A20
  clear A20
  obtain rfl := Option.some.inj H
  go_enter Try.func59, Try.ntmps59
  go_wp2_with (first | ((with_reducible refine gate_callee (f := 69) rfl ?_); refine goesL_ (some 4) rfl rfl Try.func69 (by kernel_rfl) rfl #[.int .i64 a0, .int .i64 1, .int .i64 1073741824] rfl (by (try simp only [List.map_toArray, List.map_cons, List.map_nil]); first | done | rfl | (simp only [List.length_drop, List.length_take]; rfl)) ?_; (with_reducible refine (impl_in.calls a0 1 1073741824 t169 _ A2.out).mono ?_); rintro e w' ⟨rfl, ⟨nd, rfl⟩⟩; refine ⟨_, rfl, ?_⟩))
  go_ret
  exact ⟨by first | rfl | (simp; done) | (simp [*]; done), by repeat (first | exact Drawn0.refl _ | apply Drawn0.step)⟩

/-! ### impl_FarmRight: function 31 -/
theorem impl_isWant.tells' (x : Int) : impl_isWant.f x = some (decide (0 ≤ x ∧ x ≤ 1125899906842624)) := by
  unfold impl_isWant.f impl_in.f
  by_cases h1 : 0 ≤ x <;> simp [h1]
theorem impl_isId.tells' (x : Int) : impl_isId.f x = some (decide (1 ≤ x ∧ x ≤ 1000000)) := by
  unfold impl_isId.f impl_in.f
  by_cases h1 : 1 ≤ x <;> simp [h1]
theorem impl_isWeight.tells' (x : Int) : impl_isWeight.f x = some (decide (1 ≤ x ∧ x ≤ 1073741824)) := by
  unfold impl_isWeight.f impl_in.f
  by_cases h1 : 1 ≤ x <;> simp [h1]
/-- there is such a group, or the whole is meant -/
def impl_Farm_hasGroup.H (l : List S64) (id : Int) : Prop := impl_Farm_group.has l id (impl_Farm_group.at l id 0 l.length) = true ∨ id = 0
instance impl_FarmRight.dec1 (l : List S64) (id : Int) : Decidable (impl_Farm_hasGroup.H l id) := by unfold impl_Farm_hasGroup.H; infer_instance
theorem impl_Farm_hasGroup.tells (c : Int) (l : List S64) (m : List S66) (id : Int) : impl_Farm_hasGroup.f c l m id = some (decide (impl_Farm_hasGroup.H l id)) := by
  unfold impl_Farm_hasGroup.f impl_Farm_group.f
  simp only [Option.bind_some]
  by_cases h : impl_Farm_group.has l id (impl_Farm_group.at l id 0 l.length) = true
  · rw [if_pos h, decide_eq_true (show impl_Farm_hasGroup.H l id from Or.inl h)]
  · rw [if_neg h]
    by_cases h2 : id = 0
    · rw [decide_eq_true (show impl_Farm_hasGroup.H l id from Or.inr h2), h2]
      rfl
    · rw [decide_eq_false (show ¬ impl_Farm_hasGroup.H l id from fun h3 => h3.elim h h2), beq_eq_false_iff_ne.mpr h2]
def impl_FarmRight.G (l : List S64) (i : Nat) : Prop := (1 ≤ (rd_T64 l i).f0 ∧ (rd_T64 l i).f0 ≤ 1000000) ∧ (0 < i → (rd_T64 l ((i : Int) - 1)).f0 < (rd_T64 l i).f0) ∧ impl_Farm_hasGroup.H (l.take i) (rd_T64 l i).f1 ∧ (0 ≤ (rd_T64 l i).f2 ∧ (rd_T64 l i).f2 ≤ 1125899906842624) ∧ (1 ≤ (rd_T64 l i).f3 ∧ (rd_T64 l i).f3 ≤ 1073741824)
def impl_FarmRight.M (l : List S64) (m : List S66) (i : Nat) : Prop := (1 ≤ (rd_T66 m i).f0 ∧ (rd_T66 m i).f0 ≤ 1000000) ∧ (0 < i → (rd_T66 m ((i : Int) - 1)).f0 < (rd_T66 m i).f0) ∧ impl_Farm_hasGroup.H l (rd_T66 m i).f1 ∧ (0 ≤ (rd_T66 m i).f2 ∧ (rd_T66 m i).f2 ≤ 1125899906842624) ∧ (1 ≤ (rd_T66 m i).f3 ∧ (rd_T66 m i).f3 ≤ 1073741824)
instance impl_FarmRight.dec2 (l : List S64) (i : Nat) : Decidable (impl_FarmRight.G l i) := by unfold impl_FarmRight.G; infer_instance
instance impl_FarmRight.dec3 (l : List S64) (m : List S66) (i : Nat) : Decidable (impl_FarmRight.M l m i) := by unfold impl_FarmRight.M; infer_instance
def impl_FarmRight.R (c : Int) (l : List S64) (m : List S66) : Prop := (0 ≤ c ∧ c ≤ 1125899906842624) ∧ l.length ≤ 30 ∧ m.length ≤ 60 ∧ (∀ i, i < l.length → impl_FarmRight.G l i) ∧ (∀ i, i < m.length → impl_FarmRight.M l m i)
instance impl_FarmRight.dec4 (c : Int) (l : List S64) (m : List S66) : Decidable (impl_FarmRight.R c l m) := by unfold impl_FarmRight.R; infer_instance
def impl_FarmRight.f (a0_0 : Int) (l0_1 : List S64) (l0_2 : List S66) : Option Bool := some (decide (impl_FarmRight.R a0_0 l0_1 l0_2))
set_option maxHeartbeats 4000000 in
set_option maxRecDepth 100000 in
set_option pp.maxSteps 100000 in
set_option pp.deepTerms true in
open impl_FarmRight in
theorem impl_FarmRight.calls (a0_0 : Int) (A0_1 : Option Addr) (c0_1 : Nat) (l0_1 : List (S64)) (A0_2 : Option Addr) (c0_2 : Nat) (l0_2 : List (S66)) (r : Bool) (w : World) (hr0_1 : Kd.C k64 w A0_1 l0_1.length l0_1) (hc0_1 : l0_1.length ≤ c0_1) (hr0_2 : Kd.C k66 w A0_2 l0_2.length l0_2) (hc0_2 : l0_2.length ≤ c0_2) (h : impl_FarmRight.f a0_0 l0_1 l0_2 = some r) :
    Calls Try.prog 31 #[.agg #[.int .i64 a0_0, .slice A0_1 l0_1.length c0_1, .slice A0_2 l0_2.length c0_2]] w fun e w' => e = .returned (.bool r) ∧ Below w.heap.size w w' := by
  obtain rfl := Option.some.inj h
  clear h
  have HR := Aside0.mk hr0_1
  have HS := Aside0.mk hr0_2
  clear hr0_1 hr0_2
  have HCC := Aside0.mk (And.intro hc0_1 hc0_2)
  clear hc0_1 hc0_2
  have HW := fun W x => Aside0.mk (impl_isWant.calls x _ W (impl_isWant.tells' x))
  have HI := fun W x => Aside0.mk (impl_isId.calls x _ W (impl_isId.tells' x))
  have HT := fun W x => Aside0.mk (impl_isWeight.calls x _ W (impl_isWeight.tells' x))
  have HF := Aside0.mk (show ¬ R a0_0 l0_1 l0_2 → decide (R a0_0 l0_1 l0_2) = false from fun h => decide_eq_false h)
  have HD := Aside0.mk (show R a0_0 l0_1 l0_2 → decide (R a0_0 l0_1 l0_2) = true from fun h => decide_eq_true h)
  generalize decide (R a0_0 l0_1 l0_2) = r at HF HD
  go_enter Try.func31, Try.ntmps31
  go_wp2_with fail
  refine (HW _ _).out.mono ?_
  rintro e w1 ⟨rfl, hd⟩
  have HB := Aside0.mk (below_step (below_alloc (Below.refl w.heap.size w) _) hd.below)
  have BK := Aside0.mk (blk_below (blk_new w (.cells #[.int .i64 a0_0, .slice A0_1 l0_1.length c0_1, .slice A0_2 l0_2.length c0_2] 31)) hd.below)
  clear hd
  have e1 := blk_cell BK.out 1
  have e2 := blk_cell BK.out 2
  simp only [List.getElem?_toArray, List.getElem?_cons_zero, List.getElem?_cons_succ] at e1 e2
  go_wp2_with fail
  all_goals (try (go_ret; refine ⟨by rw [HF.out (fun h => by obtain ⟨h1, h2, h3, h4⟩ := h; omega)]; rfl, HB.out⟩))
  clear e1 e2
  have hs : l0_1.length ≤ 30 ∧ l0_2.length ≤ 60 := by omega
  have hc : 0 ≤ a0_0 ∧ a0_0 ≤ 1125899906842624 := by omega
  have HL := Aside0.mk (And.intro hc hs)
  clear hc
  have hf : (∀ i, i < l0_1.length → G l0_1 i) → (∀ i, i < l0_2.length → M l0_1 l0_2 i) → r = true := fun a b => HD.out ⟨HL.out.1, HL.out.2.1, HL.out.2.2, a, b⟩
  have HD := Aside0.mk hf
  have hf : ∀ i, i < l0_1.length → ¬ G l0_1 i → r = false := fun i hi hg => HF.out (fun h => hg (h.2.2.2.1 i hi))
  have HFG := Aside0.mk hf
  have hf : ∀ i, i < l0_2.length → ¬ M l0_1 l0_2 i → r = false := fun i hi hg => HF.out (fun h => hg (h.2.2.2.2 i hi))
  have HFM := Aside0.mk hf
  clear hf HF hs
  go_loopg [27] l0_1.length (fun gg v3 wr => ∃ k : Nat, k ≤ l0_1.length ∧ l0_1.length - k ≤ gg ∧ v3 = .int .i64 k ∧ Aside0 (wr.heap[w.heap.size]? = some (.cells #[.int .i64 a0_0, .slice A0_1 l0_1.length c0_1, .slice A0_2 l0_2.length c0_2] 31 (0, 0))) ∧ Aside0 (Below w.heap.size w wr) ∧ Aside0 (∀ i, i < k → G l0_1 i))
  case atStart => exact ⟨0, Nat.zero_le _, by omega, rfl, BK, HB, ⟨fun i hi => by omega⟩⟩
  case round =>
    obtain ⟨k, hk, hg, rfl, BK, HB, HA⟩ := hrel
    have e2 : wr.cell? ⟨w.heap.size, 2, none⟩ = some (.slice A0_2 l0_2.length c0_2) := blk_cell BK.out 2
    have e1 : ∀ o, (wr.alloc o).cell? ⟨w.heap.size, 1, none⟩ = some (.slice A0_1 l0_1.length c0_1) := fun o => blk_cell (blk_alloc BK.out o) 1
    by_cases hlt : k < l0_1.length
    · have hltz : (k : Int) < (l0_1.length : Int) := by omega
      have hkc : k ≤ c0_1 := by have := HCC.out.1; omega
      obtain ⟨ad, rfl, x0, x1, x2, x3⟩ := at_T64 (Kd.C_below HR.out HB.out) k (by omega) hltz
      simp only [Int.toNat_natCast] at x0 x1 x2 x3
      have HX := Aside0.mk (HFG.out k hlt)
      have HY := Aside0.mk HA.out
      clear HA
      go_wp2_with fail
      have hw1 : Below w.heap.size w ((wr.alloc (.cells #[.int .i64 (rd_T64 l0_1 k).f0, .int .i64 (rd_T64 l0_1 k).f1, .int .i64 (rd_T64 l0_1 k).f2, .int .i64 (rd_T64 l0_1 k).f3] 64)).alloc (.cells #[.int .i64 0, .slice (some ad) k c0_1, .slice none 0 0] 31)) := below_alloc (below_alloc HB.out _) _
      have hb1 := blk_alloc (blk_alloc BK.out (.cells #[.int .i64 (rd_T64 l0_1 k).f0, .int .i64 (rd_T64 l0_1 k).f1, .int .i64 (rd_T64 l0_1 k).f2, .int .i64 (rd_T64 l0_1 k).f3] 64)) (.cells #[.int .i64 0, .slice (some ad) k c0_1, .slice none 0 0] 31)
      have hb2 := blk_alloc (blk_new wr (.cells #[.int .i64 (rd_T64 l0_1 k).f0, .int .i64 (rd_T64 l0_1 k).f1, .int .i64 (rd_T64 l0_1 k).f2, .int .i64 (rd_T64 l0_1 k).f3] 64)) (.cells #[.int .i64 0, .slice (some ad) k c0_1, .slice none 0 0] 31)
      have hb3 : ((wr.alloc (.cells #[.int .i64 (rd_T64 l0_1 k).f0, .int .i64 (rd_T64 l0_1 k).f1, .int .i64 (rd_T64 l0_1 k).f2, .int .i64 (rd_T64 l0_1 k).f3] 64)).alloc (.cells #[.int .i64 0, .slice (some ad) k c0_1, .slice none 0 0] 31)).heap[wr.heap.size + 1]? = some (.cells #[.int .i64 0, .slice (some ad) k c0_1, .slice none 0 0] 31) := Go.Proofs.Ytcdmhjnofdoobaa.Kit.blk_new' _ _ (show wr.heap.size + 1 = (wr.heap.push _).size from (Array.size_push _).symm)
      have HP : ∀ W, Below w.heap.size w W → 0 < k → W.cell? (ad.add ((k - 1) * 4)) = some (.int .i64 (rd_T64 l0_1 ((k : Int) - 1)).f0) := fun W hb hpos => by
        obtain ⟨ad', hq, y0, _, _, _⟩ := at_T64 (Kd.C_below HR.out hb) ((k : Int) - 1) (by omega) (by omega)
        cases hq
        rw [show ((k : Int) - 1).toNat = k - 1 by omega] at y0
        exact y0
      generalize (wr.alloc (.cells #[.int .i64 (rd_T64 l0_1 k).f0, .int .i64 (rd_T64 l0_1 k).f1, .int .i64 (rd_T64 l0_1 k).f2, .int .i64 (rd_T64 l0_1 k).f3] 64)).alloc (.cells #[.int .i64 0, .slice (some ad) k c0_1, .slice none 0 0] 31) = w2 at hw1 hb1 hb2 hb3 ⊢

      clear x0 x1 x2 x3 e1 e2 BK HB
      refine Go.Proofs.Ytcdmhjnofdoobaa.Kit.wp_region_on (by kernel_rfl) (by kernel_rfl) (fun T val iT hv hk => ?_)
      have HV := Aside0.mk (fun t => below_step hw1 (hv t))
      have s0 : ∀ t, (val t).cell? ⟨w.heap.size, 0, none⟩ = some (.int .i64 a0_0) := fun t => Go.Proofs.Ytcdmhjnofdoobaa.Kit.cell_on (hv t) (blk_cell hb1 0)
      have s1 : ∀ t, (val t).cell? ⟨w.heap.size, 1, none⟩ = some (.slice (some ad) l0_1.length c0_1) := fun t => Go.Proofs.Ytcdmhjnofdoobaa.Kit.cell_on (hv t) (blk_cell hb1 1)
      have s2 : ∀ t, (val t).cell? ⟨w.heap.size, 2, none⟩ = some (.slice A0_2 l0_2.length c0_2) := fun t => Go.Proofs.Ytcdmhjnofdoobaa.Kit.cell_on (hv t) (blk_cell hb1 2)
      have s3 : ∀ t, (val t).cell? ⟨wr.heap.size, 0, none⟩ = some (.int .i64 (rd_T64 l0_1 k).f0) := fun t => Go.Proofs.Ytcdmhjnofdoobaa.Kit.cell_on (hv t) (blk_cell hb2 0)
      have s4 : ∀ t, (val t).cell? ⟨wr.heap.size, 1, none⟩ = some (.int .i64 (rd_T64 l0_1 k).f1) := fun t => Go.Proofs.Ytcdmhjnofdoobaa.Kit.cell_on (hv t) (blk_cell hb2 1)
      have s5 : ∀ t, (val t).cell? ⟨wr.heap.size, 2, none⟩ = some (.int .i64 (rd_T64 l0_1 k).f2) := fun t => Go.Proofs.Ytcdmhjnofdoobaa.Kit.cell_on (hv t) (blk_cell hb2 2)
      have s6 : ∀ t, (val t).cell? ⟨wr.heap.size, 3, none⟩ = some (.int .i64 (rd_T64 l0_1 k).f3) := fun t => Go.Proofs.Ytcdmhjnofdoobaa.Kit.cell_on (hv t) (blk_cell hb2 3)
      have s7 : ∀ t, (val t).cell? ⟨wr.heap.size + 1, 0, none⟩ = some (.int .i64 0) := fun t => Go.Proofs.Ytcdmhjnofdoobaa.Kit.cell_on (hv t) (blk_cell hb3 0)
      have s8 : ∀ t, (val t).cell? ⟨wr.heap.size + 1, 1, none⟩ = some (.slice (some ad) k c0_1) := fun t => Go.Proofs.Ytcdmhjnofdoobaa.Kit.cell_on (hv t) (blk_cell hb3 1)
      have s9 : ∀ t, (val t).cell? ⟨wr.heap.size + 1, 2, none⟩ = some (.slice none 0 0) := fun t => Go.Proofs.Ytcdmhjnofdoobaa.Kit.cell_on (hv t) (blk_cell hb3 2)
      have HBK := Aside0.mk (fun t => blk_below hb1 (hv t))
      have HK := Aside0.mk hk
      have HVV := Aside0.mk hv
      clear hw1 hb1 hb2 hb3 hv hk
      obtain ⟨q1, Q1, C1⟩ := Go.Proofs.Ytcdmhjnofdoobaa.Kit.told (impl_isId.tells' (rd_T64 l0_1 k).f0) (impl_isId.calls _)
      obtain ⟨q2, Q2, C2⟩ := Go.Proofs.Ytcdmhjnofdoobaa.Kit.told (impl_isWant.tells' (rd_T64 l0_1 k).f2) (impl_isWant.calls _)
      obtain ⟨q3, Q3, C3⟩ := Go.Proofs.Ytcdmhjnofdoobaa.Kit.told (impl_isWeight.tells' (rd_T64 l0_1 k).f3) (impl_isWeight.calls _)
      have y := fun t (h : 0 < k) => HP (val t) (HV.out t) h
      obtain ⟨q4, hq4⟩ : ∃ q, q = decide (impl_Farm_hasGroup.H (l0_1.take k) (rd_T64 l0_1 k).f1) := ⟨_, rfl⟩
      have HL : ∀ W, Below w.heap.size w W → Aside0 (Calls Try.prog 32 #[.agg #[.int .i64 0, .slice (some ad) k c0_1, .slice none 0 0], .int .i64 (rd_T64 l0_1 k).f1] W fun e w' => e = .returned (.bool q4) ∧ Below W.heap.size W w') := fun W hb => ⟨by
        have h1 := impl_Farm_hasGroup.calls 0 (some ad) c0_1 (l0_1.take k) none 0 [] (rd_T64 l0_1 k).f1 q4 W (Kd.C_take (Kd.C_below HR.out hb) hk) (by rw [List.length_take]; have := HCC.out.1; omega) (Kd.C_nil _ _) (Nat.le_refl _) (by rw [hq4]; exact impl_Farm_hasGroup.tells _ _ _ _)
        rw [List.length_take, Nat.min_eq_left hk] at h1
        exact h1⟩
      have Q4 : Aside0 (q4 = true ↔ impl_Farm_hasGroup.H (l0_1.take k) (rd_T64 l0_1 k).f1) := ⟨by rw [hq4]; exact decide_eq_true_iff⟩
      clear hq4
      clear HP
      have hG : G l0_1 k ↔ (1 ≤ (rd_T64 l0_1 k).f0 ∧ (rd_T64 l0_1 k).f0 ≤ 1000000) ∧ (0 < k → (rd_T64 l0_1 ((k : Int) - 1)).f0 < (rd_T64 l0_1 k).f0) ∧ impl_Farm_hasGroup.H (l0_1.take k) (rd_T64 l0_1 k).f1 ∧ (0 ≤ (rd_T64 l0_1 k).f2 ∧ (rd_T64 l0_1 k).f2 ≤ 1125899906842624) ∧ (1 ≤ (rd_T64 l0_1 k).f3 ∧ (rd_T64 l0_1 k).f3 ≤ 1073741824) := Iff.rfl
      generalize (rd_T64 l0_1 k).f0 = g0 at Q1 C1 s3 hG ⊢
      generalize impl_Farm_hasGroup.H (l0_1.take k) (rd_T64 l0_1 k).f1 = pH at Q4 hG
      generalize (rd_T64 l0_1 k).f1 = g1 at HL s4 ⊢
      generalize (rd_T64 l0_1 k).f2 = g2 at Q2 C2 s5 hG ⊢
      generalize (rd_T64 l0_1 k).f3 = g3 at Q3 C3 s6 hG ⊢
      generalize (rd_T64 l0_1 ((k : Int) - 1)).f0 = p0 at y hG
      have HG := Aside0.mk hG
      clear hG
      repeat' (first
        | go_big_quiet_skip
        | (go_big_quiet_want; go_big_quiet_op; first | go_big_quiet_on | go_big_quiet_call (first
          | (go_at_call 58; exact (C1 _).out.mono (fun e w' h => ⟨h.1, HK.out _ _ h.2.below⟩))
          | (go_at_call 57; exact (C2 _).out.mono (fun e w' h => ⟨h.1, HK.out _ _ h.2.below⟩))
          | (go_at_call 59; exact (C3 _).out.mono (fun e w' h => ⟨h.1, HK.out _ _ h.2.below⟩))
          | (go_at_call 32; exact (HL _ (HV.out _)).out.mono (fun e w' h => ⟨h.1, HK.out _ _ h.2⟩))))
        | (cases q1 <;> simp only [Bool.not_true, Bool.not_false])
        | (by_cases hpos : 0 < k <;> simp only [hpos, decide_true, decide_false])
        | (by_cases hpr : g0 ≤ p0 <;> simp only [hpr, decide_true, decide_false])
        | (cases q4 <;> simp only [Bool.not_true, Bool.not_false])
        | (cases q2 <;> simp only [Bool.not_true, Bool.not_false])
        | (cases q3 <;> simp only [Bool.not_true, Bool.not_false]))
      all_goals
        refine wpQuiet_nil ?_
        intro t
        have HB := Aside0.mk (HV.out t)
        have BK := Aside0.mk (HBK.out t)
        generalize val t = w3 at HB BK
        clear s0 s1 s2 s3 s4 s5 s6 s7 s8 s9 y HL C2 C3 HV HBK HK HVV
        go_wp2_with fail
        first
        | (go_ret
           refine ⟨?_, HB.out⟩
           have h1 := Q1.out
           have h2 := Q2.out
           have h3 := Q3.out
           have h4 := Q4.out
           simp only [Bool.false_eq_true, false_iff, true_iff] at h1 h2 h3 h4
           rw [HX.out (fun h => by have h := HG.out.1 h; first | omega | exact h4 h.2.2.1)]
           rfl)
        | (go_roundg (l0_1.length - (k + 1))
           case measure => omega
           case rel =>
             refine ⟨k + 1, by omega, by omega, by go_num, BK, HB, ⟨fun i hi => ?_⟩⟩
             by_cases hik : i < k
             · exact HY.out i hik
             · obtain rfl : i = k := by omega
               have h1 := Q1.out
               have h2 := Q2.out
               have h3 := Q3.out
               have h4 := Q4.out
               simp only [true_iff] at h1 h2 h3 h4
               exact HG.out.2 ⟨by omega, by omega, h4, by omega, by omega⟩)
    · obtain rfl : k = l0_1.length := by omega
      clear HFG
      have hf := fun b => HD.out HA.out b
      have HD := Aside0.mk hf
      clear hf HA
      go_wp2_with fail
      go_loopg [80] l0_2.length (fun gg v3 wr => ∃ k : Nat, k ≤ l0_2.length ∧ l0_2.length - k ≤ gg ∧ v3 = .int .i64 k ∧ Aside0 (wr.heap[w.heap.size]? = some (.cells #[.int .i64 a0_0, .slice A0_1 l0_1.length c0_1, .slice A0_2 l0_2.length c0_2] 31 (0, 0))) ∧ Aside0 (Below w.heap.size w wr) ∧ Aside0 (∀ i, i < k → M l0_1 l0_2 i))
      case atStart => exact ⟨0, Nat.zero_le _, by omega, rfl, BK, HB, ⟨fun i hi => by omega⟩⟩
      case round =>
        clear BK HB hk hg hlt e1
        obtain ⟨k, hk, hg, rfl, BK, HB, HA⟩ := hrel
        have e1 := blk_cell BK.out 2
        simp only [List.getElem?_toArray, List.getElem?_cons_zero, List.getElem?_cons_succ] at e1
        by_cases hlt : k < l0_2.length
        · have hltz : (k : Int) < (l0_2.length : Int) := by omega
          obtain ⟨ad, rfl, x0, x1, x2, x3⟩ := at_T66 (Kd.C_below HS.out HB.out) k (by omega) hltz
          simp only [Int.toNat_natCast] at x0 x1 x2 x3
          have HX := Aside0.mk (HFM.out k hlt)
          have HY := Aside0.mk HA.out
          clear HA
          go_wp2_with fail
          have hw1 : Below w.heap.size w (wr.alloc (.cells #[.int .i64 (rd_T66 l0_2 k).f0, .int .i64 (rd_T66 l0_2 k).f1, .int .i64 (rd_T66 l0_2 k).f2, .int .i64 (rd_T66 l0_2 k).f3] 66)) := below_alloc HB.out _
          have hb1 := blk_alloc BK.out (.cells #[.int .i64 (rd_T66 l0_2 k).f0, .int .i64 (rd_T66 l0_2 k).f1, .int .i64 (rd_T66 l0_2 k).f2, .int .i64 (rd_T66 l0_2 k).f3] 66)
          have hb2 := blk_new wr (.cells #[.int .i64 (rd_T66 l0_2 k).f0, .int .i64 (rd_T66 l0_2 k).f1, .int .i64 (rd_T66 l0_2 k).f2, .int .i64 (rd_T66 l0_2 k).f3] 66)
          have HP : ∀ W, Below w.heap.size w W → 0 < k → W.cell? (ad.add ((k - 1) * 4)) = some (.int .i64 (rd_T66 l0_2 ((k : Int) - 1)).f0) := fun W hb hpos => by
            obtain ⟨ad', hq, y0, _, _, _⟩ := at_T66 (Kd.C_below HS.out hb) ((k : Int) - 1) (by omega) (by omega)
            cases hq
            rw [show ((k : Int) - 1).toNat = k - 1 by omega] at y0
            exact y0
          generalize wr.alloc (.cells #[.int .i64 (rd_T66 l0_2 k).f0, .int .i64 (rd_T66 l0_2 k).f1, .int .i64 (rd_T66 l0_2 k).f2, .int .i64 (rd_T66 l0_2 k).f3] 66) = w2 at hw1 hb1 hb2
          clear x0 x1 x2 x3 e1 BK HB
          refine Go.Proofs.Ytcdmhjnofdoobaa.Kit.wp_region_on (by kernel_rfl) (by kernel_rfl) (fun T val iT hv hk => ?_)
          have HV := Aside0.mk (fun t => below_step hw1 (hv t))
          have s0 : ∀ t, (val t).cell? ⟨w.heap.size, 0, none⟩ = some (.int .i64 a0_0) := fun t => Go.Proofs.Ytcdmhjnofdoobaa.Kit.cell_on (hv t) (blk_cell hb1 0)
          have s1 : ∀ t, (val t).cell? ⟨w.heap.size, 1, none⟩ = some (.slice A0_1 l0_1.length c0_1) := fun t => Go.Proofs.Ytcdmhjnofdoobaa.Kit.cell_on (hv t) (blk_cell hb1 1)
          have s2 : ∀ t, (val t).cell? ⟨w.heap.size, 2, none⟩ = some (.slice (some ad) l0_2.length c0_2) := fun t => Go.Proofs.Ytcdmhjnofdoobaa.Kit.cell_on (hv t) (blk_cell hb1 2)
          have s3 : ∀ t, (val t).cell? ⟨wr.heap.size, 0, none⟩ = some (.int .i64 (rd_T66 l0_2 k).f0) := fun t => Go.Proofs.Ytcdmhjnofdoobaa.Kit.cell_on (hv t) (blk_cell hb2 0)
          have s4 : ∀ t, (val t).cell? ⟨wr.heap.size, 1, none⟩ = some (.int .i64 (rd_T66 l0_2 k).f1) := fun t => Go.Proofs.Ytcdmhjnofdoobaa.Kit.cell_on (hv t) (blk_cell hb2 1)
          have s5 : ∀ t, (val t).cell? ⟨wr.heap.size, 2, none⟩ = some (.int .i64 (rd_T66 l0_2 k).f2) := fun t => Go.Proofs.Ytcdmhjnofdoobaa.Kit.cell_on (hv t) (blk_cell hb2 2)
          have s6 : ∀ t, (val t).cell? ⟨wr.heap.size, 3, none⟩ = some (.int .i64 (rd_T66 l0_2 k).f3) := fun t => Go.Proofs.Ytcdmhjnofdoobaa.Kit.cell_on (hv t) (blk_cell hb2 3)
          have HBK := Aside0.mk (fun t => blk_below hb1 (hv t))
          have HK := Aside0.mk hk
          have HVV := Aside0.mk hv
          clear hw1 hb1 hb2 hv hk
          obtain ⟨q1, Q1, C1⟩ := Go.Proofs.Ytcdmhjnofdoobaa.Kit.told (impl_isId.tells' (rd_T66 l0_2 k).f0) (impl_isId.calls _)
          obtain ⟨q2, Q2, C2⟩ := Go.Proofs.Ytcdmhjnofdoobaa.Kit.told (impl_isWant.tells' (rd_T66 l0_2 k).f2) (impl_isWant.calls _)
          obtain ⟨q3, Q3, C3⟩ := Go.Proofs.Ytcdmhjnofdoobaa.Kit.told (impl_isWeight.tells' (rd_T66 l0_2 k).f3) (impl_isWeight.calls _)
          have y := fun t (h : 0 < k) => HP (val t) (HV.out t) h
          obtain ⟨q4, hq4⟩ : ∃ q, q = decide (impl_Farm_hasGroup.H l0_1 (rd_T66 l0_2 k).f1) := ⟨_, rfl⟩
          have HL : ∀ W, Below w.heap.size w W → Aside0 (Calls Try.prog 32 #[.agg #[.int .i64 a0_0, .slice A0_1 l0_1.length c0_1, .slice (some ad) l0_2.length c0_2], .int .i64 (rd_T66 l0_2 k).f1] W fun e w' => e = .returned (.bool q4) ∧ Below W.heap.size W w') := fun W hb => ⟨impl_Farm_hasGroup.calls a0_0 A0_1 c0_1 l0_1 (some ad) c0_2 l0_2 (rd_T66 l0_2 k).f1 q4 W (Kd.C_below HR.out hb) HCC.out.1 (Kd.C_below HS.out hb) HCC.out.2 (by rw [hq4]; exact impl_Farm_hasGroup.tells _ _ _ _)⟩
          have Q4 : Aside0 (q4 = true ↔ impl_Farm_hasGroup.H l0_1 (rd_T66 l0_2 k).f1) := ⟨by rw [hq4]; exact decide_eq_true_iff⟩
          clear hq4
          clear HP
          have hG : M l0_1 l0_2 k ↔ (1 ≤ (rd_T66 l0_2 k).f0 ∧ (rd_T66 l0_2 k).f0 ≤ 1000000) ∧ (0 < k → (rd_T66 l0_2 ((k : Int) - 1)).f0 < (rd_T66 l0_2 k).f0) ∧ impl_Farm_hasGroup.H l0_1 (rd_T66 l0_2 k).f1 ∧ (0 ≤ (rd_T66 l0_2 k).f2 ∧ (rd_T66 l0_2 k).f2 ≤ 1125899906842624) ∧ (1 ≤ (rd_T66 l0_2 k).f3 ∧ (rd_T66 l0_2 k).f3 ≤ 1073741824) := Iff.rfl
          generalize (rd_T66 l0_2 k).f0 = g0 at Q1 C1 s3 hG ⊢
          generalize impl_Farm_hasGroup.H l0_1 (rd_T66 l0_2 k).f1 = pH at Q4 hG
          generalize (rd_T66 l0_2 k).f1 = g1 at HL s4 ⊢
          generalize (rd_T66 l0_2 k).f2 = g2 at Q2 C2 s5 hG ⊢
          generalize (rd_T66 l0_2 k).f3 = g3 at Q3 C3 s6 hG ⊢
          generalize (rd_T66 l0_2 ((k : Int) - 1)).f0 = p0 at y hG
          have HG := Aside0.mk hG
          clear hG
          repeat' (first
            | go_big_quiet_skip
            | (go_big_quiet_want; go_big_quiet_op; first | go_big_quiet_on | go_big_quiet_call (first
              | (go_at_call 58; exact (C1 _).out.mono (fun e w' h => ⟨h.1, HK.out _ _ h.2.below⟩))
              | (go_at_call 57; exact (C2 _).out.mono (fun e w' h => ⟨h.1, HK.out _ _ h.2.below⟩))
              | (go_at_call 59; exact (C3 _).out.mono (fun e w' h => ⟨h.1, HK.out _ _ h.2.below⟩))
              | (go_at_call 32; exact (HL _ (HV.out _)).out.mono (fun e w' h => ⟨h.1, HK.out _ _ h.2⟩))))
            | (cases q1 <;> simp only [Bool.not_true, Bool.not_false])
            | (by_cases hpos : 0 < k <;> simp only [hpos, decide_true, decide_false])
            | (by_cases hpr : g0 ≤ p0 <;> simp only [hpr, decide_true, decide_false])
            | (cases q4 <;> simp only [Bool.not_true, Bool.not_false])
            | (cases q2 <;> simp only [Bool.not_true, Bool.not_false])
            | (cases q3 <;> simp only [Bool.not_true, Bool.not_false]))
          all_goals
            refine wpQuiet_nil ?_
            intro t
            have HB := Aside0.mk (HV.out t)
            have BK := Aside0.mk (HBK.out t)
            generalize val t = w3 at HB BK
            clear s0 s1 s2 s3 s4 s5 s6 y HL C2 C3 HV HBK HK HVV
            go_wp2_with fail
            first
            | (go_ret
               refine ⟨?_, HB.out⟩
               have h1 := Q1.out
               have h2 := Q2.out
               have h3 := Q3.out
               have h4 := Q4.out
               simp only [Bool.false_eq_true, false_iff, true_iff] at h1 h2 h3 h4
               rw [HX.out (fun h => by have h := HG.out.1 h; first | omega | exact h4 h.2.2.1)]
               rfl)
            | (go_roundg (l0_2.length - (k + 1))
               case measure => omega
               case rel =>
                 refine ⟨k + 1, by omega, by omega, by go_num, BK, HB, ⟨fun i hi => ?_⟩⟩
                 by_cases hik : i < k
                 · exact HY.out i hik
                 · obtain rfl : i = k := by omega
                   have h1 := Q1.out
                   have h2 := Q2.out
                   have h3 := Q3.out
                   have h4 := Q4.out
                   simp only [true_iff] at h1 h2 h3 h4
                   exact HG.out.2 ⟨by omega, by omega, h4, by omega, by omega⟩)
        · obtain rfl : k = l0_2.length := by omega
          go_wp2_with fail
          go_ret
          exact ⟨by rw [HD.out HA.out]; rfl, HB.out⟩

/-! ### impl_Farm_cap: function 61 -/
def impl_Farm_cap.f (a0_0 : Int) (l0_1 : List (S64)) (l0_2 : List (S66)) (a1 : Int) : Option (Int) := if a1 = 0 then (some a0_0) else ((impl_Farm_group.f a0_0 l0_1 l0_2 a1).bind fun bt171 => (if 0 ≤ bt171.1 then (if bt171.1 < (l0_1.length : Int) then (some ((rd_T64 l0_1 bt171.1).f2)) else (none)) else (none)))
set_option maxHeartbeats 8000000 in
set_option maxRecDepth 100000 in
theorem impl_Farm_cap.calls (a0_0 : Int) (A0_1 : Option Addr) (c0_1 : Nat) (l0_1 : List (S64)) (A0_2 : Option Addr) (c0_2 : Nat) (l0_2 : List (S66)) (a1 : Int) (r : Int) (w : World) (hr0_1 : Kd.C k64 w A0_1 l0_1.length l0_1) (hc0_1 : l0_1.length ≤ c0_1) (hr0_2 : Kd.C k66 w A0_2 l0_2.length l0_2) (hc0_2 : l0_2.length ≤ c0_2) (h : impl_Farm_cap.f a0_0 l0_1 l0_2 a1 = some r) :
    Calls Try.prog 61 #[.agg #[.int .i64 a0_0, .slice A0_1 l0_1.length c0_1, .slice A0_2 l0_2.length c0_2], .int .i64 a1] w fun e w' => e = .returned (.int .i64 r) ∧ Below w.heap.size w w' := by
  have hu31 := Try.underlying31
  have HR0_1 := Aside0.mk hr0_1
  have HC0_1 := Aside0.mk hc0_1
  clear hr0_1 hc0_1
  have HR0_2 := Aside0.mk hr0_2
  have HC0_2 := Aside0.mk hc0_2
  clear hr0_2 hc0_2
  have HB := Aside0.mk (Below.refl w.heap.size w)
  have H : (if a1 = 0 then (some a0_0) else ((impl_Farm_group.f a0_0 l0_1 l0_2 a1).bind fun bt171 => (if 0 ≤ bt171.1 then (if bt171.1 < (l0_1.length : Int) then (some ((rd_T64 l0_1 bt171.1).f2)) else (none)) else (none)))) = some r := h
  clear h
  by_cases c3 : a1 = 0
  · rw [if_pos c3] at H
    have c3b0 : (a1 == 0) = true := beq_iff_eq.mpr c3
    have c3b1 : (a1 != 0) = false := bne_eq_false_iff_eq.mpr c3
    clear c3
    obtain rfl := Option.some.inj H
    go_enter Try.func61, Try.ntmps61
    go_wp2_with (first | ((with_reducible refine gate_dst (N := 2) rfl ?_); refine box_event ?hg (N := 2) ?hd (cs := #[.int .i64 a0_0, .slice A0_1 l0_1.length c0_1, .slice A0_2 l0_2.length c0_2]) (t := 31) ?hr ?_; (case hd => rfl); (case hg => rfl); (case hr => first | (go_simp; done) | (go_simp; rfl)); intro gb170 hg w4 hbox hb; have n0_ := Aside0.mk (below_step (by repeat (first | (with_reducible first | exact HB.out | apply below_alloc | apply pw_below_drewN | apply below_drew1) | exact HB.out)) hb); have n1_ := Aside0.mk (hbox); have n2_ := Aside0.mk ((by rw [hg]; exact (below_size (by repeat (first | (with_reducible first | exact HB.out | apply below_alloc | apply pw_below_drewN | apply below_drew1) | exact HB.out))) : w.heap.size ≤ gb170)); have n3_ := Aside0.mk ((by rw [hg]; exact (below_size (by repeat (first | (with_reducible first | exact HB.out | apply below_alloc | apply pw_below_drewN | apply below_drew1) | exact HB.out))) : w.heap.size ≤ gb170)); clear HB; have HB := n0_; have BK170 := n1_; have GW170 := n2_; have GE170 := n3_; clear n0_ n1_ n2_ n3_; clear hb hbox hg; have hcz5_0 : w4.cell? ⟨gb170, 0, none⟩ = some (.int .i64 a0_0) := (blk_cell BK170.out 0).trans rfl; have hcz5_1 : w4.cell? ⟨gb170, 1, none⟩ = some (.slice A0_1 l0_1.length c0_1) := (blk_cell BK170.out 1).trans rfl; have hcz5_2 : w4.cell? ⟨gb170, 2, none⟩ = some (.slice A0_2 l0_2.length c0_2) := (blk_cell BK170.out 2).trans rfl; have hfz5_0 := blk_frozen BK170.out 0; have hfz5_1 := blk_frozen BK170.out 1; have hfz5_2 := blk_frozen BK170.out 2))
    go_ret
    exact ⟨by first | rfl | (simp [errW_none, errW_some] <;> rfl) | (simp [*, errW_none, errW_some] <;> rfl), by repeat (first | (with_reducible first | exact HB.out | apply below_alloc | apply pw_below_drewN | apply below_drew1 | refine below_set ?_ GE170.out) | exact HB.out)⟩
  · rw [if_neg c3] at H
    have c3b0 : (a1 == 0) = false := beq_eq_false_iff_ne.mpr c3
    have c3b1 : (a1 != 0) = true := bne_iff_ne.mpr c3
    replace H := Option.bind_eq_some_iff.mp H
    obtain ⟨⟨t171, t172⟩, A60, H⟩ := H
    replace H : (if 0 ≤ t171 then (if t171 < (l0_1.length : Int) then (some ((rd_T64 l0_1 t171).f2)) else (none)) else (none)) = some r := H
    have A6 := Aside0.mk A60
    clear A60
    by_cases c7 : 0 ≤ t171
    · rw [if_pos c7] at H
      have c7b0 : decide (0 ≤ t171) = true := decide_eq_true c7
      clear c7
      by_cases c8 : t171 < (l0_1.length : Int)
      · rw [if_pos c8] at H
        have c8b0 : decide (t171 < (l0_1.length : Int)) = true := decide_eq_true c8
        clear c8
        obtain rfl := Option.some.inj H
        go_enter Try.func61, Try.ntmps61
        go_wp2_with (first | ((with_reducible refine gate_dst (N := 2) rfl ?_); refine box_event ?hg (N := 2) ?hd (cs := #[.int .i64 a0_0, .slice A0_1 l0_1.length c0_1, .slice A0_2 l0_2.length c0_2]) (t := 31) ?hr ?_; (case hd => rfl); (case hg => rfl); (case hr => first | (go_simp; done) | (go_simp; rfl)); intro gb170 hg w9 hbox hb; have n0_ := Aside0.mk (below_step (by repeat (first | (with_reducible first | exact HB.out | apply below_alloc | apply pw_below_drewN | apply below_drew1) | exact HB.out)) hb); have n1_ := Aside0.mk (hbox); have n2_ := Aside0.mk ((by rw [hg]; exact (below_size (by repeat (first | (with_reducible first | exact HB.out | apply below_alloc | apply pw_below_drewN | apply below_drew1) | exact HB.out))) : w.heap.size ≤ gb170)); have n3_ := Aside0.mk ((by rw [hg]; exact (below_size (by repeat (first | (with_reducible first | exact HB.out | apply below_alloc | apply pw_below_drewN | apply below_drew1) | exact HB.out))) : w.heap.size ≤ gb170)); clear HB; have HB := n0_; have BK170 := n1_; have GW170 := n2_; have GE170 := n3_; clear n0_ n1_ n2_ n3_; clear hb hbox hg; have hcz10_0 : w9.cell? ⟨gb170, 0, none⟩ = some (.int .i64 a0_0) := (blk_cell BK170.out 0).trans rfl; have hcz10_1 : w9.cell? ⟨gb170, 1, none⟩ = some (.slice A0_1 l0_1.length c0_1) := (blk_cell BK170.out 1).trans rfl; have hcz10_2 : w9.cell? ⟨gb170, 2, none⟩ = some (.slice A0_2 l0_2.length c0_2) := (blk_cell BK170.out 2).trans rfl; have hfz10_0 := blk_frozen BK170.out 0; have hfz10_1 := blk_frozen BK170.out 1; have hfz10_2 := blk_frozen BK170.out 2) | ((with_reducible refine gate_callee (f := 60) rfl ?_); refine goesL_ (some 14) rfl rfl Try.func60 (by kernel_rfl) rfl #[.agg #[.int .i64 a0_0, .slice A0_1 l0_1.length c0_1, .slice A0_2 l0_2.length c0_2], .int .i64 a1] rfl (by (try simp only [List.map_toArray, List.map_cons, List.map_nil]); first | done | rfl | (simp only [List.length_drop, List.length_take]; rfl)) ?_; (with_reducible refine (impl_Farm_group.calls a0_0 _ _ l0_1 _ _ l0_2 a1 t171 t172 _ ?side1 ?side2 ?side3 ?side4 A6.out).mono ?_); (case side1 => repeat (first | exact (Kd.C_below HR0_1.out HB.out) | (with_reducible refine Kd.C_alloc ?_ _) | (with_reducible refine Kd.C_drewN ?_ _) | (with_reducible refine Kd.C_drew ?_))); (case side2 => exact HC0_1.out); (case side3 => repeat (first | exact (Kd.C_below HR0_2.out HB.out) | (with_reducible refine Kd.C_alloc ?_ _) | (with_reducible refine Kd.C_drewN ?_ _) | (with_reducible refine Kd.C_drew ?_))); (case side4 => exact HC0_2.out); rintro e w11 ⟨rfl, hb⟩; refine ⟨_, rfl, ?_⟩; have n0_ := Aside0.mk (blk_below (g := gb170) (o := .cells #[.int .i64 a0_0, .slice A0_1 l0_1.length c0_1, .slice A0_2 l0_2.length c0_2] 31 (0, 0)) (by (with_reducible repeat (first | refine blk_drewN ?_ _ | refine blk_drew ?_ | refine blk_alloc ?_ _)); exact BK170.out) hb); have n1_ := Aside0.mk (below_step (by repeat (first | (with_reducible first | exact HB.out | apply below_alloc | apply pw_below_drewN | apply below_drew1 | refine below_set ?_ GE170.out) | exact HB.out)) hb); clear BK170; clear HB; have BK170 := n0_; have HB := n1_; clear n0_ n1_; (try clear hb); (try clear hb2); (try clear hk); (try clear hi); have hcz12_0 : w11.cell? ⟨gb170, 0, none⟩ = some (.int .i64 a0_0) := (blk_cell BK170.out 0).trans rfl; have hcz12_1 : w11.cell? ⟨gb170, 1, none⟩ = some (.slice A0_1 l0_1.length c0_1) := (blk_cell BK170.out 1).trans rfl; have hcz12_2 : w11.cell? ⟨gb170, 2, none⟩ = some (.slice A0_2 l0_2.length c0_2) := (blk_cell BK170.out 2).trans rfl; have hfz12_0 := blk_frozen BK170.out 0; have hfz12_1 := blk_frozen BK170.out 1; have hfz12_2 := blk_frozen BK170.out 2; have p173 : 0 ≤ (t171 : Int) := of_decide_eq_true (by first | (with_reducible assumption) | assumption); have q173 : t171 < (l0_1.length : Int) := of_decide_eq_true (by first | (with_reducible assumption) | assumption); obtain ⟨ad173, e173, hx173_0, hx173_1, hx173_2, hx173_3⟩ := at_T64 HR0_1.out t171 p173 q173; cases e173; replace hx173_0 := (HB.out.cell (World.block_lt_of_cell? w _ hx173_0)).trans hx173_0; replace hx173_1 := (HB.out.cell (World.block_lt_of_cell? w _ hx173_1)).trans hx173_1; replace hx173_2 := (HB.out.cell (World.block_lt_of_cell? w _ hx173_2)).trans hx173_2; replace hx173_3 := (HB.out.cell (World.block_lt_of_cell? w _ hx173_3)).trans hx173_3; replace p173 := eq_true p173; replace q173 := eq_true q173))
        go_ret
        exact ⟨by first | rfl | (simp [errW_none, errW_some] <;> rfl) | (simp [*, errW_none, errW_some] <;> rfl), by repeat (first | (with_reducible first | exact HB.out | apply below_alloc | apply pw_below_drewN | apply below_drew1 | refine below_set ?_ GE170.out) | exact HB.out)⟩
      · rw [if_neg c8] at H
        exact absurd H (by simp)
    · rw [if_neg c7] at H
      exact absurd H (by simp)

end Go.Proofs.Ytcdmhjnofdoobaa.PFnExactFarmWant
