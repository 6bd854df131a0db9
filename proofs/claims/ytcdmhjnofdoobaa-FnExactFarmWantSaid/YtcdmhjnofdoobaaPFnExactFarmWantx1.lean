/- Functions of the program and of the reference, each with its walk: written by a program of this session out of the translation. -/
import Derived.Test.YtcdmhjnofdoobaaPFnExactFarmWantx0
namespace Go.Proofs.Ytcdmhjnofdoobaa.PFnExactFarmWant
open Go.RowKit Go.Proofs.YtcdmhjnofdoobaaW.PrintWords Go.Proofs.YtcdmhjnofdoobaaW.PrintLast Go.Proofs.YtcdmhjnofdoobaaW.PrintMore
attribute [local go_sem] max2_int min2_int max_two min_two max_three min_three max_four min_four   -- for this text's walks alone
set_option linter.unusedVariables false
set_option linter.unusedSimpArgs false

/-! ### laws_szGroupS: function 23 -/
def laws_szGroupS.f (l0 : List (S86)) (a1 : Int) : Option (Int) := if (wrap64 (a1 - (l0.length : Int))) < 0 then (some (-1)) else (some (wrap64 (a1 - (l0.length : Int))))
set_option maxHeartbeats 8000000 in
set_option maxRecDepth 100000 in
theorem laws_szGroupS.calls (A0 : Option Addr) (c0 : Nat) (l0 : List (S86)) (a1 : Int) (r : Int) (w : World) (hr0 : Kd.C k86 w A0 l0.length l0) (hc0 : l0.length ≤ c0) (h : laws_szGroupS.f l0 a1 = some r) :
    Calls Try.prog 23 #[.slice A0 l0.length c0, .int .i64 a1] w fun e w' => e = .returned (.int .i64 r) ∧ Drawn0 w w' := by
  have HR0 := Aside0.mk hr0
  have HC0 := Aside0.mk hc0
  clear hr0 hc0
  have H : (if (wrap64 (a1 - (l0.length : Int))) < 0 then (some (-1)) else (some (wrap64 (a1 - (l0.length : Int))))) = some r := h
  clear h
  by_cases c3 : (wrap64 (a1 - (l0.length : Int))) < 0
  · rw [if_pos c3] at H
    have c3b0 : decide ((wrap64 (a1 - (l0.length : Int))) < 0) = true := decide_eq_true c3
    clear c3
    obtain rfl := Option.some.inj H
    go_enter Try.func23, Try.ntmps23
    go_wp2
    go_ret
    exact ⟨by first | rfl | (simp; done) | (simp [*]; done), by repeat (first | exact Drawn0.refl _ | apply Drawn0.step)⟩
  · rw [if_neg c3] at H
    have c3b0 : decide ((wrap64 (a1 - (l0.length : Int))) < 0) = false := decide_eq_false c3
    clear c3
    obtain rfl := Option.some.inj H
    go_enter Try.func23, Try.ntmps23
    go_wp2
    go_ret
    exact ⟨by first | rfl | (simp; done) | (simp [*]; done), by repeat (first | exact Drawn0.refl _ | apply Drawn0.step)⟩

/-! ### laws_szMemberS: function 24 -/
def laws_szMemberS.f (l0 : List (S88)) (a1 : Int) : Option (Int) := if (wrap64 (a1 - (l0.length : Int))) < 0 then (some (-1)) else (some (wrap64 (a1 - (l0.length : Int))))
set_option maxHeartbeats 8000000 in
set_option maxRecDepth 100000 in
theorem laws_szMemberS.calls (A0 : Option Addr) (c0 : Nat) (l0 : List (S88)) (a1 : Int) (r : Int) (w : World) (hr0 : Kd.C k88 w A0 l0.length l0) (hc0 : l0.length ≤ c0) (h : laws_szMemberS.f l0 a1 = some r) :
    Calls Try.prog 24 #[.slice A0 l0.length c0, .int .i64 a1] w fun e w' => e = .returned (.int .i64 r) ∧ Drawn0 w w' := by
  have HR0 := Aside0.mk hr0
  have HC0 := Aside0.mk hc0
  clear hr0 hc0
  have H : (if (wrap64 (a1 - (l0.length : Int))) < 0 then (some (-1)) else (some (wrap64 (a1 - (l0.length : Int))))) = some r := h
  clear h
  by_cases c3 : (wrap64 (a1 - (l0.length : Int))) < 0
  · rw [if_pos c3] at H
    have c3b0 : decide ((wrap64 (a1 - (l0.length : Int))) < 0) = true := decide_eq_true c3
    clear c3
    obtain rfl := Option.some.inj H
    go_enter Try.func24, Try.ntmps24
    go_wp2
    go_ret
    exact ⟨by first | rfl | (simp; done) | (simp [*]; done), by repeat (first | exact Drawn0.refl _ | apply Drawn0.step)⟩
  · rw [if_neg c3] at H
    have c3b0 : decide ((wrap64 (a1 - (l0.length : Int))) < 0) = false := decide_eq_false c3
    clear c3
    obtain rfl := Option.some.inj H
    go_enter Try.func24, Try.ntmps24
    go_wp2
    go_ret
    exact ⟨by first | rfl | (simp; done) | (simp [*]; done), by repeat (first | exact Drawn0.refl _ | apply Drawn0.step)⟩

/-! ### laws_szFarm: function 7 -/
def laws_szFarm.f (a0_0 : Int) (l0_1 : List (S86)) (l0_2 : List (S88)) (a1 : Int) : Option (Int) := (laws_szGroupS.f l0_1 a1).bind fun t102 => (if t102 < 0 then (some (-1)) else ((laws_szMemberS.f l0_2 t102).bind fun t103 => (if t103 < 0 then (some (-1)) else (some t103))))
set_option maxHeartbeats 8000000 in
set_option maxRecDepth 100000 in
theorem laws_szFarm.calls (a0_0 : Int) (A0_1 : Option Addr) (c0_1 : Nat) (l0_1 : List (S86)) (A0_2 : Option Addr) (c0_2 : Nat) (l0_2 : List (S88)) (a1 : Int) (r : Int) (w : World) (hr0_1 : Kd.C k86 w A0_1 l0_1.length l0_1) (hc0_1 : l0_1.length ≤ c0_1) (hr0_2 : Kd.C k88 w A0_2 l0_2.length l0_2) (hc0_2 : l0_2.length ≤ c0_2) (h : laws_szFarm.f a0_0 l0_1 l0_2 a1 = some r) :
    Calls Try.prog 7 #[.agg #[.int .i64 a0_0, .slice A0_1 l0_1.length c0_1, .slice A0_2 l0_2.length c0_2], .int .i64 a1] w fun e w' => e = .returned (.int .i64 r) ∧ Below w.heap.size w w' := by
  have hu25 := Try.underlying25
  have HR0_1 := Aside0.mk hr0_1
  have HC0_1 := Aside0.mk hc0_1
  clear hr0_1 hc0_1
  have HR0_2 := Aside0.mk hr0_2
  have HC0_2 := Aside0.mk hc0_2
  clear hr0_2 hc0_2
  have HB := Aside0.mk (Below.refl w.heap.size w)
  have H : ((laws_szGroupS.f l0_1 a1).bind fun t102 => (if t102 < 0 then (some (-1)) else ((laws_szMemberS.f l0_2 t102).bind fun t103 => (if t103 < 0 then (some (-1)) else (some t103))))) = some r := h
  clear h
  replace H := Option.bind_eq_some_iff.mp H
  obtain ⟨t102, A30, H⟩ := H
  replace H : (if t102 < 0 then (some (-1)) else ((laws_szMemberS.f l0_2 t102).bind fun t103 => (if t103 < 0 then (some (-1)) else (some t103)))) = some r := H
  have A3 := Aside0.mk A30
  clear A30
  by_cases c4 : t102 < 0
  · rw [if_pos c4] at H
    have c4b0 : decide (t102 < 0) = true := decide_eq_true c4
    clear c4
    obtain rfl := Option.some.inj H
    go_enter Try.func7, Try.ntmps7
    go_wp2_with (first | ((with_reducible refine gate_dst (N := 2) rfl ?_); refine box_event ?hg (N := 2) ?hd (cs := #[.int .i64 a0_0, .slice A0_1 l0_1.length c0_1, .slice A0_2 l0_2.length c0_2]) (t := 25) ?hr ?_; (case hd => rfl); (case hg => rfl); (case hr => first | (go_simp; done) | (go_simp; rfl)); intro gb101 hg w5 hbox hb; have n0_ := Aside0.mk (below_step (by repeat (first | (with_reducible first | exact HB.out | apply below_alloc | apply pw_below_drewN | apply below_drew1) | exact HB.out)) hb); have n1_ := Aside0.mk (hbox); have n2_ := Aside0.mk ((by rw [hg]; exact (below_size (by repeat (first | (with_reducible first | exact HB.out | apply below_alloc | apply pw_below_drewN | apply below_drew1) | exact HB.out))) : w.heap.size ≤ gb101)); have n3_ := Aside0.mk ((by rw [hg]; exact (below_size (by repeat (first | (with_reducible first | exact HB.out | apply below_alloc | apply pw_below_drewN | apply below_drew1) | exact HB.out))) : w.heap.size ≤ gb101)); clear HB; have HB := n0_; have BK101 := n1_; have GW101 := n2_; have GE101 := n3_; clear n0_ n1_ n2_ n3_; clear hb hbox hg; have hcz6_0 : w5.cell? ⟨gb101, 0, none⟩ = some (.int .i64 a0_0) := (blk_cell BK101.out 0).trans rfl; have hcz6_1 : w5.cell? ⟨gb101, 1, none⟩ = some (.slice A0_1 l0_1.length c0_1) := (blk_cell BK101.out 1).trans rfl; have hcz6_2 : w5.cell? ⟨gb101, 2, none⟩ = some (.slice A0_2 l0_2.length c0_2) := (blk_cell BK101.out 2).trans rfl; have hfz6_0 := blk_frozen BK101.out 0; have hfz6_1 := blk_frozen BK101.out 1; have hfz6_2 := blk_frozen BK101.out 2) | ((with_reducible refine gate_callee (f := 23) rfl ?_); refine goesL_ (some 8) rfl rfl Try.func23 (by kernel_rfl) rfl #[.slice A0_1 l0_1.length c0_1, .int .i64 a1] rfl (by (try simp only [List.map_toArray, List.map_cons, List.map_nil]); first | done | rfl | (simp only [List.length_drop, List.length_take]; rfl)) ?_; (with_reducible refine (laws_szGroupS.calls _ _ l0_1 a1 t102 _ ?side1 ?side2 A3.out).mono ?_); (case side1 => repeat (first | exact (Kd.C_below HR0_1.out HB.out) | (with_reducible refine Kd.C_alloc ?_ _) | (with_reducible refine Kd.C_drewN ?_ _) | (with_reducible refine Kd.C_drew ?_))); (case side2 => exact HC0_1.out); rintro e w' ⟨rfl, ⟨nd, rfl⟩⟩; refine ⟨_, rfl, ?_⟩))
    go_ret
    exact ⟨by first | rfl | (simp [errW_none, errW_some] <;> rfl) | (simp [*, errW_none, errW_some] <;> rfl), by repeat (first | (with_reducible first | exact HB.out | apply below_alloc | apply pw_below_drewN | apply below_drew1 | refine below_set ?_ GE101.out) | exact HB.out)⟩
  · rw [if_neg c4] at H
    have c4b0 : decide (t102 < 0) = false := decide_eq_false c4
    clear c4
    replace H := Option.bind_eq_some_iff.mp H
    obtain ⟨t103, A70, H⟩ := H
    replace H : (if t103 < 0 then (some (-1)) else (some t103)) = some r := H
    have A7 := Aside0.mk A70
    clear A70
    by_cases c8 : t103 < 0
    · rw [if_pos c8] at H
      have c8b0 : decide (t103 < 0) = true := decide_eq_true c8
      clear c8
      obtain rfl := Option.some.inj H
      go_enter Try.func7, Try.ntmps7
      go_wp2_with (first | ((with_reducible refine gate_dst (N := 2) rfl ?_); refine box_event ?hg (N := 2) ?hd (cs := #[.int .i64 a0_0, .slice A0_1 l0_1.length c0_1, .slice A0_2 l0_2.length c0_2]) (t := 25) ?hr ?_; (case hd => rfl); (case hg => rfl); (case hr => first | (go_simp; done) | (go_simp; rfl)); intro gb101 hg w9 hbox hb; have n0_ := Aside0.mk (below_step (by repeat (first | (with_reducible first | exact HB.out | apply below_alloc | apply pw_below_drewN | apply below_drew1) | exact HB.out)) hb); have n1_ := Aside0.mk (hbox); have n2_ := Aside0.mk ((by rw [hg]; exact (below_size (by repeat (first | (with_reducible first | exact HB.out | apply below_alloc | apply pw_below_drewN | apply below_drew1) | exact HB.out))) : w.heap.size ≤ gb101)); have n3_ := Aside0.mk ((by rw [hg]; exact (below_size (by repeat (first | (with_reducible first | exact HB.out | apply below_alloc | apply pw_below_drewN | apply below_drew1) | exact HB.out))) : w.heap.size ≤ gb101)); clear HB; have HB := n0_; have BK101 := n1_; have GW101 := n2_; have GE101 := n3_; clear n0_ n1_ n2_ n3_; clear hb hbox hg; have hcz10_0 : w9.cell? ⟨gb101, 0, none⟩ = some (.int .i64 a0_0) := (blk_cell BK101.out 0).trans rfl; have hcz10_1 : w9.cell? ⟨gb101, 1, none⟩ = some (.slice A0_1 l0_1.length c0_1) := (blk_cell BK101.out 1).trans rfl; have hcz10_2 : w9.cell? ⟨gb101, 2, none⟩ = some (.slice A0_2 l0_2.length c0_2) := (blk_cell BK101.out 2).trans rfl; have hfz10_0 := blk_frozen BK101.out 0; have hfz10_1 := blk_frozen BK101.out 1; have hfz10_2 := blk_frozen BK101.out 2) | ((with_reducible refine gate_callee (f := 23) rfl ?_); refine goesL_ (some 8) rfl rfl Try.func23 (by kernel_rfl) rfl #[.slice A0_1 l0_1.length c0_1, .int .i64 a1] rfl (by (try simp only [List.map_toArray, List.map_cons, List.map_nil]); first | done | rfl | (simp only [List.length_drop, List.length_take]; rfl)) ?_; (with_reducible refine (laws_szGroupS.calls _ _ l0_1 a1 t102 _ ?side1 ?side2 A3.out).mono ?_); (case side1 => repeat (first | exact (Kd.C_below HR0_1.out HB.out) | (with_reducible refine Kd.C_alloc ?_ _) | (with_reducible refine Kd.C_drewN ?_ _) | (with_reducible refine Kd.C_drew ?_))); (case side2 => exact HC0_1.out); rintro e w' ⟨rfl, ⟨nd, rfl⟩⟩; refine ⟨_, rfl, ?_⟩) | ((with_reducible refine gate_callee (f := 24) rfl ?_); refine goesL_ (some 14) rfl rfl Try.func24 (by kernel_rfl) rfl #[.slice A0_2 l0_2.length c0_2, .int .i64 t102] rfl (by (try simp only [List.map_toArray, List.map_cons, List.map_nil]); first | done | rfl | (simp only [List.length_drop, List.length_take]; rfl)) ?_; (with_reducible refine (laws_szMemberS.calls _ _ l0_2 t102 t103 _ ?side1 ?side2 A7.out).mono ?_); (case side1 => repeat (first | exact (Kd.C_below HR0_2.out (by repeat (first | (with_reducible first | exact HB.out | apply below_alloc | apply pw_below_drewN | apply below_drew1 | refine below_set ?_ GE101.out) | exact HB.out))) | (with_reducible refine Kd.C_alloc ?_ _) | (with_reducible refine Kd.C_drewN ?_ _) | (with_reducible refine Kd.C_drew ?_))); (case side2 => exact HC0_2.out); rintro e w' ⟨rfl, ⟨nd, rfl⟩⟩; refine ⟨_, rfl, ?_⟩))
      go_ret
      exact ⟨by first | rfl | (simp [errW_none, errW_some] <;> rfl) | (simp [*, errW_none, errW_some] <;> rfl), by repeat (first | (with_reducible first | exact HB.out | apply below_alloc | apply pw_below_drewN | apply below_drew1 | refine below_set ?_ GE101.out) | exact HB.out)⟩
    · rw [if_neg c8] at H
      have c8b0 : decide (t103 < 0) = false := decide_eq_false c8
      clear c8
      obtain rfl := Option.some.inj H
      go_enter Try.func7, Try.ntmps7
      go_wp2_with (first | ((with_reducible refine gate_dst (N := 2) rfl ?_); refine box_event ?hg (N := 2) ?hd (cs := #[.int .i64 a0_0, .slice A0_1 l0_1.length c0_1, .slice A0_2 l0_2.length c0_2]) (t := 25) ?hr ?_; (case hd => rfl); (case hg => rfl); (case hr => first | (go_simp; done) | (go_simp; rfl)); intro gb101 hg w11 hbox hb; have n0_ := Aside0.mk (below_step (by repeat (first | (with_reducible first | exact HB.out | apply below_alloc | apply pw_below_drewN | apply below_drew1) | exact HB.out)) hb); have n1_ := Aside0.mk (hbox); have n2_ := Aside0.mk ((by rw [hg]; exact (below_size (by repeat (first | (with_reducible first | exact HB.out | apply below_alloc | apply pw_below_drewN | apply below_drew1) | exact HB.out))) : w.heap.size ≤ gb101)); have n3_ := Aside0.mk ((by rw [hg]; exact (below_size (by repeat (first | (with_reducible first | exact HB.out | apply below_alloc | apply pw_below_drewN | apply below_drew1) | exact HB.out))) : w.heap.size ≤ gb101)); clear HB; have HB := n0_; have BK101 := n1_; have GW101 := n2_; have GE101 := n3_; clear n0_ n1_ n2_ n3_; clear hb hbox hg; have hcz12_0 : w11.cell? ⟨gb101, 0, none⟩ = some (.int .i64 a0_0) := (blk_cell BK101.out 0).trans rfl; have hcz12_1 : w11.cell? ⟨gb101, 1, none⟩ = some (.slice A0_1 l0_1.length c0_1) := (blk_cell BK101.out 1).trans rfl; have hcz12_2 : w11.cell? ⟨gb101, 2, none⟩ = some (.slice A0_2 l0_2.length c0_2) := (blk_cell BK101.out 2).trans rfl; have hfz12_0 := blk_frozen BK101.out 0; have hfz12_1 := blk_frozen BK101.out 1; have hfz12_2 := blk_frozen BK101.out 2) | ((with_reducible refine gate_callee (f := 23) rfl ?_); refine goesL_ (some 8) rfl rfl Try.func23 (by kernel_rfl) rfl #[.slice A0_1 l0_1.length c0_1, .int .i64 a1] rfl (by (try simp only [List.map_toArray, List.map_cons, List.map_nil]); first | done | rfl | (simp only [List.length_drop, List.length_take]; rfl)) ?_; (with_reducible refine (laws_szGroupS.calls _ _ l0_1 a1 t102 _ ?side1 ?side2 A3.out).mono ?_); (case side1 => repeat (first | exact (Kd.C_below HR0_1.out HB.out) | (with_reducible refine Kd.C_alloc ?_ _) | (with_reducible refine Kd.C_drewN ?_ _) | (with_reducible refine Kd.C_drew ?_))); (case side2 => exact HC0_1.out); rintro e w' ⟨rfl, ⟨nd, rfl⟩⟩; refine ⟨_, rfl, ?_⟩) | ((with_reducible refine gate_callee (f := 24) rfl ?_); refine goesL_ (some 14) rfl rfl Try.func24 (by kernel_rfl) rfl #[.slice A0_2 l0_2.length c0_2, .int .i64 t102] rfl (by (try simp only [List.map_toArray, List.map_cons, List.map_nil]); first | done | rfl | (simp only [List.length_drop, List.length_take]; rfl)) ?_; (with_reducible refine (laws_szMemberS.calls _ _ l0_2 t102 t103 _ ?side1 ?side2 A7.out).mono ?_); (case side1 => repeat (first | exact (Kd.C_below HR0_2.out (by repeat (first | (with_reducible first | exact HB.out | apply below_alloc | apply pw_below_drewN | apply below_drew1 | refine below_set ?_ GE101.out) | exact HB.out))) | (with_reducible refine Kd.C_alloc ?_ _) | (with_reducible refine Kd.C_drewN ?_ _) | (with_reducible refine Kd.C_drew ?_))); (case side2 => exact HC0_2.out); rintro e w' ⟨rfl, ⟨nd, rfl⟩⟩; refine ⟨_, rfl, ?_⟩))
      go_ret
      exact ⟨by first | rfl | (simp [errW_none, errW_some] <;> rfl) | (simp [*, errW_none, errW_some] <;> rfl), by repeat (first | (with_reducible first | exact HB.out | apply below_alloc | apply pw_below_drewN | apply below_drew1 | refine below_set ?_ GE101.out) | exact HB.out)⟩

/-! ### spec_l05Group: function 27 -/
def spec_l05Group.l0 : Nat → Int → Int → Int → List (S64) → List (S66) → Option (Int)
  | 0, _, _, _, _, _ => none
  | k + 1, x1, x5, x105000, x105001, x105002 => if x5 < (x105001.length : Int) then (if 0 ≤ x5 then (if ((rd_T64 x105001 x5).f0) = x1 then (some x5) else (spec_l05Group.l0 k x1 (wrap64 (x5 + 1)) x105000 x105001 x105002)) else (none)) else (some (-1))
def spec_l05Group.f (k : Nat) (a0_0 : Int) (l0_1 : List (S64)) (l0_2 : List (S66)) (a1 : Int) : Option (Int) := spec_l05Group.l0 k a1 0 a0_0 l0_1 l0_2
theorem spec_l05Group.mono_l : ∀ k, (∀ y0 y1 y2 y3 y4, LeO (spec_l05Group.l0 k y0 y1 y2 y3 y4) (spec_l05Group.l0 (k + 1) y0 y1 y2 y3 y4))
  | 0 => fun _ _ _ _ _ r h => by simp [spec_l05Group.l0] at h
  | k + 1 => by
    have ih0 := spec_l05Group.mono_l k
    · intro y0 y1 y2 y3 y4
      unfold spec_l05Group.l0
      repeat' first
      | (with_reducible exact ih0 _ _ _ _ _)
      | (with_reducible exact LeO.refl _)
      | (with_reducible exact LeO.none _)
      | (with_reducible refine LeO.ite ?_ ?_)
      | (with_reducible refine LeO.bind ?_ (fun _ => ?_))
      | exact ih0 _ _ _ _ _
      | exact LeO.none _
      | refine LeO.ite ?_ ?_
      | refine LeO.bind ?_ (fun _ => ?_)
theorem spec_l05Group.mono : ∀ a0 a1 a2 a3 k, LeO (spec_l05Group.f k a0 a1 a2 a3) (spec_l05Group.f (k + 1) a0 a1 a2 a3) := by
  intro a0 a1 a2 a3 k
  have ih0 := spec_l05Group.mono_l k
  unfold spec_l05Group.f
  repeat' first
      | (with_reducible exact ih0 _ _ _ _ _)
      | (with_reducible exact LeO.refl _)
      | (with_reducible exact LeO.none _)
      | (with_reducible refine LeO.ite ?_ ?_)
      | (with_reducible refine LeO.bind ?_ (fun _ => ?_))
      | exact ih0 _ _ _ _ _
      | exact LeO.none _
      | refine LeO.ite ?_ ?_
      | refine LeO.bind ?_ (fun _ => ?_)
set_option maxHeartbeats 8000000 in
set_option maxRecDepth 100000 in
theorem spec_l05Group.calls (k : Nat) (a0_0 : Int) (A0_1 : Option Addr) (c0_1 : Nat) (l0_1 : List (S64)) (A0_2 : Option Addr) (c0_2 : Nat) (l0_2 : List (S66)) (a1 : Int) (r : Int) (w : World) (hr0_1 : Kd.C k64 w A0_1 l0_1.length l0_1) (hc0_1 : l0_1.length ≤ c0_1) (hr0_2 : Kd.C k66 w A0_2 l0_2.length l0_2) (hc0_2 : l0_2.length ≤ c0_2) (h : spec_l05Group.f k a0_0 l0_1 l0_2 a1 = some r) :
    Calls Try.prog 27 #[.agg #[.int .i64 a0_0, .slice A0_1 l0_1.length c0_1, .slice A0_2 l0_2.length c0_2], .int .i64 a1] w fun e w' => e = .returned (.int .i64 r) ∧ Below w.heap.size w w' := by
  have hu31 := Try.underlying31
  have HR0_1 := Aside0.mk hr0_1
  have HC0_1 := Aside0.mk hc0_1
  clear hr0_1 hc0_1
  have HR0_2 := Aside0.mk hr0_2
  have HC0_2 := Aside0.mk hc0_2
  clear hr0_2 hc0_2
  have HB := Aside0.mk (Below.refl w.heap.size w)
  have H : (spec_l05Group.l0 k a1 0 a0_0 l0_1 l0_2) = some r := h
  clear h
  have H' := Aside0.mk H
  clear H
  go_enter Try.func27, Try.ntmps27
  go_wp2_with (first | ((with_reducible refine gate_dst (N := 2) rfl ?_); refine box_event ?hg (N := 2) ?hd (cs := #[.int .i64 a0_0, .slice A0_1 l0_1.length c0_1, .slice A0_2 l0_2.length c0_2]) (t := 31) ?hr ?_; (case hd => rfl); (case hg => rfl); (case hr => first | (go_simp; done) | (go_simp; rfl)); intro gb104 hg w3 hbox hb; have n0_ := Aside0.mk (below_step (by repeat (first | (with_reducible first | exact HB.out | apply below_alloc | apply pw_below_drewN | apply below_drew1) | exact HB.out)) hb); have n1_ := Aside0.mk (hbox); have n2_ := Aside0.mk ((by rw [hg]; exact (below_size (by repeat (first | (with_reducible first | exact HB.out | apply below_alloc | apply pw_below_drewN | apply below_drew1) | exact HB.out))) : w.heap.size ≤ gb104)); have n3_ := Aside0.mk ((by rw [hg]; exact (below_size (by repeat (first | (with_reducible first | exact HB.out | apply below_alloc | apply pw_below_drewN | apply below_drew1) | exact HB.out))) : w.heap.size ≤ gb104)); clear HB; have HB := n0_; have BK104 := n1_; have GW104 := n2_; have GE104 := n3_; clear n0_ n1_ n2_ n3_; clear hb hbox hg))
  go_loopg [5] k (fun kq v5 w' => ∃ (x5_1 : Int), v5 = .int .i64 x5_1 ∧ Aside0 (spec_l05Group.l0 kq a1 x5_1 a0_0 l0_1 l0_2 = some r) ∧ Aside0 (kq ≤ k) ∧ Aside0 (w'.heap[gb104]? = some (.cells #[.int .i64 a0_0, (.slice A0_1 l0_1.length c0_1), (.slice A0_2 l0_2.length c0_2)] 31 (0, 0))) ∧ Aside0 (Below w.heap.size w w'))
  case atStart => exact ⟨(0), (by first | rfl | (simp; done) | (simp [*]; done)), H', ⟨Nat.le_refl _⟩, ⟨by (with_reducible repeat (first | refine blk_drewN ?_ _ | refine blk_drew ?_ | refine blk_alloc ?_ _)); exact BK104.out⟩, ⟨by repeat (first | (with_reducible first | exact HB.out | apply below_alloc | apply pw_below_drewN | apply below_drew1 | refine below_set ?_ GE104.out) | exact HB.out)⟩⟩
  case round =>
    clear H'
    try clear c2
    try clear p2
    obtain ⟨x5_1, rfl, HA, HK1, BK104, HB⟩ := hrel
    cases gk with
    | zero => exact absurd HA.out (by simp [spec_l05Group.l0])
    | succ k1 =>
      have H := HA.out
      clear HA
      simp only [spec_l05Group.l0] at H
      by_cases c4 : x5_1 < (l0_1.length : Int)
      · rw [if_pos c4] at H
        have c4b0 : decide (x5_1 < (l0_1.length : Int)) = true := decide_eq_true c4
        clear c4
        by_cases c5 : 0 ≤ x5_1
        · rw [if_pos c5] at H
          have c5b0 : decide (0 ≤ x5_1) = true := decide_eq_true c5
          clear c5
          by_cases c6 : ((rd_T64 l0_1 x5_1).f0) = a1
          · rw [if_pos c6] at H
            have c6b0 : (((rd_T64 l0_1 x5_1).f0) == a1) = true := beq_iff_eq.mpr c6
            have c6b1 : (((rd_T64 l0_1 x5_1).f0) != a1) = false := bne_eq_false_iff_eq.mpr c6
            clear c6
            obtain rfl := Option.some.inj H
            have hcz7_0 : wr.cell? ⟨gb104, 0, none⟩ = some (.int .i64 a0_0) := (blk_cell BK104.out 0).trans rfl
            have hcz7_1 : wr.cell? ⟨gb104, 1, none⟩ = some (.slice A0_1 l0_1.length c0_1) := (blk_cell BK104.out 1).trans rfl
            have hcz7_2 : wr.cell? ⟨gb104, 2, none⟩ = some (.slice A0_2 l0_2.length c0_2) := (blk_cell BK104.out 2).trans rfl
            have hfz7_0 := blk_frozen BK104.out 0
            have hfz7_1 := blk_frozen BK104.out 1
            have hfz7_2 := blk_frozen BK104.out 2
            have p105 : 0 ≤ (x5_1 : Int) := of_decide_eq_true (by first | (with_reducible assumption) | assumption)
            have q105 : x5_1 < (l0_1.length : Int) := of_decide_eq_true (by first | (with_reducible assumption) | assumption)
            obtain ⟨ad105, e105, hx105_0, hx105_1, hx105_2, hx105_3⟩ := at_T64 HR0_1.out x5_1 p105 q105
            cases e105
            replace hx105_0 := (HB.out.cell (World.block_lt_of_cell? w _ hx105_0)).trans hx105_0
            replace hx105_1 := (HB.out.cell (World.block_lt_of_cell? w _ hx105_1)).trans hx105_1
            replace hx105_2 := (HB.out.cell (World.block_lt_of_cell? w _ hx105_2)).trans hx105_2
            replace hx105_3 := (HB.out.cell (World.block_lt_of_cell? w _ hx105_3)).trans hx105_3
            replace p105 := eq_true p105
            replace q105 := eq_true q105
            go_wp2
            go_ret
            exact ⟨by first | rfl | (simp [errW_none, errW_some] <;> rfl) | (simp [*, errW_none, errW_some] <;> rfl), by repeat (first | (with_reducible first | exact HB.out | apply below_alloc | apply pw_below_drewN | apply below_drew1 | refine below_set ?_ GE104.out) | exact HB.out)⟩
          · rw [if_neg c6] at H
            have c6b0 : (((rd_T64 l0_1 x5_1).f0) == a1) = false := beq_eq_false_iff_ne.mpr c6
            have c6b1 : (((rd_T64 l0_1 x5_1).f0) != a1) = true := bne_iff_ne.mpr c6
            have H' := Aside0.mk H
            clear H
            have hcz8_0 : wr.cell? ⟨gb104, 0, none⟩ = some (.int .i64 a0_0) := (blk_cell BK104.out 0).trans rfl
            have hcz8_1 : wr.cell? ⟨gb104, 1, none⟩ = some (.slice A0_1 l0_1.length c0_1) := (blk_cell BK104.out 1).trans rfl
            have hcz8_2 : wr.cell? ⟨gb104, 2, none⟩ = some (.slice A0_2 l0_2.length c0_2) := (blk_cell BK104.out 2).trans rfl
            have hfz8_0 := blk_frozen BK104.out 0
            have hfz8_1 := blk_frozen BK104.out 1
            have hfz8_2 := blk_frozen BK104.out 2
            have p105 : 0 ≤ (x5_1 : Int) := of_decide_eq_true (by first | (with_reducible assumption) | assumption)
            have q105 : x5_1 < (l0_1.length : Int) := of_decide_eq_true (by first | (with_reducible assumption) | assumption)
            obtain ⟨ad105, e105, hx105_0, hx105_1, hx105_2, hx105_3⟩ := at_T64 HR0_1.out x5_1 p105 q105
            cases e105
            replace hx105_0 := (HB.out.cell (World.block_lt_of_cell? w _ hx105_0)).trans hx105_0
            replace hx105_1 := (HB.out.cell (World.block_lt_of_cell? w _ hx105_1)).trans hx105_1
            replace hx105_2 := (HB.out.cell (World.block_lt_of_cell? w _ hx105_2)).trans hx105_2
            replace hx105_3 := (HB.out.cell (World.block_lt_of_cell? w _ hx105_3)).trans hx105_3
            replace p105 := eq_true p105
            replace q105 := eq_true q105
            go_wp2
            go_roundg k1
            case measure => have := HK1.out; omega
            case rel => exact ⟨(wrap64 (x5_1 + 1)), (by first | rfl | (simp; done) | (simp [*]; done)), H', ⟨by have := HK1.out; omega⟩, ⟨by (with_reducible repeat (first | refine blk_drewN ?_ _ | refine blk_drew ?_ | refine blk_alloc ?_ _)); exact BK104.out⟩, ⟨by repeat (first | (with_reducible first | exact HB.out | apply below_alloc | apply pw_below_drewN | apply below_drew1 | refine below_set ?_ GE104.out) | exact HB.out)⟩⟩
        · rw [if_neg c5] at H
          exact absurd H (by simp)
      · rw [if_neg c4] at H
        have c4b0 : decide (x5_1 < (l0_1.length : Int)) = false := decide_eq_false c4
        clear c4
        obtain rfl := Option.some.inj H
        have hcz9_0 : wr.cell? ⟨gb104, 0, none⟩ = some (.int .i64 a0_0) := (blk_cell BK104.out 0).trans rfl
        have hcz9_1 : wr.cell? ⟨gb104, 1, none⟩ = some (.slice A0_1 l0_1.length c0_1) := (blk_cell BK104.out 1).trans rfl
        have hcz9_2 : wr.cell? ⟨gb104, 2, none⟩ = some (.slice A0_2 l0_2.length c0_2) := (blk_cell BK104.out 2).trans rfl
        have hfz9_0 := blk_frozen BK104.out 0
        have hfz9_1 := blk_frozen BK104.out 1
        have hfz9_2 := blk_frozen BK104.out 2
        go_wp2
        go_ret
        exact ⟨by first | rfl | (simp [errW_none, errW_some] <;> rfl) | (simp [*, errW_none, errW_some] <;> rfl), by repeat (first | (with_reducible first | exact HB.out | apply below_alloc | apply pw_below_drewN | apply below_drew1 | refine below_set ?_ GE104.out) | exact HB.out)⟩

/-! ### spec_l02Want: function 52 -/
def spec_l02Want.f (a0 : Int) : Option (Bool) := if a0 ≥ 0 then (some (decide (a0 ≤ 1125899906842624))) else (some false)
set_option maxHeartbeats 8000000 in
set_option maxRecDepth 100000 in
theorem spec_l02Want.calls (a0 : Int) (r : Bool) (w : World) (h : spec_l02Want.f a0 = some r) :
    Calls Try.prog 52 #[.int .i64 a0] w fun e w' => e = .returned (.bool r) ∧ Drawn0 w w' := by
  have H : (if a0 ≥ 0 then (some (decide (a0 ≤ 1125899906842624))) else (some false)) = some r := h
  clear h
  by_cases c2 : a0 ≥ 0
  · rw [if_pos c2] at H
    have c2b0 : decide (0 ≤ a0) = true := decide_eq_true c2
    clear c2
    obtain rfl := Option.some.inj H
    go_enter Try.func52, Try.ntmps52
    go_wp2
    go_ret
    exact ⟨by first | rfl | (simp; done) | (simp [*]; done), by repeat (first | exact Drawn0.refl _ | apply Drawn0.step)⟩
  · rw [if_neg c2] at H
    have c2b0 : decide (0 ≤ a0) = false := decide_eq_false c2
    clear c2
    obtain rfl := Option.some.inj H
    go_enter Try.func52, Try.ntmps52
    go_wp2
    go_ret
    exact ⟨by first | rfl | (simp; done) | (simp [*]; done), by repeat (first | exact Drawn0.refl _ | apply Drawn0.step)⟩

/-! ### spec_l02Id: function 53 -/
def spec_l02Id.f (a0 : Int) : Option (Bool) := if a0 ≥ 1 then (some (decide (a0 ≤ 1000000))) else (some false)
set_option maxHeartbeats 8000000 in
set_option maxRecDepth 100000 in
theorem spec_l02Id.calls (a0 : Int) (r : Bool) (w : World) (h : spec_l02Id.f a0 = some r) :
    Calls Try.prog 53 #[.int .i64 a0] w fun e w' => e = .returned (.bool r) ∧ Drawn0 w w' := by
  have H : (if a0 ≥ 1 then (some (decide (a0 ≤ 1000000))) else (some false)) = some r := h
  clear h
  by_cases c2 : a0 ≥ 1
  · rw [if_pos c2] at H
    have c2b0 : decide (1 ≤ a0) = true := decide_eq_true c2
    clear c2
    obtain rfl := Option.some.inj H
    go_enter Try.func53, Try.ntmps53
    go_wp2
    go_ret
    exact ⟨by first | rfl | (simp; done) | (simp [*]; done), by repeat (first | exact Drawn0.refl _ | apply Drawn0.step)⟩
  · rw [if_neg c2] at H
    have c2b0 : decide (1 ≤ a0) = false := decide_eq_false c2
    clear c2
    obtain rfl := Option.some.inj H
    go_enter Try.func53, Try.ntmps53
    go_wp2
    go_ret
    exact ⟨by first | rfl | (simp; done) | (simp [*]; done), by repeat (first | exact Drawn0.refl _ | apply Drawn0.step)⟩

/-! ### spec_l02Weight: function 54 -/
def spec_l02Weight.f (a0 : Int) : Option (Bool) := if a0 ≥ 1 then (some (decide (a0 ≤ 1073741824))) else (some false)
set_option maxHeartbeats 8000000 in
set_option maxRecDepth 100000 in
theorem spec_l02Weight.calls (a0 : Int) (r : Bool) (w : World) (h : spec_l02Weight.f a0 = some r) :
    Calls Try.prog 54 #[.int .i64 a0] w fun e w' => e = .returned (.bool r) ∧ Drawn0 w w' := by
  have H : (if a0 ≥ 1 then (some (decide (a0 ≤ 1073741824))) else (some false)) = some r := h
  clear h
  by_cases c2 : a0 ≥ 1
  · rw [if_pos c2] at H
    have c2b0 : decide (1 ≤ a0) = true := decide_eq_true c2
    clear c2
    obtain rfl := Option.some.inj H
    go_enter Try.func54, Try.ntmps54
    go_wp2
    go_ret
    exact ⟨by first | rfl | (simp; done) | (simp [*]; done), by repeat (first | exact Drawn0.refl _ | apply Drawn0.step)⟩
  · rw [if_neg c2] at H
    have c2b0 : decide (1 ≤ a0) = false := decide_eq_false c2
    clear c2
    obtain rfl := Option.some.inj H
    go_enter Try.func54, Try.ntmps54
    go_wp2
    go_ret
    exact ⟨by first | rfl | (simp; done) | (simp [*]; done), by repeat (first | exact Drawn0.refl _ | apply Drawn0.step)⟩

/-! ### spec_FarmRight: function 25 -/
theorem spec_l02Want.tells (x : Int) : spec_l02Want.f x = some (decide (0 ≤ x ∧ x ≤ 1125899906842624)) := by
  unfold spec_l02Want.f
  by_cases h1 : 0 ≤ x <;> simp [h1]
theorem spec_l02Id.tells (x : Int) : spec_l02Id.f x = some (decide (1 ≤ x ∧ x ≤ 1000000)) := by
  unfold spec_l02Id.f
  by_cases h1 : 1 ≤ x <;> simp [h1]
theorem spec_l02Weight.tells (x : Int) : spec_l02Weight.f x = some (decide (1 ≤ x ∧ x ≤ 1073741824)) := by
  unfold spec_l02Weight.f
  by_cases h1 : 1 ≤ x <;> simp [h1]
/-- the place of a group in the list, or -1 -/
def spec_l05Group.place (l : List S64) (u : Int) : Int := if l.any (fun g => g.f0 == u) = true then (l.findIdx (fun g => g.f0 == u) : Int) else -1
theorem spec_l05Group.tells_l (l : List S64) (c : Int) (m : List S66) (u : Int) (hl : l.length ≤ 9223372036854775807) (n : Nat) : ∀ (i k : Nat), i ≤ l.length → l.length - i = n → n < k → (∀ x ∈ l.take i, (x.f0 == u) = false) → spec_l05Group.l0 k u (i : Int) c l m = some (spec_l05Group.place l u) := by
  induction n with
  | zero =>
    intro i k h1 h2 hk ha
    obtain ⟨k, rfl⟩ : ∃ n, k = n + 1 := ⟨k - 1, by omega⟩
    simp only [spec_l05Group.l0]
    rw [if_neg (by omega)]
    unfold spec_l05Group.place
    rw [List.take_of_length_le (by omega)] at ha
    rw [if_neg]
    rw [List.any_eq_true]
    rintro ⟨x, hx, hy⟩
    rw [ha x hx] at hy
    exact absurd hy (by simp)
  | succ n ih =>
    intro i k h1 h2 hk ha
    obtain ⟨k, rfl⟩ : ∃ n, k = n + 1 := ⟨k - 1, by omega⟩
    have hlt : i < l.length := by omega
    have hx : rd_T64 l (i : Int) = l[i] := by simp [rd_T64, List.getD_eq_getElem?_getD, hlt]
    simp only [spec_l05Group.l0]
    rw [if_pos (by omega), if_pos (by omega), hx]
    by_cases h : l[i].f0 = u
    · rw [if_pos h]
      unfold spec_l05Group.place
      rw [if_pos (List.any_eq_true.2 ⟨l[i], List.getElem_mem hlt, by simp [h]⟩)]
      have : l.findIdx (fun g => g.f0 == u) = i := by
        rw [List.findIdx_eq hlt]
        refine ⟨by simp [h], fun j hj => ?_⟩
        refine ha _ ?_
        rw [List.mem_take_iff_getElem]
        exact ⟨j, by omega, rfl⟩
      rw [this]
    · rw [if_neg h, show wrap64 ((i : Int) + 1) = ((i + 1 : Nat) : Int) by unfold wrap64; omega]
      refine ih (i + 1) k (by omega) (by omega) (by omega) ?_
      rw [List.take_succ_eq_append_getElem hlt]
      intro x hx2
      rcases List.mem_append.1 hx2 with h3 | h3
      · exact ha x h3
      · rw [List.mem_singleton.1 h3]
        simpa using h
theorem spec_l05Group.tells (l : List S64) (c : Int) (m : List S66) (u : Int) (hl : l.length ≤ 9223372036854775807) (k : Nat) (hk : l.length < k) : spec_l05Group.f k c l m u = some (spec_l05Group.place l u) := by
  unfold spec_l05Group.f
  have := spec_l05Group.tells_l l c m u hl l.length 0 k (by omega) (by omega) hk (by simp)
  simpa using this
def spec_FarmRight.G (l : List S64) (i : Nat) : Prop := (1 ≤ (rd_T64 l i).f0 ∧ (rd_T64 l i).f0 ≤ 1000000) ∧ (0 < i → (rd_T64 l ((i : Int) - 1)).f0 < (rd_T64 l i).f0) ∧ ((rd_T64 l i).f1 = 0 ∨ (0 ≤ spec_l05Group.place l (rd_T64 l i).f1 ∧ (rd_T64 l i).f1 < (rd_T64 l i).f0)) ∧ (0 ≤ (rd_T64 l i).f2 ∧ (rd_T64 l i).f2 ≤ 1125899906842624) ∧ (1 ≤ (rd_T64 l i).f3 ∧ (rd_T64 l i).f3 ≤ 1073741824)
def spec_FarmRight.M (l : List S64) (m : List S66) (i : Nat) : Prop := (1 ≤ (rd_T66 m i).f0 ∧ (rd_T66 m i).f0 ≤ 1000000) ∧ (0 < i → (rd_T66 m ((i : Int) - 1)).f0 < (rd_T66 m i).f0) ∧ ((rd_T66 m i).f1 = 0 ∨ 0 ≤ spec_l05Group.place l (rd_T66 m i).f1) ∧ (0 ≤ (rd_T66 m i).f2 ∧ (rd_T66 m i).f2 ≤ 1125899906842624) ∧ (1 ≤ (rd_T66 m i).f3 ∧ (rd_T66 m i).f3 ≤ 1073741824)
instance spec_FarmRight.dec1 (l : List S64) (i : Nat) : Decidable (spec_FarmRight.G l i) := by unfold spec_FarmRight.G; infer_instance
instance spec_FarmRight.dec2 (l : List S64) (m : List S66) (i : Nat) : Decidable (spec_FarmRight.M l m i) := by unfold spec_FarmRight.M; infer_instance
def spec_FarmRight.R (c : Int) (l : List S64) (m : List S66) : Prop := (0 ≤ c ∧ c ≤ 1125899906842624) ∧ l.length ≤ 30 ∧ m.length ≤ 60 ∧ (∀ i, i < l.length → spec_FarmRight.G l i) ∧ (∀ i, i < m.length → spec_FarmRight.M l m i)
instance spec_FarmRight.dec3 (c : Int) (l : List S64) (m : List S66) : Decidable (spec_FarmRight.R c l m) := by unfold spec_FarmRight.R; infer_instance
def spec_FarmRight.f (a0_0 : Int) (l0_1 : List S64) (l0_2 : List S66) : Option Bool := some (decide (spec_FarmRight.R a0_0 l0_1 l0_2))
set_option maxHeartbeats 4000000 in
set_option maxRecDepth 100000 in
open spec_FarmRight in
theorem spec_FarmRight.calls (a0_0 : Int) (A0_1 : Option Addr) (c0_1 : Nat) (l0_1 : List (S64)) (A0_2 : Option Addr) (c0_2 : Nat) (l0_2 : List (S66)) (r : Bool) (w : World) (hr0_1 : Kd.C k64 w A0_1 l0_1.length l0_1) (hc0_1 : l0_1.length ≤ c0_1) (hr0_2 : Kd.C k66 w A0_2 l0_2.length l0_2) (hc0_2 : l0_2.length ≤ c0_2) (h : spec_FarmRight.f a0_0 l0_1 l0_2 = some r) :
    Calls Try.prog 25 #[.agg #[.int .i64 a0_0, .slice A0_1 l0_1.length c0_1, .slice A0_2 l0_2.length c0_2]] w fun e w' => e = .returned (.bool r) ∧ Below w.heap.size w w' := by
  obtain rfl := Option.some.inj h
  clear h
  have HR := Aside0.mk hr0_1
  have HS := Aside0.mk hr0_2
  clear hr0_1 hr0_2
  have HCC := Aside0.mk (And.intro hc0_1 hc0_2)
  clear hc0_1 hc0_2
  have HW := fun W x => Aside0.mk (spec_l02Want.calls x _ W (spec_l02Want.tells x))
  have HI := fun W x => Aside0.mk (spec_l02Id.calls x _ W (spec_l02Id.tells x))
  have HT := fun W x => Aside0.mk (spec_l02Weight.calls x _ W (spec_l02Weight.tells x))
  have HF := Aside0.mk (show ¬ R a0_0 l0_1 l0_2 → decide (R a0_0 l0_1 l0_2) = false from fun h => decide_eq_false h)
  have HD := Aside0.mk (show R a0_0 l0_1 l0_2 → decide (R a0_0 l0_1 l0_2) = true from fun h => decide_eq_true h)
  generalize decide (R a0_0 l0_1 l0_2) = r at HF HD
  go_enter Try.func25, Try.ntmps25
  go_wp2_with fail
  refine (HW _ _).out.mono ?_
  rintro e w1 ⟨rfl, hd⟩
  have HB := Aside0.mk (below_step (below_alloc (Below.refl w.heap.size w) _) hd.below)
  have BK := Aside0.mk (blk_below (blk_new w (.cells #[.int .i64 a0_0, .slice A0_1 l0_1.length c0_1, .slice A0_2 l0_2.length c0_2] 31)) hd.below)
  clear hd
  have e1 := blk_cell BK.out 1
  have e2 := blk_cell BK.out 2
  simp only [List.getElem?_toArray, List.getElem?_cons_zero, List.getElem?_cons_succ] at e1 e2
  go_wp2_with fail
  all_goals (try (go_ret; refine ⟨by rw [HF.out (fun h => by obtain ⟨h1, h2, h3, h4⟩ := h; omega)]; rfl, HB.out⟩))
  clear e1 e2
  have hs : l0_1.length ≤ 30 ∧ l0_2.length ≤ 60 := by omega
  have hc : 0 ≤ a0_0 ∧ a0_0 ≤ 1125899906842624 := by omega
  have HL := Aside0.mk (And.intro hc hs)
  clear hc
  have hf : (∀ i, i < l0_1.length → G l0_1 i) → (∀ i, i < l0_2.length → M l0_1 l0_2 i) → r = true := fun a b => HD.out ⟨HL.out.1, HL.out.2.1, HL.out.2.2, a, b⟩
  have HD := Aside0.mk hf
  have hf : ∀ i, i < l0_1.length → ¬ G l0_1 i → r = false := fun i hi hg => HF.out (fun h => hg (h.2.2.2.1 i hi))
  have HFG := Aside0.mk hf
  have hf : ∀ i, i < l0_2.length → ¬ M l0_1 l0_2 i → r = false := fun i hi hg => HF.out (fun h => hg (h.2.2.2.2 i hi))
  have HFM := Aside0.mk hf
  clear hf HF hs
  go_loopg [3] l0_1.length (fun gg v3 wr => ∃ k : Nat, k ≤ l0_1.length ∧ l0_1.length - k ≤ gg ∧ v3 = .int .i64 k ∧ Aside0 (wr.heap[w.heap.size]? = some (.cells #[.int .i64 a0_0, .slice A0_1 l0_1.length c0_1, .slice A0_2 l0_2.length c0_2] 31 (0, 0))) ∧ Aside0 (Below w.heap.size w wr) ∧ Aside0 (∀ i, i < k → G l0_1 i))
  case atStart => exact ⟨0, Nat.zero_le _, by omega, rfl, BK, HB, ⟨fun i hi => by omega⟩⟩
  case round =>
    obtain ⟨k, hk, hg, rfl, BK, HB, HA⟩ := hrel
    have e1 := blk_cell BK.out 1
    simp only [List.getElem?_toArray, List.getElem?_cons_zero, List.getElem?_cons_succ] at e1
    by_cases hlt : k < l0_1.length
    · have hltz : (k : Int) < (l0_1.length : Int) := by omega
      obtain ⟨ad, rfl, x0, x1, x2, x3⟩ := at_T64 (Kd.C_below HR.out HB.out) k (by omega) hltz
      simp only [Int.toNat_natCast] at x0 x1 x2 x3
      have HX := Aside0.mk (HFG.out k hlt)
      have HY := Aside0.mk HA.out
      clear HA
      go_wp2_with fail
      have hw1 : Below w.heap.size w (wr.alloc (.cells #[.int .i64 (rd_T64 l0_1 k).f0, .int .i64 (rd_T64 l0_1 k).f1, .int .i64 (rd_T64 l0_1 k).f2, .int .i64 (rd_T64 l0_1 k).f3] 64)) := below_alloc HB.out _
      have hb1 := blk_alloc BK.out (.cells #[.int .i64 (rd_T64 l0_1 k).f0, .int .i64 (rd_T64 l0_1 k).f1, .int .i64 (rd_T64 l0_1 k).f2, .int .i64 (rd_T64 l0_1 k).f3] 64)
      have hb2 := blk_new wr (.cells #[.int .i64 (rd_T64 l0_1 k).f0, .int .i64 (rd_T64 l0_1 k).f1, .int .i64 (rd_T64 l0_1 k).f2, .int .i64 (rd_T64 l0_1 k).f3] 64)
      have HP : ∀ W, Below w.heap.size w W → 0 < k → W.cell? (ad.add ((k - 1) * 4)) = some (.int .i64 (rd_T64 l0_1 ((k : Int) - 1)).f0) := fun W hb hpos => by
        obtain ⟨ad', hq, y0, _, _, _⟩ := at_T64 (Kd.C_below HR.out hb) ((k : Int) - 1) (by omega) (by omega)
        cases hq
        rw [show ((k : Int) - 1).toNat = k - 1 by omega] at y0
        exact y0
      generalize wr.alloc (.cells #[.int .i64 (rd_T64 l0_1 k).f0, .int .i64 (rd_T64 l0_1 k).f1, .int .i64 (rd_T64 l0_1 k).f2, .int .i64 (rd_T64 l0_1 k).f3] 64) = w2 at hw1 hb1 hb2
      clear x0 x1 x2 x3 e1 BK HB
      refine Go.Proofs.Ytcdmhjnofdoobaa.Kit.wp_region_on (by kernel_rfl) (by kernel_rfl) (fun T val iT hv hk => ?_)
      have HV := Aside0.mk (fun t => below_step hw1 (hv t))
      have s0 : ∀ t, (val t).cell? ⟨w.heap.size, 0, none⟩ = some (.int .i64 a0_0) := fun t => Go.Proofs.Ytcdmhjnofdoobaa.Kit.cell_on (hv t) (blk_cell hb1 0)
      have s1 : ∀ t, (val t).cell? ⟨w.heap.size, 1, none⟩ = some (.slice (some ad) l0_1.length c0_1) := fun t => Go.Proofs.Ytcdmhjnofdoobaa.Kit.cell_on (hv t) (blk_cell hb1 1)
      have s2 : ∀ t, (val t).cell? ⟨w.heap.size, 2, none⟩ = some (.slice A0_2 l0_2.length c0_2) := fun t => Go.Proofs.Ytcdmhjnofdoobaa.Kit.cell_on (hv t) (blk_cell hb1 2)
      have s3 : ∀ t, (val t).cell? ⟨wr.heap.size, 0, none⟩ = some (.int .i64 (rd_T64 l0_1 k).f0) := fun t => Go.Proofs.Ytcdmhjnofdoobaa.Kit.cell_on (hv t) (blk_cell hb2 0)
      have s4 : ∀ t, (val t).cell? ⟨wr.heap.size, 1, none⟩ = some (.int .i64 (rd_T64 l0_1 k).f1) := fun t => Go.Proofs.Ytcdmhjnofdoobaa.Kit.cell_on (hv t) (blk_cell hb2 1)
      have s5 : ∀ t, (val t).cell? ⟨wr.heap.size, 2, none⟩ = some (.int .i64 (rd_T64 l0_1 k).f2) := fun t => Go.Proofs.Ytcdmhjnofdoobaa.Kit.cell_on (hv t) (blk_cell hb2 2)
      have s6 : ∀ t, (val t).cell? ⟨wr.heap.size, 3, none⟩ = some (.int .i64 (rd_T64 l0_1 k).f3) := fun t => Go.Proofs.Ytcdmhjnofdoobaa.Kit.cell_on (hv t) (blk_cell hb2 3)
      have HBK := Aside0.mk (fun t => blk_below hb1 (hv t))
      have HK := Aside0.mk hk
      have HVV := Aside0.mk hv
      clear hw1 hb1 hb2 hv hk
      obtain ⟨q1, Q1, C1⟩ := Go.Proofs.Ytcdmhjnofdoobaa.Kit.told (spec_l02Id.tells (rd_T64 l0_1 k).f0) (spec_l02Id.calls _)
      obtain ⟨q2, Q2, C2⟩ := Go.Proofs.Ytcdmhjnofdoobaa.Kit.told (spec_l02Want.tells (rd_T64 l0_1 k).f2) (spec_l02Want.calls _)
      obtain ⟨q3, Q3, C3⟩ := Go.Proofs.Ytcdmhjnofdoobaa.Kit.told (spec_l02Weight.tells (rd_T64 l0_1 k).f3) (spec_l02Weight.calls _)
      have y := fun t (h : 0 < k) => HP (val t) (HV.out t) h
      have HL := fun W hb => Aside0.mk (spec_l05Group.calls 31 a0_0 (some ad) c0_1 l0_1 A0_2 c0_2 l0_2 (rd_T64 l0_1 k).f1 _ W (Kd.C_below HR.out hb) HCC.out.1 (Kd.C_below HS.out hb) HCC.out.2 (spec_l05Group.tells _ _ _ _ (by omega) 31 (by omega)))
      clear HP
      have hG : G l0_1 k ↔ (1 ≤ (rd_T64 l0_1 k).f0 ∧ (rd_T64 l0_1 k).f0 ≤ 1000000) ∧ (0 < k → (rd_T64 l0_1 ((k : Int) - 1)).f0 < (rd_T64 l0_1 k).f0) ∧ ((rd_T64 l0_1 k).f1 = 0 ∨ (0 ≤ spec_l05Group.place l0_1 (rd_T64 l0_1 k).f1 ∧ (rd_T64 l0_1 k).f1 < (rd_T64 l0_1 k).f0)) ∧ (0 ≤ (rd_T64 l0_1 k).f2 ∧ (rd_T64 l0_1 k).f2 ≤ 1125899906842624) ∧ (1 ≤ (rd_T64 l0_1 k).f3 ∧ (rd_T64 l0_1 k).f3 ≤ 1073741824) := Iff.rfl
      generalize (rd_T64 l0_1 k).f0 = g0 at Q1 C1 s3 hG ⊢
      generalize (rd_T64 l0_1 k).f1 = g1 at HL s4 hG ⊢
      generalize (rd_T64 l0_1 k).f2 = g2 at Q2 C2 s5 hG ⊢
      generalize (rd_T64 l0_1 k).f3 = g3 at Q3 C3 s6 hG ⊢
      generalize (rd_T64 l0_1 ((k : Int) - 1)).f0 = p0 at y hG
      generalize spec_l05Group.place l0_1 g1 = z at HL hG
      have HG := Aside0.mk hG
      clear hG
      repeat' (first
        | go_big_quiet_skip
        | (go_big_quiet_want; go_big_quiet_op; first | go_big_quiet_on | go_big_quiet_call (first
          | (go_at_call 53; exact (C1 _).out.mono (fun e w' h => ⟨h.1, HK.out _ _ h.2.below⟩))
          | (go_at_call 52; exact (C2 _).out.mono (fun e w' h => ⟨h.1, HK.out _ _ h.2.below⟩))
          | (go_at_call 54; exact (C3 _).out.mono (fun e w' h => ⟨h.1, HK.out _ _ h.2.below⟩))
          | (go_at_call 27; exact (HL _ (HV.out _)).out.mono (fun e w' h => ⟨h.1, HK.out _ _ h.2⟩))))
        | (cases q1 <;> simp only [Bool.not_true, Bool.not_false])
        | (by_cases hpos : 0 < k <;> simp only [hpos, decide_true, decide_false])
        | (by_cases hpr : g0 ≤ p0 <;> simp only [hpr, decide_true, decide_false])
        | (rcases Bool.eq_false_or_eq_true (g1 != 0) with hup | hup <;> simp only [hup])
        | (by_cases hz : z < 0 <;> simp only [hz, decide_true, decide_false])
        | (by_cases hlo : g0 ≤ g1 <;> simp only [hlo, decide_true, decide_false])
        | (cases q2 <;> simp only [Bool.not_true, Bool.not_false])
        | (cases q3 <;> simp only [Bool.not_true, Bool.not_false]))
      all_goals
        refine wpQuiet_nil ?_
        intro t
        have HB := Aside0.mk (HV.out t)
        have BK := Aside0.mk (HBK.out t)
        generalize val t = w3 at HB BK
        clear s0 s1 s2 s3 s4 s5 s6 y HL C2 C3 HV HBK HK HVV
        go_wp2_with fail
        first
        | (go_ret
           refine ⟨?_, HB.out⟩
           have h1 := Q1.out
           have h2 := Q2.out
           have h3 := Q3.out
           simp only [Bool.false_eq_true, false_iff, true_iff] at h1 h2 h3
           try simp only [bne_iff_ne, bne_eq_false_iff_eq] at hup
           rw [HX.out (fun h => by have h := HG.out.1 h; omega)]
           rfl)
        | (go_roundg (l0_1.length - (k + 1))
           case measure => omega
           case rel =>
             refine ⟨k + 1, by omega, by omega, by go_num, BK, HB, ⟨fun i hi => ?_⟩⟩
             by_cases hik : i < k
             · exact HY.out i hik
             · obtain rfl : i = k := by omega
               have h1 := Q1.out
               have h2 := Q2.out
               have h3 := Q3.out
               simp only [true_iff] at h1 h2 h3
               try simp only [bne_iff_ne, bne_eq_false_iff_eq] at hup
               exact HG.out.2 (by omega))
    · obtain rfl : k = l0_1.length := by omega
      clear HFG
      have hf := fun b => HD.out HA.out b
      have HD := Aside0.mk hf
      clear hf HA
      go_wp2_with fail
      go_loopg [5] l0_2.length (fun gg v3 wr => ∃ k : Nat, k ≤ l0_2.length ∧ l0_2.length - k ≤ gg ∧ v3 = .int .i64 k ∧ Aside0 (wr.heap[w.heap.size]? = some (.cells #[.int .i64 a0_0, .slice A0_1 l0_1.length c0_1, .slice A0_2 l0_2.length c0_2] 31 (0, 0))) ∧ Aside0 (Below w.heap.size w wr) ∧ Aside0 (∀ i, i < k → M l0_1 l0_2 i))
      case atStart => exact ⟨0, Nat.zero_le _, by omega, rfl, BK, HB, ⟨fun i hi => by omega⟩⟩
      case round =>
        clear BK HB hk hg hlt e1
        obtain ⟨k, hk, hg, rfl, BK, HB, HA⟩ := hrel
        have e1 := blk_cell BK.out 2
        simp only [List.getElem?_toArray, List.getElem?_cons_zero, List.getElem?_cons_succ] at e1
        by_cases hlt : k < l0_2.length
        · have hltz : (k : Int) < (l0_2.length : Int) := by omega
          obtain ⟨ad, rfl, x0, x1, x2, x3⟩ := at_T66 (Kd.C_below HS.out HB.out) k (by omega) hltz
          simp only [Int.toNat_natCast] at x0 x1 x2 x3
          have HX := Aside0.mk (HFM.out k hlt)
          have HY := Aside0.mk HA.out
          clear HA
          go_wp2_with fail
          have hw1 : Below w.heap.size w (wr.alloc (.cells #[.int .i64 (rd_T66 l0_2 k).f0, .int .i64 (rd_T66 l0_2 k).f1, .int .i64 (rd_T66 l0_2 k).f2, .int .i64 (rd_T66 l0_2 k).f3] 66)) := below_alloc HB.out _
          have hb1 := blk_alloc BK.out (.cells #[.int .i64 (rd_T66 l0_2 k).f0, .int .i64 (rd_T66 l0_2 k).f1, .int .i64 (rd_T66 l0_2 k).f2, .int .i64 (rd_T66 l0_2 k).f3] 66)
          have hb2 := blk_new wr (.cells #[.int .i64 (rd_T66 l0_2 k).f0, .int .i64 (rd_T66 l0_2 k).f1, .int .i64 (rd_T66 l0_2 k).f2, .int .i64 (rd_T66 l0_2 k).f3] 66)
          have HP : ∀ W, Below w.heap.size w W → 0 < k → W.cell? (ad.add ((k - 1) * 4)) = some (.int .i64 (rd_T66 l0_2 ((k : Int) - 1)).f0) := fun W hb hpos => by
            obtain ⟨ad', hq, y0, _, _, _⟩ := at_T66 (Kd.C_below HS.out hb) ((k : Int) - 1) (by omega) (by omega)
            cases hq
            rw [show ((k : Int) - 1).toNat = k - 1 by omega] at y0
            exact y0
          generalize wr.alloc (.cells #[.int .i64 (rd_T66 l0_2 k).f0, .int .i64 (rd_T66 l0_2 k).f1, .int .i64 (rd_T66 l0_2 k).f2, .int .i64 (rd_T66 l0_2 k).f3] 66) = w2 at hw1 hb1 hb2
          clear x0 x1 x2 x3 e1 BK HB
          refine Go.Proofs.Ytcdmhjnofdoobaa.Kit.wp_region_on (by kernel_rfl) (by kernel_rfl) (fun T val iT hv hk => ?_)
          have HV := Aside0.mk (fun t => below_step hw1 (hv t))
          have s0 : ∀ t, (val t).cell? ⟨w.heap.size, 0, none⟩ = some (.int .i64 a0_0) := fun t => Go.Proofs.Ytcdmhjnofdoobaa.Kit.cell_on (hv t) (blk_cell hb1 0)
          have s1 : ∀ t, (val t).cell? ⟨w.heap.size, 1, none⟩ = some (.slice A0_1 l0_1.length c0_1) := fun t => Go.Proofs.Ytcdmhjnofdoobaa.Kit.cell_on (hv t) (blk_cell hb1 1)
          have s2 : ∀ t, (val t).cell? ⟨w.heap.size, 2, none⟩ = some (.slice (some ad) l0_2.length c0_2) := fun t => Go.Proofs.Ytcdmhjnofdoobaa.Kit.cell_on (hv t) (blk_cell hb1 2)
          have s3 : ∀ t, (val t).cell? ⟨wr.heap.size, 0, none⟩ = some (.int .i64 (rd_T66 l0_2 k).f0) := fun t => Go.Proofs.Ytcdmhjnofdoobaa.Kit.cell_on (hv t) (blk_cell hb2 0)
          have s4 : ∀ t, (val t).cell? ⟨wr.heap.size, 1, none⟩ = some (.int .i64 (rd_T66 l0_2 k).f1) := fun t => Go.Proofs.Ytcdmhjnofdoobaa.Kit.cell_on (hv t) (blk_cell hb2 1)
          have s5 : ∀ t, (val t).cell? ⟨wr.heap.size, 2, none⟩ = some (.int .i64 (rd_T66 l0_2 k).f2) := fun t => Go.Proofs.Ytcdmhjnofdoobaa.Kit.cell_on (hv t) (blk_cell hb2 2)
          have s6 : ∀ t, (val t).cell? ⟨wr.heap.size, 3, none⟩ = some (.int .i64 (rd_T66 l0_2 k).f3) := fun t => Go.Proofs.Ytcdmhjnofdoobaa.Kit.cell_on (hv t) (blk_cell hb2 3)
          have HBK := Aside0.mk (fun t => blk_below hb1 (hv t))
          have HK := Aside0.mk hk
          have HVV := Aside0.mk hv
          clear hw1 hb1 hb2 hv hk
          obtain ⟨q1, Q1, C1⟩ := Go.Proofs.Ytcdmhjnofdoobaa.Kit.told (spec_l02Id.tells (rd_T66 l0_2 k).f0) (spec_l02Id.calls _)
          obtain ⟨q2, Q2, C2⟩ := Go.Proofs.Ytcdmhjnofdoobaa.Kit.told (spec_l02Want.tells (rd_T66 l0_2 k).f2) (spec_l02Want.calls _)
          obtain ⟨q3, Q3, C3⟩ := Go.Proofs.Ytcdmhjnofdoobaa.Kit.told (spec_l02Weight.tells (rd_T66 l0_2 k).f3) (spec_l02Weight.calls _)
          have y := fun t (h : 0 < k) => HP (val t) (HV.out t) h
          have HL := fun W hb => Aside0.mk (spec_l05Group.calls 31 a0_0 A0_1 c0_1 l0_1 (some ad) c0_2 l0_2 (rd_T66 l0_2 k).f1 _ W (Kd.C_below HR.out hb) HCC.out.1 (Kd.C_below HS.out hb) HCC.out.2 (spec_l05Group.tells _ _ _ _ (by omega) 31 (by omega)))
          clear HP
          have hG : M l0_1 l0_2 k ↔ (1 ≤ (rd_T66 l0_2 k).f0 ∧ (rd_T66 l0_2 k).f0 ≤ 1000000) ∧ (0 < k → (rd_T66 l0_2 ((k : Int) - 1)).f0 < (rd_T66 l0_2 k).f0) ∧ ((rd_T66 l0_2 k).f1 = 0 ∨ 0 ≤ spec_l05Group.place l0_1 (rd_T66 l0_2 k).f1) ∧ (0 ≤ (rd_T66 l0_2 k).f2 ∧ (rd_T66 l0_2 k).f2 ≤ 1125899906842624) ∧ (1 ≤ (rd_T66 l0_2 k).f3 ∧ (rd_T66 l0_2 k).f3 ≤ 1073741824) := Iff.rfl
          generalize (rd_T66 l0_2 k).f0 = g0 at Q1 C1 s3 hG ⊢
          generalize (rd_T66 l0_2 k).f1 = g1 at HL s4 hG ⊢
          generalize (rd_T66 l0_2 k).f2 = g2 at Q2 C2 s5 hG ⊢
          generalize (rd_T66 l0_2 k).f3 = g3 at Q3 C3 s6 hG ⊢
          generalize (rd_T66 l0_2 ((k : Int) - 1)).f0 = p0 at y hG
          generalize spec_l05Group.place l0_1 g1 = z at HL hG
          have HG := Aside0.mk hG
          clear hG
          repeat' (first
            | go_big_quiet_skip
            | (go_big_quiet_want; go_big_quiet_op; first | go_big_quiet_on | go_big_quiet_call (first
              | (go_at_call 53; exact (C1 _).out.mono (fun e w' h => ⟨h.1, HK.out _ _ h.2.below⟩))
              | (go_at_call 52; exact (C2 _).out.mono (fun e w' h => ⟨h.1, HK.out _ _ h.2.below⟩))
              | (go_at_call 54; exact (C3 _).out.mono (fun e w' h => ⟨h.1, HK.out _ _ h.2.below⟩))
              | (go_at_call 27; exact (HL _ (HV.out _)).out.mono (fun e w' h => ⟨h.1, HK.out _ _ h.2⟩))))
            | (cases q1 <;> simp only [Bool.not_true, Bool.not_false])
            | (by_cases hpos : 0 < k <;> simp only [hpos, decide_true, decide_false])
            | (by_cases hpr : g0 ≤ p0 <;> simp only [hpr, decide_true, decide_false])
            | (rcases Bool.eq_false_or_eq_true (g1 != 0) with hup | hup <;> simp only [hup])
            | (by_cases hz : z < 0 <;> simp only [hz, decide_true, decide_false])
            | (cases q2 <;> simp only [Bool.not_true, Bool.not_false])
            | (cases q3 <;> simp only [Bool.not_true, Bool.not_false]))
          all_goals
            refine wpQuiet_nil ?_
            intro t
            have HB := Aside0.mk (HV.out t)
            have BK := Aside0.mk (HBK.out t)
            generalize val t = w3 at HB BK
            clear s0 s1 s2 s3 s4 s5 s6 y HL C2 C3 HV HBK HK HVV
            go_wp2_with fail
            first
            | (go_ret
               refine ⟨?_, HB.out⟩
               have h1 := Q1.out
               have h2 := Q2.out
               have h3 := Q3.out
               simp only [Bool.false_eq_true, false_iff, true_iff] at h1 h2 h3
               try simp only [bne_iff_ne, bne_eq_false_iff_eq] at hup
               rw [HX.out (fun h => by have h := HG.out.1 h; omega)]
               rfl)
            | (go_roundg (l0_2.length - (k + 1))
               case measure => omega
               case rel =>
                 refine ⟨k + 1, by omega, by omega, by go_num, BK, HB, ⟨fun i hi => ?_⟩⟩
                 by_cases hik : i < k
                 · exact HY.out i hik
                 · obtain rfl : i = k := by omega
                   have h1 := Q1.out
                   have h2 := Q2.out
                   have h3 := Q3.out
                   simp only [true_iff] at h1 h2 h3
                   try simp only [bne_iff_ne, bne_eq_false_iff_eq] at hup
                   exact HG.out.2 (by omega))
        · obtain rfl : k = l0_2.length := by omega
          go_wp2_with fail
          go_ret
          exact ⟨by rw [HD.out HA.out]; rfl, HB.out⟩

/-! ### spec_l01Min: function 28 -/
def spec_l01Min.f (a0 : Int) (a1 : Int) : Option (Int) := if a0 < a1 then (some a0) else (some a1)
set_option maxHeartbeats 8000000 in
set_option maxRecDepth 100000 in
theorem spec_l01Min.calls (a0 : Int) (a1 : Int) (r : Int) (w : World) (h : spec_l01Min.f a0 a1 = some r) :
    Calls Try.prog 28 #[.int .i64 a0, .int .i64 a1] w fun e w' => e = .returned (.int .i64 r) ∧ Drawn0 w w' := by
  have H : (if a0 < a1 then (some a0) else (some a1)) = some r := h
  clear h
  by_cases c3 : a0 < a1
  · rw [if_pos c3] at H
    have c3b0 : decide (a0 < a1) = true := decide_eq_true c3
    clear c3
    obtain rfl := Option.some.inj H
    go_enter Try.func28, Try.ntmps28
    go_wp2
    go_ret
    exact ⟨by first | rfl | (simp; done) | (simp [*]; done), by repeat (first | exact Drawn0.refl _ | apply Drawn0.step)⟩
  · rw [if_neg c3] at H
    have c3b0 : decide (a0 < a1) = false := decide_eq_false c3
    clear c3
    obtain rfl := Option.some.inj H
    go_enter Try.func28, Try.ntmps28
    go_wp2
    go_ret
    exact ⟨by first | rfl | (simp; done) | (simp [*]; done), by repeat (first | exact Drawn0.refl _ | apply Drawn0.step)⟩

end Go.Proofs.Ytcdmhjnofdoobaa.PFnExactFarmWant
