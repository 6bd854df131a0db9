/- Functions of the program and of the reference, each with its walk: written by a program of this session out of the translation. -/
import Derived.Test.YtppbocpmahhciaaPFnSmoothHoldsx0
import Derived.Test.YtppbocpmahhciaaPFnSmoothHoldsx2
namespace Go.Proofs.Ytppbocpmahhciaa.PFnSmoothHolds
open Go.RowKit Go.Proofs.YtppbocpmahhciaaW.PrintWords Go.Proofs.YtppbocpmahhciaaW.PrintLast Go.Proofs.YtppbocpmahhciaaW.PrintMore
attribute [local go_sem] max2_int min2_int max_two min_two max_three min_three max_four min_four   -- for this text's walks alone
set_option linter.unusedVariables false
set_option linter.unusedSimpArgs false

/-! ### impl_SmoothRun: function 26 -/
def impl_SmoothRun.l : List Int → Int → Int → Int → Int → Int → List Int → Option (List Int)
  | [], _, _, _, _, _, out => some out
  | x :: xs, a, b, c, d, e, out => (impl_Smooth_step.f a b c d e x).bind fun s => (impl_Smooth_want.f s.1 s.2.1 s.2.2.1 s.2.2.2.1 s.2.2.2.2).bind fun v => impl_SmoothRun.l xs s.1 s.2.1 s.2.2.1 s.2.2.2.1 s.2.2.2.2 (out ++ [v])
def impl_SmoothRun.bad (x : Int) : Bool := !decide (0 ≤ x ∧ x ≤ 1125899906842624)
def impl_SmoothRun.f (a0_0 : Int) (a0_1 : Int) (a0_2 : Int) (a0_3 : Int) (a0_4 : Int) (l1 : List Int) : Option (List Int) :=
  (impl_SmoothRight.f a0_0 a0_1 a0_2 a0_3 a0_4).bind fun t => if t = true then (if l1.length ≤ 400 then (if l1.any impl_SmoothRun.bad = true then some [] else impl_SmoothRun.l l1 a0_0 a0_1 a0_2 a0_3 a0_4 []) else some []) else some []
theorem impl_isWant.tells (x : Int) : impl_isWant.f x = some (decide (0 ≤ x ∧ x ≤ 1125899906842624)) := by
  unfold impl_isWant.f impl_in.f
  by_cases h1 : 0 ≤ x <;> simp [h1]
theorem impl_SmoothRun.pred (x : Int) (W : World) : Calls Try.prog 53 #[.int .i64 x] W fun e w' => e = .returned (.bool (impl_SmoothRun.bad x)) ∧ Below W.heap.size W w' := by
  have HC := Aside0.mk (impl_isWant.calls x _ W (impl_isWant.tells x))
  have hb : impl_SmoothRun.bad x = !(decide (0 ≤ x ∧ x ≤ 1125899906842624)) := rfl
  rw [hb]
  clear hb
  generalize decide (0 ≤ x ∧ x ≤ 1125899906842624) = q at HC
  go_enter Try.func53, Try.ntmps53
  go_wp2_with (go_at_call 42; refine HC.out.mono ?_; rintro e w' ⟨rfl, hb⟩)
  go_ret
  exact ⟨rfl, hb.below⟩
open impl_SmoothRun in
set_option maxHeartbeats 8000000 in
theorem impl_SmoothRun.calls (a0_0 : Int) (a0_1 : Int) (a0_2 : Int) (a0_3 : Int) (a0_4 : Int) (A1 : Option Addr) (c1 : Nat) (l1 : List Int) (r : List Int) (w : World) (hr1 : Kd.C (Kd.int .i64) w A1 l1.length l1) (hc1 : l1.length ≤ c1) (h : impl_SmoothRun.f a0_0 a0_1 a0_2 a0_3 a0_4 l1 = some r) :
    Calls Try.prog 26 #[.agg #[.int .i64 a0_0, .int .i64 a0_1, .int .i64 a0_2, .int .i64 a0_3, .int .i64 a0_4], .slice A1 l1.length c1] w fun e w' => ∃ v0_ : Value, e = .returned (v0_) ∧ Kd.R (Kd.int .i64) 2 w' w.heap.size (fun _ => True) v0_ r ∧ Below w.heap.size w w' := by
  unfold impl_SmoothRun.f at h
  have eg : ∀ args w, (callFunc 53 args).run Try.prog w = .ok (.enter 53 args) w := Go.Proofs.enters_of Try.func53 (by kernel_rfl) rfl
  have EG := Aside0.mk eg
  clear eg
  have HR := Aside0.mk hr1
  clear hr1 hc1
  obtain ⟨t, ht, h⟩ := Option.bind_eq_some_iff.mp h
  have HT := Aside0.mk ht
  clear ht
  have nilP : Kd.R (Kd.int .i64) 2 w w.heap.size (fun _ => True) (.slice none 0 0) [] := Kd.R_nil _ _ _ _ _
  have NP := Aside0.mk nilP
  clear nilP
  cases t with
  | false =>
    simp only [Bool.false_eq_true, if_false, Option.some.injEq] at h
    subst h
    have HC := fun W => Aside0.mk (impl_SmoothRight.calls a0_0 a0_1 a0_2 a0_3 a0_4 false W HT.out)
    go_enter Try.func26, Try.ntmps26
    go_wp2_with (go_at_call 18; refine (HC _).out.mono ?_; rintro e w' ⟨rfl, hb⟩)
    go_ret
    have hb2 := below_step (below_alloc (Below.refl w.heap.size w) _) hb
    exact ⟨_, rfl, Kd.R_nil _ _ _ _ _, hb2⟩
  | true =>
    rw [if_pos rfl] at h
    have HC := fun W => Aside0.mk (impl_SmoothRight.calls a0_0 a0_1 a0_2 a0_3 a0_4 true W HT.out)
    by_cases h4 : l1.length ≤ 400
    · rw [if_pos h4] at h
      have h5 : decide (400 < (l1.length : Int)) = false := by simp; omega
      have h6 : decide (400 < l1.length) = false := by simp; omega
      have HD : ∀ W, Below w.heap.size w W → _ := fun W hb => slices_ContainsFunc_int64_int64.calls bad 53 #[] EG.out A1 c1 l1 W (fun W' x _ _ => pred x W') (Kd.C_below HR.out hb)
      cases hq : l1.any bad with
      | true =>
        rw [if_pos hq] at h
        simp only [Option.some.injEq] at h
        subst h
        rw [hq] at HD
        have HD := Aside0.mk HD
        clear hq
        go_enter Try.func26, Try.ntmps26
        go_wp2_with fail
        refine (HC _).out.mono ?_
        rintro e w1 ⟨rfl, hb⟩
        have hb2 := below_step (below_alloc (Below.refl w.heap.size w) _) hb
        have HB := Aside0.mk hb2
        clear hb hb2
        go_wp2_with fail
        refine (HD.out _ HB.out).mono ?_
        rintro e w2 ⟨rfl, hb⟩
        have HB2 := Aside0.mk (below_step HB.out hb)
        clear hb
        go_wp2
        go_ret
        exact ⟨_, rfl, Kd.R_nil _ _ _ _ _, HB2.out⟩
      | false =>
        rw [if_neg (by rw [hq]; simp)] at h
        rw [hq] at HD
        have HD := Aside0.mk HD
        clear hq
        have HH := Aside0.mk h
        clear h
        have hu := Try.underlying34
        go_enter Try.func26, Try.ntmps26
        go_wp2_with fail
        refine (HC _).out.mono ?_
        rintro e w1 ⟨rfl, hb⟩
        have HB := Aside0.mk (below_step (below_alloc (Below.refl w.heap.size w) _) hb)
        have BK := Aside0.mk (blk_below (blk_new w (.cells #[.int .i64 a0_0, .int .i64 a0_1, .int .i64 a0_2, .int .i64 a0_3, .int .i64 a0_4] 34)) hb)
        clear hb
        go_wp2_with fail
        refine (HD.out _ HB.out).mono ?_
        rintro e w2 ⟨rfl, hb⟩
        have HB2 := Aside0.mk (below_step HB.out hb)
        have BK2 := Aside0.mk (blk_below BK.out hb)
        clear hb HB BK HC HD
        have RO := Aside0.mk (Go.Proofs.Ytppbocpmahhciaa.Kit.R_new0 (Kd.int .i64) w2 2 HB2.out.size)
        go_wp2_with fail
        go_loopw [5, 7, 23] (fun v5 _ v23 wr => ∃ (k : Nat) (a b c d e : Int) (out : List Int), k ≤ l1.length ∧ v23 = .int .i64 k ∧ Aside0 (l (l1.drop k) a b c d e out = some r) ∧ Aside0 (Kd.R (Kd.int .i64) 2 wr w.heap.size (fun _ => True) v5 out) ∧
            Aside0 (wr.heap[w.heap.size]? = some (.cells #[.int .i64 a, .int .i64 b, .int .i64 c, .int .i64 d, .int .i64 e] 34 (0, 0))) ∧ Aside0 (Below w.heap.size w wr) ∧ Aside0 (out.length = k)) (fun _ _ i _ => l1.length - (intOf i).toNat)
        case atStart => exact ⟨0, a0_0, a0_1, a0_2, a0_3, a0_4, [], Nat.zero_le _, rfl, ⟨by simpa using HH.out⟩, RO, ⟨blk_alloc BK2.out _⟩, ⟨below_alloc HB2.out _⟩, ⟨rfl⟩⟩
        case round =>
          clear HH RO BK2 HB2
          obtain ⟨k, a, b, c, d, e, out, hk, rfl, HH, RO, BK, HB, HL⟩ := hrel
          by_cases hlt : k < l1.length
          · have hl : decide ((k : Int) < (l1.length : Int)) = true := by simpa using hlt
            obtain ⟨ad, rfl, hx⟩ := Kd.at_int (Kd.C_below HR.out HB.out) k (by omega) (by omega)
            simp only [Int.toNat_natCast] at hx
            have hd : l1.drop k = rd l1 k :: l1.drop (k + 1) := by
              rw [List.drop_eq_getElem_cons hlt]
              simp [rd, List.getD_eq_getElem?_getD, hlt]
            have h1 := HH.out
            rw [hd] at h1
            simp only [impl_SmoothRun.l] at h1
            clear HH hd
            generalize rd l1 k = x at hx h1
            obtain ⟨⟨s1, s2, s3, s4, s5⟩, hs, h1⟩ := Option.bind_eq_some_iff.mp h1
            obtain ⟨v, hv, h1⟩ := Option.bind_eq_some_iff.mp h1
            have HH := Aside0.mk h1
            have HS := fun W => Aside0.mk (impl_Smooth_step.calls a b c d e x s1 s2 s3 s4 s5 W hs)
            have HW := fun W => Aside0.mk (impl_Smooth_want.calls s1 s2 s3 s4 s5 v W hv)
            clear h1 hs hv
            have e0 := blk_cell BK.out 0
            have e1 := blk_cell BK.out 1
            have e2 := blk_cell BK.out 2
            have e3 := blk_cell BK.out 3
            have e4 := blk_cell BK.out 4
            simp only [List.getElem?_toArray, List.getElem?_cons_zero, List.getElem?_cons_succ] at e0 e1 e2 e3 e4
            go_wp2_with fail
            refine (HS _).out.mono ?_
            rintro e w3 ⟨rfl, hb⟩
            have RO3 := Aside0.mk (Kd.R_below RO.out hb)
            have BK3 := Aside0.mk (blk_below BK.out hb)
            have HB3 := Aside0.mk (below_step HB.out hb)
            clear hb e0 e1 e2 e3 e4 hx HS RO BK HB
            have e0 := blk_cell BK3.out 0
            have e1 := blk_cell BK3.out 1
            have e2 := blk_cell BK3.out 2
            have e3 := blk_cell BK3.out 3
            have e4 := blk_cell BK3.out 4
            simp only [List.getElem?_toArray, List.getElem?_cons_zero, List.getElem?_cons_succ] at e0 e1 e2 e3 e4
            have f0 := blk_frozen BK3.out 0
            have f1 := blk_frozen BK3.out 1
            have f2 := blk_frozen BK3.out 2
            have f3 := blk_frozen BK3.out 3
            have f4 := blk_frozen BK3.out 4
            go_wp2_with fail
            generalize hW : ((((w3.setCell ⟨w.heap.size, 0, none⟩ (.int .i64 s1)).setCell ⟨w.heap.size, 1, none⟩ (.int .i64 s2)).setCell ⟨w.heap.size, 2, none⟩ (.int .i64 s3)).setCell ⟨w.heap.size, 3, none⟩ (.int .i64 s4)).setCell ⟨w.heap.size, 4, none⟩ (.int .i64 s5) = w4
            have BK4 : Aside0 (w4.heap[w.heap.size]? = some (.cells #[.int .i64 s1, .int .i64 s2, .int .i64 s3, .int .i64 s4, .int .i64 s5] 34 (0, 0))) := ⟨by rw [← hW]; exact blk_put (blk_put (blk_put (blk_put (blk_put BK3.out 0 _ rfl) 1 _ rfl) 2 _ rfl) 3 _ rfl) 4 _ rfl⟩
            have HB4 : Aside0 (Below w.heap.size w w4) := ⟨by rw [← hW]; exact below_set (below_set (below_set (below_set (below_set HB3.out (Nat.le_refl _)) (Nat.le_refl _)) (Nat.le_refl _)) (Nat.le_refl _)) (Nat.le_refl _)⟩
            have RO4 : Aside0 (Kd.R (Kd.int .i64) 2 w4 w.heap.size (fun _ => True) u5 out) := ⟨Go.Proofs.Ytppbocpmahhciaa.Kit.R_keepBlk RO3.out BK3.out (by decide) (fun k _ hne => by
              rw [← hW]
              exact (Below.heap_setCell _ ⟨w.heap.size, 4, none⟩ _ k hne).trans ((Below.heap_setCell _ ⟨w.heap.size, 3, none⟩ _ k hne).trans ((Below.heap_setCell _ ⟨w.heap.size, 2, none⟩ _ k hne).trans ((Below.heap_setCell _ ⟨w.heap.size, 1, none⟩ _ k hne).trans (Below.heap_setCell _ ⟨w.heap.size, 0, none⟩ _ k hne)))))⟩
            clear hW e0 e1 e2 e3 e4 f0 f1 f2 f3 f4 RO3 BK3 HB3
            refine (HW _).out.mono ?_
            rintro e w5 ⟨rfl, hb⟩
            have RO5 := Aside0.mk (Kd.R_below RO4.out hb)
            have BK5 := Aside0.mk (blk_below BK4.out hb)
            have HB5 := Aside0.mk (below_step HB4.out hb)
            clear hb RO4 BK4 HB4 HW
            go_wp2_with (at_builtin; refine Kd.R_append (Kd.int .i64) (w0 := w) w.heap.size rfl (.tmp 30) (.tmp 33) 43 2 (.int .i64 0) 8 rfl Try.underlying43 info2 rfl (by decide) (by omega) u5 out v [.int .i64 v] (fun _ => True) (fun _ => False) rfl rfl rfl (fun _ hk => hk.elim) (fun _ _ => trivial) RO5.out HB5.out HB5.out.size (by rw [HL.out]; omega) ?_; intro v6 w6 ho6 hb6 hg6 _; have RO6 := Aside0.mk ho6; have HB6 := Aside0.mk hb6; have BK6 := Aside0.mk (blk_grown BK5.out hg6 (Kd.R_ne RO5.out BK5.out (by decide))); clear ho6 hb6 hg6)
            go_roundw
            case rel => exact ⟨k + 1, s1, s2, s3, s4, s5, out ++ [v], by omega, by go_num, HH, RO6, BK6, HB6, ⟨by rw [List.length_append, HL.out]; rfl⟩⟩
            case measure => simp [intOf]; omega
          · have hl : decide ((k : Int) < (l1.length : Int)) = false := by simpa using hlt
            obtain rfl : k = l1.length := by omega
            have h1 := HH.out
            rw [List.drop_length] at h1
            simp only [impl_SmoothRun.l, Option.some.injEq] at h1
            subst h1
            clear HH
            go_wp2
            go_ret
            exact ⟨_, rfl, RO.out, HB.out⟩
    · rw [if_neg h4] at h
      simp only [Option.some.injEq] at h
      subst h
      have h5 : decide (400 < (l1.length : Int)) = true := by simp; omega
      have h6 : decide (400 < l1.length) = true := by simp; omega
      go_enter Try.func26, Try.ntmps26
      go_wp2_with (go_at_call 18; refine (HC _).out.mono ?_; rintro e w' ⟨rfl, hb⟩)
      go_ret
      have hb2 := below_step (below_alloc (Below.refl w.heap.size w) _) hb
      exact ⟨_, rfl, Kd.R_nil _ _ _ _ _, hb2⟩

/-- A state of type 70 at block g of W; what its slices lead to came in by w0. -/
def IsS70 (w0 W : World) (g : Nat) (f0 : List Int) (f1 : Int) (f2 : Int) (f3 : Int) : Prop := ∃ A0 c0, W.heap[g]? = some (.cells #[.slice A0 f0.length c0, .int .i64 f1, .int .u64 f2, .int .i64 f3] 70 (0, 0)) ∧ w0.heap.size ≤ g ∧ Kd.C (Kd.int .u8) w0 A0 f0.length f0
theorem IsS70.grown {w0 W : World} {g : Nat} {f0 : List Int} {f1 : Int} {f2 : Int} {f3 : Int} {W1 : World} {row : Option Nat} (h : IsS70 w0 W g f0 f1 f2 f3) (hw : W.grownBy W1 row) (hne : some g ≠ row) : IsS70 w0 W1 g f0 f1 f2 f3 := by
  obtain ⟨A0, c0, hb, hg, hr0⟩ := h
  exact ⟨A0, c0, blk_grown hb hw hne, hg, hr0⟩
theorem IsS70.own_neN {w0 W : World} {g : Nat} {f0 : List Int} {f1 : Int} {f2 : Int} {f3 : Int} {α : Type} {d : Kd α} {e : Nat} {base : Nat} {ok : Nat → Prop} {v : Value} {xs : List α} (h : IsS70 w0 W g f0 f1 f2 f3) (ho : Kd.N d e W base ok v xs) (ht : e ≠ 70) : some g ≠ v.ownBlock := by
  obtain ⟨A0, c0, hb, hg, hr0⟩ := h
  exact Kd.N_ne ho hb ht
theorem IsS70.fresh {w0 W : World} {g : Nat} {f0 : List Int} {f1 : Int} {f2 : Int} {f3 : Int} (h : IsS70 w0 W g f0 f1 f2 f3) : ∀ k, W.heap.size ≤ k → k ≠ g := by
  obtain ⟨A0, c0, hb, hg, hr0⟩ := h
  exact Kd.freshB hb
theorem IsS70.kept {w0 W : World} {g : Nat} {f0 : List Int} {f1 : Int} {f2 : Int} {f3 : Int} {W1 : World} {S : Nat → Prop} (h : IsS70 w0 W g f0 f1 f2 f3) (hk : Kept W W1 S) (hne : ¬ S g) : IsS70 w0 W1 g f0 f1 f2 f3 := by
  obtain ⟨A0, c0, hb, hg, hr0⟩ := h
  exact ⟨A0, c0, blk_kept hb hk hne, hg, hr0⟩
theorem IsS70.below {w0 W : World} {g : Nat} {f0 : List Int} {f1 : Int} {f2 : Int} {f3 : Int} {W1 : World} (h : IsS70 w0 W g f0 f1 f2 f3) (hw : Below W.heap.size W W1) : IsS70 w0 W1 g f0 f1 f2 f3 := h.grown (grown_of_below hw none) (by simp)
theorem IsS70.alloc {w0 W : World} {g : Nat} {f0 : List Int} {f1 : Int} {f2 : Int} {f3 : Int} (h : IsS70 w0 W g f0 f1 f2 f3) (o : Obj) : IsS70 w0 (W.alloc o) g f0 f1 f2 f3 := h.below (below_alloc (Below.refl _ _) o)
theorem IsS70.drewN {w0 W : World} {g : Nat} {f0 : List Int} {f1 : Int} {f2 : Int} {f3 : Int} (h : IsS70 w0 W g f0 f1 f2 f3) (m : Nat) : IsS70 w0 (W.drewN m) g f0 f1 f2 f3 := h
theorem IsS70.drew {w0 W : World} {g : Nat} {f0 : List Int} {f1 : Int} {f2 : Int} {f3 : Int} (h : IsS70 w0 W g f0 f1 f2 f3) : IsS70 w0 W.drew g f0 f1 f2 f3 := h
theorem IsS70.at_ {w0 W : World} {g : Nat} {f0 : List Int} {f1 : Int} {f2 : Int} {f3 : Int} {w' : World} {m : Nat} (hq : W.drewN m = w') (h : IsS70 w0 W g f0 f1 f2 f3) : IsS70 w0 w' g f0 f1 f2 f3 := by subst hq; exact IsS70.drewN h m
theorem IsS70.apart {w0 W : World} {g : Nat} {f0 : List Int} {f1 : Int} {f2 : Int} {f3 : Int} {α : Type} {d : Kd α} {e : Nat} {base : Nat} {ok : Nat → Prop} {v : Value} {xs : List α} (h : IsS70 w0 W g f0 f1 f2 f3) (ho : d.R e W base ok v xs) (ht : ∀ q, q ∈ e :: d.E → q ≠ 70) : d.R e W base (fun k => ok k ∧ k ≠ g) v xs := by
  obtain ⟨A0, c0, hb, hg, hr0⟩ := h
  exact Kd.R_types ho hb ht
theorem IsS70.own_ne {w0 W : World} {g : Nat} {f0 : List Int} {f1 : Int} {f2 : Int} {f3 : Int} {α : Type} {d : Kd α} {e : Nat} {base : Nat} {ok : Nat → Prop} {v : Value} {xs : List α} (h : IsS70 w0 W g f0 f1 f2 f3) (ho : d.R e W base ok v xs) (ht : e ≠ 70) : some g ≠ v.ownBlock := by
  obtain ⟨A0, c0, hb, hg, hr0⟩ := h
  exact Kd.R_ne ho hb ht
theorem IsS70.apartQ {w0 W : World} {g : Nat} {f0 : List Int} {f1 : Int} {f2 : Int} {f3 : Int} {α : Type} {d : Kd α} {e : Nat} {base : Nat} {ok : Nat → Prop} {v : Value} {xs : List α} (h : IsS70 w0 W g f0 f1 f2 f3) (ho : d.Q e W base ok v xs) (ht : ∀ q, q ∈ e :: d.E → q ≠ 70) : d.Q e W base (fun k => ok k ∧ k ≠ g) v xs := by
  obtain ⟨A0, c0, hb, hg, hr0⟩ := h
  exact Kd.Q_types ho hb ht
theorem IsS70.own_neQ {w0 W : World} {g : Nat} {f0 : List Int} {f1 : Int} {f2 : Int} {f3 : Int} {α : Type} {d : Kd α} {e : Nat} {base : Nat} {ok : Nat → Prop} {v : Value} {xs : List α} (h : IsS70 w0 W g f0 f1 f2 f3) (ho : d.Q e W base ok v xs) (ht : e ≠ 70) : some g ≠ v.ownBlock := by
  obtain ⟨A0, c0, hb, hg, hr0⟩ := h
  exact Kd.Q_ne ho hb ht
theorem IsS70.apartS {w0 W : World} {g : Nat} {f0 : List Int} {f1 : Int} {f2 : Int} {f3 : Int} {α : Type} {d : Kd α} {e : Nat} {base : Nat} {ok : Nat → Prop} {v : Value} {xs : List α} (h : IsS70 w0 W g f0 f1 f2 f3) (ho : d.S e W base ok v xs) (ht : ∀ q, q ∈ e :: d.E → q ≠ 70) : d.S e W base (fun k => ok k ∧ k ≠ g) v xs := by
  obtain ⟨A0, c0, hb, hg, hr0⟩ := h
  exact Kd.S_types ho hb ht
theorem IsS70.own_neS {w0 W : World} {g : Nat} {f0 : List Int} {f1 : Int} {f2 : Int} {f3 : Int} {α : Type} {d : Kd α} {e : Nat} {base : Nat} {ok : Nat → Prop} {v : Value} {xs : List α} (h : IsS70 w0 W g f0 f1 f2 f3) (ho : d.S e W base ok v xs) (ht : e ≠ 70) : some g ≠ v.ownBlock := by
  obtain ⟨A0, c0, hb, hg, hr0⟩ := h
  exact Kd.S_ne ho hb ht
theorem IsS70.lt {w0 W : World} {g : Nat} {f0 : List Int} {f1 : Int} {f2 : Int} {f3 : Int} (h : IsS70 w0 W g f0 f1 f2 f3) : g < W.heap.size := by
  obtain ⟨A0, c0, hb, hg, hr0⟩ := h
  exact blk_lt hb
theorem IsS70.ge {w0 W : World} {g : Nat} {f0 : List Int} {f1 : Int} {f2 : Int} {f3 : Int} (h : IsS70 w0 W g f0 f1 f2 f3) : w0.heap.size ≤ g := by
  obtain ⟨A0, c0, hb, hg, hr0⟩ := h
  exact hg
theorem IsS70.ne_blk {w0 W : World} {g : Nat} {f0 : List Int} {f1 : Int} {f2 : Int} {f3 : Int} {a : Nat} {cs : Array Value} {t : TypeId} {fr : Nat × Nat} (h : IsS70 w0 W g f0 f1 f2 f3) (hb2 : W.heap[a]? = some (.cells cs t fr)) (ht : t ≠ 70) : g ≠ a := by
  obtain ⟨A0, c0, hb, hg, hr0⟩ := h
  rintro rfl
  rw [hb] at hb2
  injection hb2 with hb2
  injection hb2 with _ ht2
  exact ht ht2.symm
theorem IsS70.far {w0 W : World} {g : Nat} {f0 : List Int} {f1 : Int} {f2 : Int} {f3 : Int} {p : Addr} (h : IsS70 w0 W g f0 f1 f2 f3) (hne : g ≠ p.block) (u : Value) : IsS70 w0 (W.setCell p u) g f0 f1 f2 f3 := by
  obtain ⟨A0, c0, hb, hg, hr0⟩ := h
  exact ⟨A0, c0, blk_far hb hne u, hg, hr0⟩
theorem cellS70_0 {W : World} {g : Nat} {A0 : Option Addr} {c0 : Nat} {f0 : List Int} {f1 : Int} {f2 : Int} {f3 : Int} (h : W.heap[g]? = some (.cells #[.slice A0 f0.length c0, .int .i64 f1, .int .u64 f2, .int .i64 f3] 70 (0, 0))) : W.cell? ⟨g, 0, none⟩ = some (.slice A0 f0.length c0) := (blk_cell h 0).trans rfl
theorem cellS70_1 {W : World} {g : Nat} {A0 : Option Addr} {c0 : Nat} {f0 : List Int} {f1 : Int} {f2 : Int} {f3 : Int} (h : W.heap[g]? = some (.cells #[.slice A0 f0.length c0, .int .i64 f1, .int .u64 f2, .int .i64 f3] 70 (0, 0))) : W.cell? ⟨g, 1, none⟩ = some (.int .i64 f1) := (blk_cell h 1).trans rfl
theorem IsS70.set_1 {w0 W : World} {g : Nat} {f0 : List Int} {f1 : Int} {f2 : Int} {f3 : Int} (h : IsS70 w0 W g f0 f1 f2 f3) (x : Int) : IsS70 w0 (W.setCell ⟨g, 1, none⟩ (.int .i64 x)) g f0 x f2 f3 := by
  obtain ⟨A0, c0, hb, hg, hr0⟩ := h
  exact ⟨A0, c0, by simpa using blk_set hb 1 (.int .i64 x), hg, hr0⟩
theorem cellS70_2 {W : World} {g : Nat} {A0 : Option Addr} {c0 : Nat} {f0 : List Int} {f1 : Int} {f2 : Int} {f3 : Int} (h : W.heap[g]? = some (.cells #[.slice A0 f0.length c0, .int .i64 f1, .int .u64 f2, .int .i64 f3] 70 (0, 0))) : W.cell? ⟨g, 2, none⟩ = some (.int .u64 f2) := (blk_cell h 2).trans rfl
theorem IsS70.set_2 {w0 W : World} {g : Nat} {f0 : List Int} {f1 : Int} {f2 : Int} {f3 : Int} (h : IsS70 w0 W g f0 f1 f2 f3) (x : Int) : IsS70 w0 (W.setCell ⟨g, 2, none⟩ (.int .u64 x)) g f0 f1 x f3 := by
  obtain ⟨A0, c0, hb, hg, hr0⟩ := h
  exact ⟨A0, c0, by simpa using blk_set hb 2 (.int .u64 x), hg, hr0⟩
theorem cellS70_3 {W : World} {g : Nat} {A0 : Option Addr} {c0 : Nat} {f0 : List Int} {f1 : Int} {f2 : Int} {f3 : Int} (h : W.heap[g]? = some (.cells #[.slice A0 f0.length c0, .int .i64 f1, .int .u64 f2, .int .i64 f3] 70 (0, 0))) : W.cell? ⟨g, 3, none⟩ = some (.int .i64 f3) := (blk_cell h 3).trans rfl
theorem IsS70.set_3 {w0 W : World} {g : Nat} {f0 : List Int} {f1 : Int} {f2 : Int} {f3 : Int} (h : IsS70 w0 W g f0 f1 f2 f3) (x : Int) : IsS70 w0 (W.setCell ⟨g, 3, none⟩ (.int .i64 x)) g f0 f1 f2 x := by
  obtain ⟨A0, c0, hb, hg, hr0⟩ := h
  exact ⟨A0, c0, by simpa using blk_set hb 3 (.int .i64 x), hg, hr0⟩
theorem IsS70.new (w0 W : World) (A0 : Option Addr) (c0 : Nat) (f0 : List Int) (f1 : Int) (f2 : Int) (f3 : Int) (hB : Below w0.heap.size w0 W) (hr0 : Kd.C (Kd.int .u8) w0 A0 f0.length f0) : IsS70 w0 (W.alloc (.cells #[.slice A0 f0.length c0, .int .i64 f1, .int .u64 f2, .int .i64 f3] 70)) W.heap.size f0 f1 f2 f3 := ⟨A0, c0, by simpa using heap_alloc_new W _, hB.size, hr0⟩

/-! ### spec_l01Source: function 36 -/
def spec_l01Source.step (m c : Int) : Int := IntKind.u64.wrap ((Go.bits .xor .u64 m (IntKind.u64.wrap c)) * 1099511628211)
def spec_l01Source.mixes (l : List Int) : Int := l.foldl spec_l01Source.step 88172645463325252
theorem spec_l01Source.mixes_snoc (l : List Int) (k : Nat) (h : k < l.length) : spec_l01Source.mixes (l.take (k + 1)) = spec_l01Source.step (spec_l01Source.mixes (l.take k)) (rd l k) := by
  unfold spec_l01Source.mixes
  rw [List.take_succ_eq_append_getElem h, List.foldl_append]
  simp [rd, List.getD_eq_getElem?_getD, h]
def spec_l01Source.f (l : List Int) : Option (List Int × Int × Int × Int) :=
  some (l, 0, spec_l01Source.mixes (l.take 64), if 12 < wrap64 ((l.length : Int) / 20) then 12 else wrap64 ((l.length : Int) / 20))
open spec_l01Source in
set_option maxHeartbeats 8000000 in
theorem spec_l01Source.calls (A0 : Option Addr) (c0 : Nat) (l0 : List Int) (r1 : List Int) (r2 : Int) (r3 : Int) (r4 : Int) (w0 w : World) (hB : Below w0.heap.size w0 w) (hr0 : Kd.C (Kd.int .u8) w0 A0 l0.length l0) (hc0 : l0.length ≤ c0) (h : spec_l01Source.f l0 = some (r1, r2, r3, r4)) :
    Calls Try.prog 36 #[.slice A0 l0.length c0] w fun e w' => ∃ g_ : Nat, e = .returned (.pointer (some ⟨g_, 0, none⟩)) ∧ IsS70 w0 w' g_ r1 r2 r3 r4 ∧ Below w0.heap.size w0 w' ∧ Below w.heap.size w w' := by
  unfold spec_l01Source.f at h
  simp only [Option.some.injEq, Prod.mk.injEq] at h
  obtain ⟨rfl, rfl, rfl, rfl⟩ := h
  have HM := Aside0.mk (hr0.2.1)
  have HR := Aside0.mk (Kd.C_below hr0 hB)
  have HR0 := Aside0.mk hr0
  have HB0 := Aside0.mk hB
  clear hr0 hB hc0
  generalize hsz : (if 12 < wrap64 ((l0.length : Int) / 20) then (12 : Int) else wrap64 ((l0.length : Int) / 20)) = sz
  have HZ := Aside0.mk hsz
  clear hsz
  go_enter Try.func36, Try.ntmps36
  go_wp2
  go_loopw [4] (fun i wr => ∃ k : Nat, k ≤ l0.length ∧ k ≤ 64 ∧ i = .int .i64 k ∧ Aside0 (wr.heap[w.heap.size]? = some (.cells #[.slice A0 l0.length c0, .int .i64 0, .int .u64 (spec_l01Source.mixes (l0.take k)), .int .i64 0] 70 (0, 0))) ∧ Aside0 (Below w.heap.size w wr))
    (fun i _ => 64 - (intOf i).toNat)
  case atStart => exact ⟨0, Nat.zero_le _, Nat.zero_le _, rfl, ⟨blk_new _ _⟩, ⟨below_alloc (Below.refl _ _) _⟩⟩
  case round =>
    obtain ⟨k, hk, hk2, rfl, BS, HB⟩ := hrel
    by_cases hlt : k < l0.length ∧ k < 64
    · obtain ⟨hl1, hl2⟩ := hlt
      have h1 : decide ((k : Int) < (l0.length : Int)) = true := by simpa using hl1
      have h2 : decide ((k : Int) < 64) = true := by simp; omega
      have HS := Aside0.mk (mixes_snoc l0 k hl1)
      obtain ⟨ad, rfl, hx⟩ := Kd.at_int (Kd.C_below HR.out HB.out) k (by omega) (by omega)
      simp only [Int.toNat_natCast] at hx
      generalize rd l0 k = c at hx HS
      generalize spec_l01Source.mixes (l0.take k) = m at BS HS
      have e2 := blk_cell BS.out 2
      have f2 := blk_frozen BS.out 2
      simp only [List.getElem?_toArray, List.getElem?_cons_zero, List.getElem?_cons_succ] at e2
      go_wp2
      refine Go.Proofs.Ytppbocpmahhciaa.Kit.still_tail 14 (by kernel_rfl) (by kernel_rfl) ?_
      simp only [List.take_succ_cons, List.take_zero, List.drop_succ_cons, List.drop_zero]
      iterate 14 still_step
      refine wpStill_nil ?_
      go_wp2
      go_roundw
      case rel =>
        refine ⟨k + 1, by omega, by omega, by go_num, ⟨?_⟩, ⟨below_drew1 (below_set HB.out (Nat.le_refl _))⟩⟩
        rw [HS.out]
        exact blk_drew (blk_put BS.out 2 _ rfl)
      case measure => simp [intOf]; omega
    · have hx : l0.take k = l0.take 64 := by
        by_cases h : k < l0.length
        · have : k = 64 := by omega
          rw [this]
        · have : k = l0.length := by omega
          rw [List.take_of_length_le (by omega), List.take_of_length_le (by omega)]
      rw [hx] at BS
      clear hx
      have e0 := blk_cell BS.out 0
      have e1 := blk_cell BS.out 1
      have e2 := blk_cell BS.out 2
      have e3 := blk_cell BS.out 3
      have f3 := blk_frozen BS.out 3
      simp only [List.getElem?_toArray, List.getElem?_cons_zero, List.getElem?_cons_succ] at e0 e1 e2 e3
      have e4 : wrap64 ((l0.length : Int) / 20) = (l0.length : Int) / 20 := by have := HM.out; unfold wrap64; omega
      have hn : (l0.length : Int) ≤ 9223372036854775807 := by have := HM.out; omega
      have hgt : 12 < (l0.length : Int) / 20 ∨ ¬ 12 < (l0.length : Int) / 20 := Decidable.em _
      rw [e4] at HZ
      clear e4
      rcases hgt with hgt | hgt
      · have hz : sz = 12 := by rw [← HZ.out, if_pos hgt]
        have HZ2 := Aside0.mk hz
        clear hz HZ
        have h1 : decide ((k : Int) < (l0.length : Int)) = true := by simp; omega
        have h2 : decide ((k : Int) < 64) = false := by simp; omega
        go_wp2
        go_ret
        refine ⟨w.heap.size, rfl, ⟨A0, c0, ?_, HB0.out.size, HR0.out⟩, ?_, ?_⟩
        · rw [HZ2.out]
          exact blk_put (blk_put BS.out 3 _ rfl) 3 _ rfl
        · exact below_step HB0.out (below_set (below_set HB.out (Nat.le_refl _)) (Nat.le_refl _))
        · exact below_set (below_set HB.out (Nat.le_refl _)) (Nat.le_refl _)
      · have hz : sz = (l0.length : Int) / 20 := by rw [← HZ.out, if_neg hgt]
        have HZ2 := Aside0.mk hz
        clear hz HZ
        by_cases h : k < l0.length
        · have h1 : decide ((k : Int) < (l0.length : Int)) = true := by simpa using h
          have h2 : decide ((k : Int) < 64) = false := by simp; omega
          go_wp2
          go_ret
          refine ⟨w.heap.size, rfl, ⟨A0, c0, ?_, HB0.out.size, HR0.out⟩, ?_, ?_⟩
          · rw [HZ2.out]
            exact blk_put BS.out 3 _ rfl
          · exact below_step HB0.out (below_set HB.out (Nat.le_refl _))
          · exact below_set HB.out (Nat.le_refl _)
        · have h1 : decide ((k : Int) < (l0.length : Int)) = false := by simpa using h
          go_wp2
          go_ret
          refine ⟨w.heap.size, rfl, ⟨A0, c0, ?_, HB0.out.size, HR0.out⟩, ?_, ?_⟩
          · rw [HZ2.out]
            exact blk_put BS.out 3 _ rfl
          · exact below_step HB0.out (below_set HB.out (Nat.le_refl _))
          · exact below_set HB.out (Nat.le_refl _)

/-! ### spec_l01Src_n: function 46 -/
def spec_l01Src_n.mix (m : Int) : Int := Go.bits .xor .u64 (Go.bits .xor .u64 (Go.bits .xor .u64 m (IntKind.u64.wrap (m * 8192))) ((Go.bits .xor .u64 m (IntKind.u64.wrap (m * 8192))) / 128)) (IntKind.u64.wrap ((Go.bits .xor .u64 (Go.bits .xor .u64 m (IntKind.u64.wrap (m * 8192))) ((Go.bits .xor .u64 m (IntKind.u64.wrap (m * 8192))) / 128)) * 131072))
def spec_l01Src_n.draw (v m most : Int) : Int := wrap64 ((IntKind.u64.wrap (v + m / 1048576)).tmod (IntKind.u64.wrap most))
def spec_l01Src_n.f (l : List Int) (p : Int) (m : Int) (z : Int) (most : Int) : Option (Int × Int × Int × Int) :=
  if most ≤ 1 then some (0, p, m, z) else if IntKind.u64.wrap most = 0 then none else if p < (l.length : Int) then (if 0 ≤ p then some (spec_l01Src_n.draw (IntKind.u64.wrap (rd l p)) (spec_l01Src_n.mix m) most, wrap64 (p + 1), spec_l01Src_n.mix m, z) else none)
    else some (spec_l01Src_n.draw 0 (spec_l01Src_n.mix m) most, p, spec_l01Src_n.mix m, z)
theorem spec_l01Src_n.cells4 {w : World} {g t : Nat} {a b c d : Value} (h : w.heap[g]? = some (.cells #[a, b, c, d] t (0, 0))) : w.cell? ⟨g, 0, none⟩ = some a ∧ w.cell? ⟨g, 1, none⟩ = some b ∧ w.cell? ⟨g, 2, none⟩ = some c ∧ w.cell? ⟨g, 3, none⟩ = some d :=
  ⟨blk_cell h 0, blk_cell h 1, blk_cell h 2, blk_cell h 3⟩
open spec_l01Src_n in
set_option maxHeartbeats 8000000 in
set_option maxRecDepth 100000 in
theorem spec_l01Src_n.calls (g : Nat) (s0_0 : List Int) (s0_1 : Int) (s0_2 : Int) (s0_3 : Int) (a1 : Int) (r1 : Int) (r2 : Int) (r3 : Int) (r4 : Int) (w0 w : World) (hI : IsS70 w0 w g s0_0 s0_1 s0_2 s0_3) (hB : Below w0.heap.size w0 w) (h : spec_l01Src_n.f s0_0 s0_1 s0_2 s0_3 a1 = some (r1, r2, r3, r4)) :
    Calls Try.prog 46 #[.pointer (some ⟨g, 0, none⟩), .int .i64 a1] w fun e w' => e = .returned (.int .i64 r1) ∧ IsS70 w0 w' g s0_0 r2 r3 r4 ∧ Below w0.heap.size w0 w' ∧ KeepBut w w' g none := by
  revert h
  generalize s0_0 = l at *
  generalize s0_1 = p at *
  generalize s0_2 = m at *
  generalize s0_3 = z at *
  generalize a1 = most at *
  intro h
  unfold spec_l01Src_n.f at h
  by_cases c1 : most ≤ 1
  · rw [if_pos c1] at h
    simp only [Option.some.injEq, Prod.mk.injEq] at h
    obtain ⟨rfl, rfl, rfl, rfl⟩ := h
    have h1 : decide (most ≤ 1) = true := decide_eq_true c1
    have HI := Aside0.mk hI
    have HB := Aside0.mk hB
    clear hI hB c1
    go_enter Try.func46, Try.ntmps46
    go_wp2
    go_ret
    exact ⟨rfl, HI.out, HB.out, KeepBut.refl _ _ _⟩
  · rw [if_neg c1] at h
    have h1 : decide (most ≤ 1) = false := decide_eq_false c1
    clear c1
    by_cases c2 : IntKind.u64.wrap most = 0
    · rw [if_pos c2] at h; cases h
    · rw [if_neg c2] at h
      obtain ⟨A0, c0, hb0, hg, hr0⟩ := hI
      have HG := Aside0.mk hg
      have HR := Aside0.mk hr0
      have B0 := Aside0.mk hb0
      have hr := Kd.C_below hr0 hB
      have HB := Aside0.mk hB
      clear hg hr0 hb0 hB
      by_cases c3 : p < (l.length : Int)
      · rw [if_pos c3] at h
        by_cases c4 : 0 ≤ p
        · rw [if_pos c4] at h
          simp only [Option.some.injEq, Prod.mk.injEq] at h
          obtain ⟨rfl, rfl, rfl, rfl⟩ := h
          have h2 : decide (p < (l.length : Int)) = true := decide_eq_true c3
          have h3 : decide (0 ≤ p) = true := decide_eq_true c4
          obtain ⟨ad, rfl, hx⟩ := Kd.at_int hr p c4 c3
          clear hr
          obtain ⟨e0, e1, e2, e3⟩ := cells4 B0.out
          have f1 := blk_frozen B0.out 1
          have f2 := blk_frozen B0.out 2
          go_enter Try.func46, Try.ntmps46
          go_wp2
          go_quiet (fail)
          go_wp2
          go_quiet (fail)
          go_wp2_with fail
          generalize hW : World.setCell _ _ _ = w1
          have B1 : Aside0 (w1.heap[g]? = some (.cells #[.slice (some ad) l.length c0, .int .i64 (wrap64 (p + 1)), .int .u64 m, .int .i64 z] 70 (0, 0))) := ⟨by rw [← hW]; exact blk_put (blk_drewN B0.out _) 1 _ rfl⟩
          have K1 : Aside0 (KeepBut w w1 g none ∧ Below w0.heap.size w0 w1) := ⟨by rw [← hW]; exact ⟨KeepBut.set_ (keep_drewN (KeepBut.refl _ _ _) _) _ _, below_set (pw_below_drewN HB.out _) HG.out⟩⟩
          clear hW e0 e1 e2 e3 f1 f2 hx
          obtain ⟨e0, e1, e2, e3⟩ := cells4 B1.out
          have f1 := blk_frozen B1.out 1
          have f2 := blk_frozen B1.out 2
          refine Go.Proofs.Ytppbocpmahhciaa.Kit.still_tail 13 (by kernel_rfl) (by kernel_rfl) ?_
          simp only [List.take_succ_cons, List.take_zero, List.drop_succ_cons, List.drop_zero]
          iterate 13 still_step
          refine wpStill_nil ?_
          go_wp2_with fail
          generalize hW : World.setCell _ _ _ = w2
          have B2 : Aside0 (w2.heap[g]? = some (.cells #[.slice (some ad) l.length c0, .int .i64 (wrap64 (p + 1)), .int .u64 (Go.bits .xor .u64 m (IntKind.u64.wrap (m * 8192))), .int .i64 z] 70 (0, 0))) := ⟨by rw [← hW]; exact blk_put B1.out 2 _ rfl⟩
          have K2 : Aside0 (KeepBut w w2 g none ∧ Below w0.heap.size w0 w2) := ⟨by rw [← hW]; exact ⟨KeepBut.set_ K1.out.1 _ _, below_set K1.out.2 HG.out⟩⟩
          clear hW e0 e1 e2 e3 f1 f2
          generalize hm1 : Go.bits .xor .u64 m (IntKind.u64.wrap (m * 8192)) = m1 at B2 ⊢
          have Hm1 := Aside0.mk hm1
          clear hm1
          obtain ⟨e0, e1, e2, e3⟩ := cells4 B2.out
          have f1 := blk_frozen B2.out 1
          have f2 := blk_frozen B2.out 2
          refine Go.Proofs.Ytppbocpmahhciaa.Kit.still_tail 13 (by kernel_rfl) (by kernel_rfl) ?_
          simp only [List.take_succ_cons, List.take_zero, List.drop_succ_cons, List.drop_zero]
          iterate 13 still_step
          refine wpStill_nil ?_
          go_wp2_with fail
          generalize hW : World.setCell _ _ _ = w3
          have B3 : Aside0 (w3.heap[g]? = some (.cells #[.slice (some ad) l.length c0, .int .i64 (wrap64 (p + 1)), .int .u64 (Go.bits .xor .u64 m1 (m1 / 128)), .int .i64 z] 70 (0, 0))) := ⟨by rw [← hW]; exact blk_put B2.out 2 _ rfl⟩
          have K3 : Aside0 (KeepBut w w3 g none ∧ Below w0.heap.size w0 w3) := ⟨by rw [← hW]; exact ⟨KeepBut.set_ K2.out.1 _ _, below_set K2.out.2 HG.out⟩⟩
          clear hW e0 e1 e2 e3 f1 f2
          generalize hm2 : Go.bits .xor .u64 m1 (m1 / 128) = m2 at B3 ⊢
          have Hm2 := Aside0.mk hm2
          clear hm2
          obtain ⟨e0, e1, e2, e3⟩ := cells4 B3.out
          have f1 := blk_frozen B3.out 1
          have f2 := blk_frozen B3.out 2
          refine Go.Proofs.Ytppbocpmahhciaa.Kit.still_tail 13 (by kernel_rfl) (by kernel_rfl) ?_
          simp only [List.take_succ_cons, List.take_zero, List.drop_succ_cons, List.drop_zero]
          iterate 13 still_step
          refine wpStill_nil ?_
          go_wp2_with fail
          generalize hW : World.setCell _ _ _ = w4
          have B4 : Aside0 (w4.heap[g]? = some (.cells #[.slice (some ad) l.length c0, .int .i64 (wrap64 (p + 1)), .int .u64 (Go.bits .xor .u64 m2 (IntKind.u64.wrap (m2 * 131072))), .int .i64 z] 70 (0, 0))) := ⟨by rw [← hW]; exact blk_put B3.out 2 _ rfl⟩
          have K4 : Aside0 (KeepBut w w4 g none ∧ Below w0.heap.size w0 w4) := ⟨by rw [← hW]; exact ⟨KeepBut.set_ K3.out.1 _ _, below_set K3.out.2 HG.out⟩⟩
          clear hW e0 e1 e2 e3 f1 f2
          generalize hm3 : Go.bits .xor .u64 m2 (IntKind.u64.wrap (m2 * 131072)) = m3 at B4 ⊢
          have Hm3 := Aside0.mk hm3
          clear hm3
          obtain ⟨e0, e1, e2, e3⟩ := cells4 B4.out
          have f1 := blk_frozen B4.out 1
          have f2 := blk_frozen B4.out 2
          go_wp2
          go_ret
          have hm : spec_l01Src_n.mix m = m3 := by unfold spec_l01Src_n.mix; rw [Hm1.out, Hm2.out, Hm3.out]
          refine ⟨?_, ⟨some ad, c0, ?_, HG.out, HR.out⟩, below_drew1 (below_drew1 (below_drew1 K4.out.2)), keep_drew (keep_drew (keep_drew K4.out.1))⟩
          · rw [hm]; unfold spec_l01Src_n.draw; first | rfl | simp
          · rw [hm]; exact B4.out
        · rw [if_neg c4] at h; cases h
      · rw [if_neg c3] at h
        simp only [Option.some.injEq, Prod.mk.injEq] at h
        obtain ⟨rfl, rfl, rfl, rfl⟩ := h
        have h2 : decide (p < (l.length : Int)) = false := decide_eq_false c3
        clear c3 hr
        obtain ⟨e0, e1, e2, e3⟩ := cells4 B0.out
        have f1 := blk_frozen B0.out 1
        have f2 := blk_frozen B0.out 2
        go_enter Try.func46, Try.ntmps46
        go_wp2
        go_quiet (fail)
        go_wp2_with fail
        generalize hW : World.drewN _ _ = w1
        have B1 : Aside0 (w1.heap[g]? = some (.cells #[.slice A0 l.length c0, .int .i64 p, .int .u64 m, .int .i64 z] 70 (0, 0))) := ⟨by rw [← hW]; exact blk_drewN B0.out _⟩
        have K1 : Aside0 (KeepBut w w1 g none ∧ Below w0.heap.size w0 w1) := ⟨by rw [← hW]; exact ⟨keep_drewN (KeepBut.refl _ _ _) _, pw_below_drewN HB.out _⟩⟩
        clear hW e0 e1 e2 e3 f1 f2
        obtain ⟨e0, e1, e2, e3⟩ := cells4 B1.out
        have f1 := blk_frozen B1.out 1
        have f2 := blk_frozen B1.out 2
        refine Go.Proofs.Ytppbocpmahhciaa.Kit.still_tail 13 (by kernel_rfl) (by kernel_rfl) ?_
        simp only [List.take_succ_cons, List.take_zero, List.drop_succ_cons, List.drop_zero]
        iterate 13 still_step
        refine wpStill_nil ?_
        go_wp2_with fail
        generalize hW : World.setCell _ _ _ = w2
        have B2 : Aside0 (w2.heap[g]? = some (.cells #[.slice A0 l.length c0, .int .i64 (p), .int .u64 (Go.bits .xor .u64 m (IntKind.u64.wrap (m * 8192))), .int .i64 z] 70 (0, 0))) := ⟨by rw [← hW]; exact blk_put B1.out 2 _ rfl⟩
        have K2 : Aside0 (KeepBut w w2 g none ∧ Below w0.heap.size w0 w2) := ⟨by rw [← hW]; exact ⟨KeepBut.set_ K1.out.1 _ _, below_set K1.out.2 HG.out⟩⟩
        clear hW e0 e1 e2 e3 f1 f2
        generalize hm1 : Go.bits .xor .u64 m (IntKind.u64.wrap (m * 8192)) = m1 at B2 ⊢
        have Hm1 := Aside0.mk hm1
        clear hm1
        obtain ⟨e0, e1, e2, e3⟩ := cells4 B2.out
        have f1 := blk_frozen B2.out 1
        have f2 := blk_frozen B2.out 2
        refine Go.Proofs.Ytppbocpmahhciaa.Kit.still_tail 13 (by kernel_rfl) (by kernel_rfl) ?_
        simp only [List.take_succ_cons, List.take_zero, List.drop_succ_cons, List.drop_zero]
        iterate 13 still_step
        refine wpStill_nil ?_
        go_wp2_with fail
        generalize hW : World.setCell _ _ _ = w3
        have B3 : Aside0 (w3.heap[g]? = some (.cells #[.slice A0 l.length c0, .int .i64 (p), .int .u64 (Go.bits .xor .u64 m1 (m1 / 128)), .int .i64 z] 70 (0, 0))) := ⟨by rw [← hW]; exact blk_put B2.out 2 _ rfl⟩
        have K3 : Aside0 (KeepBut w w3 g none ∧ Below w0.heap.size w0 w3) := ⟨by rw [← hW]; exact ⟨KeepBut.set_ K2.out.1 _ _, below_set K2.out.2 HG.out⟩⟩
        clear hW e0 e1 e2 e3 f1 f2
        generalize hm2 : Go.bits .xor .u64 m1 (m1 / 128) = m2 at B3 ⊢
        have Hm2 := Aside0.mk hm2
        clear hm2
        obtain ⟨e0, e1, e2, e3⟩ := cells4 B3.out
        have f1 := blk_frozen B3.out 1
        have f2 := blk_frozen B3.out 2
        refine Go.Proofs.Ytppbocpmahhciaa.Kit.still_tail 13 (by kernel_rfl) (by kernel_rfl) ?_
        simp only [List.take_succ_cons, List.take_zero, List.drop_succ_cons, List.drop_zero]
        iterate 13 still_step
        refine wpStill_nil ?_
        go_wp2_with fail
        generalize hW : World.setCell _ _ _ = w4
        have B4 : Aside0 (w4.heap[g]? = some (.cells #[.slice A0 l.length c0, .int .i64 (p), .int .u64 (Go.bits .xor .u64 m2 (IntKind.u64.wrap (m2 * 131072))), .int .i64 z] 70 (0, 0))) := ⟨by rw [← hW]; exact blk_put B3.out 2 _ rfl⟩
        have K4 : Aside0 (KeepBut w w4 g none ∧ Below w0.heap.size w0 w4) := ⟨by rw [← hW]; exact ⟨KeepBut.set_ K3.out.1 _ _, below_set K3.out.2 HG.out⟩⟩
        clear hW e0 e1 e2 e3 f1 f2
        generalize hm3 : Go.bits .xor .u64 m2 (IntKind.u64.wrap (m2 * 131072)) = m3 at B4 ⊢
        have Hm3 := Aside0.mk hm3
        clear hm3
        obtain ⟨e0, e1, e2, e3⟩ := cells4 B4.out
        have f1 := blk_frozen B4.out 1
        have f2 := blk_frozen B4.out 2
        go_wp2
        go_ret
        have hm : spec_l01Src_n.mix m = m3 := by unfold spec_l01Src_n.mix; rw [Hm1.out, Hm2.out, Hm3.out]
        refine ⟨?_, ⟨A0, c0, ?_, HG.out, HR.out⟩, below_drew1 (below_drew1 (below_drew1 K4.out.2)), keep_drew (keep_drew (keep_drew K4.out.1))⟩
        · rw [hm]; unfold spec_l01Src_n.draw; first | rfl | simp
        · rw [hm]; exact B4.out

/-! ### spec_l01Src_one: function 38 -/
def spec_l01Src_one.f (s0_0 : List Int) (s0_1 : Int) (s0_2 : Int) (s0_3 : Int) (a1 : Int) : Option (Bool × Int × Int × Int) := (spec_l01Src_n.f s0_0 s0_1 s0_2 s0_3 a1).bind fun bt136 => (some ((bt136.1 == 0), bt136.2.1, bt136.2.2.1, bt136.2.2.2))
set_option maxHeartbeats 8000000 in
set_option maxRecDepth 100000 in
theorem spec_l01Src_one.calls (g : Nat) (s0_0 : List Int) (s0_1 : Int) (s0_2 : Int) (s0_3 : Int) (a1 : Int) (r1 : Bool) (r2 : Int) (r3 : Int) (r4 : Int) (w0 w : World) (hI : IsS70 w0 w g s0_0 s0_1 s0_2 s0_3) (hB : Below w0.heap.size w0 w) (h : spec_l01Src_one.f s0_0 s0_1 s0_2 s0_3 a1 = some (r1, r2, r3, r4)) :
    Calls Try.prog 38 #[.pointer (some ⟨g, 0, none⟩), .int .i64 a1] w fun e w' => e = .returned (.bool r1) ∧ IsS70 w0 w' g s0_0 r2 r3 r4 ∧ Below w0.heap.size w0 w' ∧ KeepBut w w' g none := by
  have HI0 := Aside0.mk hI
  have HK := Aside0.mk (KeepBut.refl w g none)
  have HL := Aside0.mk hB.size
  clear hI
  have HW0 := Aside0.mk hB.size
  have HB := Aside0.mk hB
  clear hB
  have H : ((spec_l01Src_n.f s0_0 s0_1 s0_2 s0_3 a1).bind fun bt136 => (some ((bt136.1 == 0), bt136.2.1, bt136.2.2.1, bt136.2.2.2))) = some (r1, r2, r3, r4) := h
  clear h
  replace H := Option.bind_eq_some_iff.mp H
  obtain ⟨⟨t136, t137, t138, t139⟩, A30, H⟩ := H
  replace H : (some ((t136 == 0), t137, t138, t139)) = some (r1, r2, r3, r4) := H
  have A3 := Aside0.mk A30
  clear A30
  simp only [Option.some.injEq, Prod.mk.injEq] at H
  obtain ⟨rfl, rfl, rfl, rfl⟩ := H
  go_enter Try.func38, Try.ntmps38
  go_wp2_with (first | ((with_reducible refine gate_callee (f := 46) rfl ?_); refine goesL_ (some 7) rfl rfl Try.func46 (by kernel_rfl) rfl #[.pointer (some ⟨g, 0, none⟩), .int .i64 a1] rfl (by (try simp only [List.map_toArray, List.map_cons, List.map_nil]); first | done | rfl | (simp only [List.length_drop, List.length_take]; rfl)) ?_; (with_reducible refine (spec_l01Src_n.calls g s0_0 s0_1 s0_2 s0_3 a1 t136 t137 t138 t139 w0 _ ?side1 ?side2 A3.out).mono ?_); (case side1 => repeat (first | (with_reducible first | exact HI0.out | apply IsS70.alloc | apply IsS70.drewN | apply IsS70.drew | apply IsS70.set_1 | apply IsS70.set_2 | apply IsS70.set_3) | exact HI0.out)); (case side2 => repeat (first | (with_reducible first | exact HB.out | apply below_alloc | apply pw_below_drewN | apply below_drew1 | refine below_set ?_ (IsS70.ge HI0.out)) | exact HB.out)); rintro e w4 ⟨rfl, hi, hb, hk⟩; refine ⟨_, rfl, ?_⟩; have n0_ := Aside0.mk (KeepBut.trans (by repeat (first | (with_reducible first | exact HK.out | apply KeepBut.set_ | apply keep_drewN | apply keep_drew | apply keep_alloc) | exact HK.out)) hk (.inl rfl)); have n1_ := Aside0.mk (hb); have n2_ := Aside0.mk (hi); clear HK; clear HB; clear HI0; have HK := n0_; have HB := n1_; have HI0 := n2_; clear n0_ n1_ n2_; (try clear hb); (try clear hb2); (try clear hk); (try clear hi)))
  go_ret
  exact ⟨by first | rfl | (simp [errW_none, errW_some] <;> rfl) | (simp [*, errW_none, errW_some] <;> rfl), by repeat (first | (with_reducible first | exact HI0.out | apply IsS70.alloc | apply IsS70.drewN | apply IsS70.drew | apply IsS70.set_1 | apply IsS70.set_2 | apply IsS70.set_3) | exact HI0.out), by repeat (first | (with_reducible first | exact HB.out | apply below_alloc | apply pw_below_drewN | apply below_drew1 | refine below_set ?_ (IsS70.ge HI0.out)) | exact HB.out), by repeat (first | (with_reducible first | exact HK.out | apply KeepBut.set_ | apply keep_drewN | apply keep_drew | apply keep_alloc) | exact HK.out)⟩

/-! ### spec_l01Src_edge: function 39 -/
def spec_l01Src_edge.f (s0_0 : List Int) (s0_1 : Int) (s0_2 : Int) (s0_3 : Int) : Option (Int × Int × Int × Int) := (some (([0, 1, (-1), 2, 1000, 1001, 2147483648, 2147483647, (-2147483648), 4611686018427387904, 9223372036854775807, (-9223372036854775808), 1000000, 1000001] : List Int) : List Int)).bind fun y140 => ((spec_l01Src_n.f s0_0 s0_1 s0_2 s0_3 14).bind fun bt143 => (if 0 ≤ bt143.1 then (if bt143.1 < (y140.length : Int) then (some (rd y140 bt143.1, bt143.2.1, bt143.2.2.1, bt143.2.2.2)) else (none)) else (none)))
set_option maxHeartbeats 8000000 in
set_option maxRecDepth 100000 in
theorem spec_l01Src_edge.calls (g : Nat) (s0_0 : List Int) (s0_1 : Int) (s0_2 : Int) (s0_3 : Int) (r1 : Int) (r2 : Int) (r3 : Int) (r4 : Int) (w0 w : World) (hI : IsS70 w0 w g s0_0 s0_1 s0_2 s0_3) (hB : Below w0.heap.size w0 w) (h : spec_l01Src_edge.f s0_0 s0_1 s0_2 s0_3 = some (r1, r2, r3, r4)) :
    Calls Try.prog 39 #[.pointer (some ⟨g, 0, none⟩)] w fun e w' => e = .returned (.int .i64 r1) ∧ IsS70 w0 w' g s0_0 r2 r3 r4 ∧ Below w0.heap.size w0 w' ∧ KeepBut w w' g none := by
  have HI0 := Aside0.mk hI
  have HK := Aside0.mk (KeepBut.refl w g none)
  have HL := Aside0.mk hB.size
  clear hI
  have HW0 := Aside0.mk hB.size
  have HB := Aside0.mk hB
  clear hB
  have H : ((some (([0, 1, (-1), 2, 1000, 1001, 2147483648, 2147483647, (-2147483648), 4611686018427387904, 9223372036854775807, (-9223372036854775808), 1000000, 1000001] : List Int) : List Int)).bind fun y140 => ((spec_l01Src_n.f s0_0 s0_1 s0_2 s0_3 14).bind fun bt143 => (if 0 ≤ bt143.1 then (if bt143.1 < (y140.length : Int) then (some (rd y140 bt143.1, bt143.2.1, bt143.2.2.1, bt143.2.2.2)) else (none)) else (none)))) = some (r1, r2, r3, r4) := h
  clear h
  obtain ⟨y140, hy140⟩ : ∃ y_ : List Int, y_ = (([0, 1, (-1), 2, 1000, 1001, 2147483648, 2147483647, (-2147483648), 4611686018427387904, 9223372036854775807, (-9223372036854775808), 1000000, 1000001] : List Int)) := ⟨_, rfl⟩
  replace H : ((spec_l01Src_n.f s0_0 s0_1 s0_2 s0_3 14).bind fun bt143 => (if 0 ≤ bt143.1 then (if bt143.1 < (y140.length : Int) then (some (rd y140 bt143.1, bt143.2.1, bt143.2.2.1, bt143.2.2.2)) else (none)) else (none))) = some (r1, r2, r3, r4) := by first | (rw [hy140]; with_reducible exact H) | (have H2_ := (Option.bind_some _ _).symm.trans H; rw [hy140]; with_reducible exact H2_) | (have H2_ := (Option.bind_some _ _).symm.trans H; with_reducible exact H2_) | with_reducible exact H | (rw [hy140]; exact H) | exact H
  have Ny140 := Aside0.mk hy140
  clear hy140
  replace H := Option.bind_eq_some_iff.mp H
  obtain ⟨⟨t143, t144, t145, t146⟩, A20, H⟩ := H
  replace H : (if 0 ≤ t143 then (if t143 < (y140.length : Int) then (some (rd y140 t143, t144, t145, t146)) else (none)) else (none)) = some (r1, r2, r3, r4) := H
  have A2 := Aside0.mk A20
  clear A20
  by_cases c3 : 0 ≤ t143
  · rw [if_pos c3] at H
    have c3b0 : decide (0 ≤ t143) = true := decide_eq_true c3
    clear c3
    by_cases c4 : t143 < (y140.length : Int)
    · rw [if_pos c4] at H
      have c4b0 : decide (t143 < (y140.length : Int)) = true := decide_eq_true c4
      clear c4
      simp only [Option.some.injEq, Prod.mk.injEq] at H
      obtain ⟨rfl, rfl, rfl, rfl⟩ := H
      go_enter Try.func39, Try.ntmps39
      go_wp2_with (first | ((with_reducible refine gate_dst (N := 3) rfl ?_); refine Kd.R_lit (Kd.int .i64) _ 2 ?hg (N := 3) ?hd (xs := ([0, 1, (-1), 2, 1000, 1001, 2147483648, 2147483647, (-2147483648), 4611686018427387904, 9223372036854775807, (-9223372036854775808), 1000000, 1000001] : List Int)) (inner := [.int .i64 0, .int .i64 1, .int .i64 (-1), .int .i64 2, .int .i64 1000, .int .i64 1001, .int .i64 2147483648, .int .i64 2147483647, .int .i64 (-2147483648), .int .i64 4611686018427387904, .int .i64 9223372036854775807, .int .i64 (-9223372036854775808), .int .i64 1000000, .int .i64 1000001]) (ok := fun _ => True) (okp := fun _ => True) ?hr ?hp (fun _ hk => hk) trivial (Below.refl _ _) (Nat.le_refl _) (by simp) ?_; (case hd => rfl); (case hg => rfl); (case hr => first | (go_simp; done) | (go_simp; rfl)); (case hp => exact (Reps.one (show Kd.M (Kd.int .i64) _ _ _ 0 [.int .i64 0] from rfl) (Reps.one (show Kd.M (Kd.int .i64) _ _ _ 1 [.int .i64 1] from rfl) (Reps.one (show Kd.M (Kd.int .i64) _ _ _ (-1) [.int .i64 (-1)] from rfl) (Reps.one (show Kd.M (Kd.int .i64) _ _ _ 2 [.int .i64 2] from rfl) (Reps.one (show Kd.M (Kd.int .i64) _ _ _ 1000 [.int .i64 1000] from rfl) (Reps.one (show Kd.M (Kd.int .i64) _ _ _ 1001 [.int .i64 1001] from rfl) (Reps.one (show Kd.M (Kd.int .i64) _ _ _ 2147483648 [.int .i64 2147483648] from rfl) (Reps.one (show Kd.M (Kd.int .i64) _ _ _ 2147483647 [.int .i64 2147483647] from rfl) (Reps.one (show Kd.M (Kd.int .i64) _ _ _ (-2147483648) [.int .i64 (-2147483648)] from rfl) (Reps.one (show Kd.M (Kd.int .i64) _ _ _ 4611686018427387904 [.int .i64 4611686018427387904] from rfl) (Reps.one (show Kd.M (Kd.int .i64) _ _ _ 9223372036854775807 [.int .i64 9223372036854775807] from rfl) (Reps.one (show Kd.M (Kd.int .i64) _ _ _ (-9223372036854775808) [.int .i64 (-9223372036854775808)] from rfl) (Reps.one (show Kd.M (Kd.int .i64) _ _ _ 1000000 [.int .i64 1000000] from rfl) (Reps.one (show Kd.M (Kd.int .i64) _ _ _ 1000001 [.int .i64 1000001] from rfl) (Reps.none _ _)))))))))))))))); intro v141 w5 ho6 hb hg_ hnew_; clear hg_ hnew_; (first | rw [← Ny140.out] at ho6 | (simp only [Int.reduceToNat] at ho6; rw [← Ny140.out] at ho6)); have n0_ := Aside0.mk (Kd.R_lower ho6 (keep_size (w := w) (g := g) (row := none) (by repeat (first | (with_reducible first | exact HK.out | apply KeepBut.set_ | apply keep_drewN | apply keep_drew | apply keep_alloc) | exact HK.out)))); have n1_ := Aside0.mk (IsS70.below (by repeat (first | (with_reducible first | exact HI0.out | apply IsS70.alloc | apply IsS70.drewN | apply IsS70.drew | apply IsS70.set_1 | apply IsS70.set_2 | apply IsS70.set_3) | exact HI0.out)) hb); have n2_ := Aside0.mk (KeepBut.trans (by repeat (first | (with_reducible first | exact HK.out | apply KeepBut.set_ | apply keep_drewN | apply keep_drew | apply keep_alloc) | exact HK.out)) (KeepBut.of_below hb g none) (.inl rfl)); have n3_ := Aside0.mk (below_step (by repeat (first | (with_reducible first | exact HB.out | apply below_alloc | apply pw_below_drewN | apply below_drew1 | refine below_set ?_ (IsS70.ge HI0.out)) | exact HB.out)) hb); clear HI0; clear HK; clear HB; have HO142 := n0_; have HI0 := n1_; have HK := n2_; have HB := n3_; clear n0_ n1_ n2_ n3_; clear hb ho6) | ((with_reducible refine gate_callee (f := 46) rfl ?_); refine goesL_ (some 5) rfl rfl Try.func46 (by kernel_rfl) rfl #[.pointer (some ⟨g, 0, none⟩), .int .i64 14] rfl (by (try simp only [List.map_toArray, List.map_cons, List.map_nil]); first | done | rfl | (simp only [List.length_drop, List.length_take]; rfl)) ?_; (with_reducible refine (spec_l01Src_n.calls g s0_0 s0_1 s0_2 s0_3 14 t143 t144 t145 t146 w0 _ ?side1 ?side2 A2.out).mono ?_); (case side1 => repeat (first | (with_reducible first | exact HI0.out | apply IsS70.alloc | apply IsS70.drewN | apply IsS70.drew | apply IsS70.set_1 | apply IsS70.set_2 | apply IsS70.set_3) | exact HI0.out)); (case side2 => repeat (first | (with_reducible first | exact HB.out | apply below_alloc | apply pw_below_drewN | apply below_drew1 | refine below_set ?_ (IsS70.ge HI0.out)) | exact HB.out)); rintro e w7 ⟨rfl, hi, hb, hk⟩; refine ⟨_, rfl, ?_⟩; have n0_ := Aside0.mk (Kd.R_mono (Kd.R_keep (IsS70.apart (show IsS70 w0 _ g s0_0 s0_1 s0_2 s0_3 from by repeat (first | (with_reducible first | exact HI0.out | apply IsS70.alloc | apply IsS70.drewN | apply IsS70.drew | apply IsS70.set_1 | apply IsS70.set_2 | apply IsS70.set_3) | exact HI0.out)) (by (with_reducible repeat (first | apply Kd.R_alloc | apply Kd.R_drewN | apply Kd.R_drew)); exact HO142.out) (by decide)) hk (fun _ h => h.2)) (fun _ h => h.1)); have n1_ := Aside0.mk (KeepBut.trans (by repeat (first | (with_reducible first | exact HK.out | apply KeepBut.set_ | apply keep_drewN | apply keep_drew | apply keep_alloc) | exact HK.out)) hk (.inl rfl)); have n2_ := Aside0.mk (hb); have n3_ := Aside0.mk (hi); clear HO142; clear HK; clear HB; clear HI0; have HO142 := n0_; have HK := n1_; have HB := n2_; have HI0 := n3_; clear n0_ n1_ n2_ n3_; (try clear hb); (try clear hb2); (try clear hk); (try clear hi); obtain ⟨Ao8, co8, eo8⟩ := Kd.R_slice HO142.out; subst eo8; have p147 : 0 ≤ (t143 : Int) := of_decide_eq_true (by first | (with_reducible assumption) | assumption); have q147 : t143 < (y140.length : Int) := of_decide_eq_true (by first | (with_reducible assumption) | assumption); obtain ⟨ad147, e147, hx147_0⟩ := Kd.at_int (Kd.R_reads' HO142.out).2.2 t143 p147 q147; cases e147; replace p147 := eq_true p147; replace q147 := eq_true q147))
      go_ret
      exact ⟨by first | rfl | (simp [errW_none, errW_some] <;> rfl) | (simp [*, errW_none, errW_some] <;> rfl), by repeat (first | (with_reducible first | exact HI0.out | apply IsS70.alloc | apply IsS70.drewN | apply IsS70.drew | apply IsS70.set_1 | apply IsS70.set_2 | apply IsS70.set_3) | exact HI0.out), by repeat (first | (with_reducible first | exact HB.out | apply below_alloc | apply pw_below_drewN | apply below_drew1 | refine below_set ?_ (IsS70.ge HI0.out)) | exact HB.out), by repeat (first | (with_reducible first | exact HK.out | apply KeepBut.set_ | apply keep_drewN | apply keep_drew | apply keep_alloc) | exact HK.out)⟩
    · rw [if_neg c4] at H
      exact absurd H (by simp)
  · rw [if_neg c3] at H
    exact absurd H (by simp)

/-! ### spec_l01Src_l02WantOf: function 40 -/
def spec_l01Src_l02WantOf.f (s0_0 : List Int) (s0_1 : Int) (s0_2 : Int) (s0_3 : Int) : Option (Int × Int × Int × Int) := (spec_l01Src_n.f s0_0 s0_1 s0_2 s0_3 12).bind fun bt148 => (if bt148.1 = 0 then (some (0, bt148.2.1, bt148.2.2.1, bt148.2.2.2)) else (if bt148.1 = 1 then ((spec_l01Src_n.f s0_0 bt148.2.1 bt148.2.2.1 bt148.2.2.2 1125899906842624).bind fun bt152 => (some (bt152.1, bt152.2.1, bt152.2.2.1, bt152.2.2.2))) else (if bt148.1 = 2 then (some (1125899906842624, bt148.2.1, bt148.2.2.1, bt148.2.2.2)) else ((spec_l01Src_n.f s0_0 bt148.2.1 bt148.2.2.1 bt148.2.2.2 60).bind fun bt156 => (some (bt156.1, bt156.2.1, bt156.2.2.1, bt156.2.2.2))))))
set_option maxHeartbeats 8000000 in
set_option maxRecDepth 100000 in
theorem spec_l01Src_l02WantOf.calls (g : Nat) (s0_0 : List Int) (s0_1 : Int) (s0_2 : Int) (s0_3 : Int) (r1 : Int) (r2 : Int) (r3 : Int) (r4 : Int) (w0 w : World) (hI : IsS70 w0 w g s0_0 s0_1 s0_2 s0_3) (hB : Below w0.heap.size w0 w) (h : spec_l01Src_l02WantOf.f s0_0 s0_1 s0_2 s0_3 = some (r1, r2, r3, r4)) :
    Calls Try.prog 40 #[.pointer (some ⟨g, 0, none⟩)] w fun e w' => e = .returned (.int .i64 r1) ∧ IsS70 w0 w' g s0_0 r2 r3 r4 ∧ Below w0.heap.size w0 w' ∧ KeepBut w w' g none := by
  have HI0 := Aside0.mk hI
  have HK := Aside0.mk (KeepBut.refl w g none)
  have HL := Aside0.mk hB.size
  clear hI
  have HW0 := Aside0.mk hB.size
  have HB := Aside0.mk hB
  clear hB
  have H : ((spec_l01Src_n.f s0_0 s0_1 s0_2 s0_3 12).bind fun bt148 => (if bt148.1 = 0 then (some (0, bt148.2.1, bt148.2.2.1, bt148.2.2.2)) else (if bt148.1 = 1 then ((spec_l01Src_n.f s0_0 bt148.2.1 bt148.2.2.1 bt148.2.2.2 1125899906842624).bind fun bt152 => (some (bt152.1, bt152.2.1, bt152.2.2.1, bt152.2.2.2))) else (if bt148.1 = 2 then (some (1125899906842624, bt148.2.1, bt148.2.2.1, bt148.2.2.2)) else ((spec_l01Src_n.f s0_0 bt148.2.1 bt148.2.2.1 bt148.2.2.2 60).bind fun bt156 => (some (bt156.1, bt156.2.1, bt156.2.2.1, bt156.2.2.2))))))) = some (r1, r2, r3, r4) := h
  clear h
  replace H := Option.bind_eq_some_iff.mp H
  obtain ⟨⟨t148, t149, t150, t151⟩, A20, H⟩ := H
  replace H : (if t148 = 0 then (some (0, t149, t150, t151)) else (if t148 = 1 then ((spec_l01Src_n.f s0_0 t149 t150 t151 1125899906842624).bind fun bt152 => (some (bt152.1, bt152.2.1, bt152.2.2.1, bt152.2.2.2))) else (if t148 = 2 then (some (1125899906842624, t149, t150, t151)) else ((spec_l01Src_n.f s0_0 t149 t150 t151 60).bind fun bt156 => (some (bt156.1, bt156.2.1, bt156.2.2.1, bt156.2.2.2)))))) = some (r1, r2, r3, r4) := H
  have A2 := Aside0.mk A20
  clear A20
  by_cases c3 : t148 = 0
  · rw [if_pos c3] at H
    have c3b0 : (t148 == 0) = true := beq_iff_eq.mpr c3
    have c3b1 : (t148 != 0) = false := bne_eq_false_iff_eq.mpr c3
    clear c3
    simp only [Option.some.injEq, Prod.mk.injEq] at H
    obtain ⟨rfl, rfl, rfl, rfl⟩ := H
    go_enter Try.func40, Try.ntmps40
    go_wp2_with (first | ((with_reducible refine gate_callee (f := 46) rfl ?_); refine goesL_ (some 4) rfl rfl Try.func46 (by kernel_rfl) rfl #[.pointer (some ⟨g, 0, none⟩), .int .i64 12] rfl (by (try simp only [List.map_toArray, List.map_cons, List.map_nil]); first | done | rfl | (simp only [List.length_drop, List.length_take]; rfl)) ?_; (with_reducible refine (spec_l01Src_n.calls g s0_0 s0_1 s0_2 s0_3 12 t148 t149 t150 t151 w0 _ ?side1 ?side2 A2.out).mono ?_); (case side1 => repeat (first | (with_reducible first | exact HI0.out | apply IsS70.alloc | apply IsS70.drewN | apply IsS70.drew | apply IsS70.set_1 | apply IsS70.set_2 | apply IsS70.set_3) | exact HI0.out)); (case side2 => repeat (first | (with_reducible first | exact HB.out | apply below_alloc | apply pw_below_drewN | apply below_drew1 | refine below_set ?_ (IsS70.ge HI0.out)) | exact HB.out)); rintro e w4 ⟨rfl, hi, hb, hk⟩; refine ⟨_, rfl, ?_⟩; have n0_ := Aside0.mk (KeepBut.trans (by repeat (first | (with_reducible first | exact HK.out | apply KeepBut.set_ | apply keep_drewN | apply keep_drew | apply keep_alloc) | exact HK.out)) hk (.inl rfl)); have n1_ := Aside0.mk (hb); have n2_ := Aside0.mk (hi); clear HK; clear HB; clear HI0; have HK := n0_; have HB := n1_; have HI0 := n2_; clear n0_ n1_ n2_; (try clear hb); (try clear hb2); (try clear hk); (try clear hi)))
    go_ret
    exact ⟨by first | rfl | (simp [errW_none, errW_some] <;> rfl) | (simp [*, errW_none, errW_some] <;> rfl), by repeat (first | (with_reducible first | exact HI0.out | apply IsS70.alloc | apply IsS70.drewN | apply IsS70.drew | apply IsS70.set_1 | apply IsS70.set_2 | apply IsS70.set_3) | exact HI0.out), by repeat (first | (with_reducible first | exact HB.out | apply below_alloc | apply pw_below_drewN | apply below_drew1 | refine below_set ?_ (IsS70.ge HI0.out)) | exact HB.out), by repeat (first | (with_reducible first | exact HK.out | apply KeepBut.set_ | apply keep_drewN | apply keep_drew | apply keep_alloc) | exact HK.out)⟩
  · rw [if_neg c3] at H
    have c3b0 : (t148 == 0) = false := beq_eq_false_iff_ne.mpr c3
    have c3b1 : (t148 != 0) = true := bne_iff_ne.mpr c3
    by_cases c5 : t148 = 1
    · rw [if_pos c5] at H
      have c5b0 : (t148 == 1) = true := beq_iff_eq.mpr c5
      have c5b1 : (t148 != 1) = false := bne_eq_false_iff_eq.mpr c5
      clear c5
      replace H := Option.bind_eq_some_iff.mp H
      obtain ⟨⟨t152, t153, t154, t155⟩, A60, H⟩ := H
      replace H : (some (t152, t153, t154, t155)) = some (r1, r2, r3, r4) := H
      have A6 := Aside0.mk A60
      clear A60
      simp only [Option.some.injEq, Prod.mk.injEq] at H
      obtain ⟨rfl, rfl, rfl, rfl⟩ := H
      go_enter Try.func40, Try.ntmps40
      go_wp2_with (first | ((with_reducible refine gate_callee (f := 46) rfl ?_); refine goesL_ (some 4) rfl rfl Try.func46 (by kernel_rfl) rfl #[.pointer (some ⟨g, 0, none⟩), .int .i64 12] rfl (by (try simp only [List.map_toArray, List.map_cons, List.map_nil]); first | done | rfl | (simp only [List.length_drop, List.length_take]; rfl)) ?_; (with_reducible refine (spec_l01Src_n.calls g s0_0 s0_1 s0_2 s0_3 12 t148 t149 t150 t151 w0 _ ?side1 ?side2 A2.out).mono ?_); (case side1 => repeat (first | (with_reducible first | exact HI0.out | apply IsS70.alloc | apply IsS70.drewN | apply IsS70.drew | apply IsS70.set_1 | apply IsS70.set_2 | apply IsS70.set_3) | exact HI0.out)); (case side2 => repeat (first | (with_reducible first | exact HB.out | apply below_alloc | apply pw_below_drewN | apply below_drew1 | refine below_set ?_ (IsS70.ge HI0.out)) | exact HB.out)); rintro e w7 ⟨rfl, hi, hb, hk⟩; refine ⟨_, rfl, ?_⟩; have n0_ := Aside0.mk (KeepBut.trans (by repeat (first | (with_reducible first | exact HK.out | apply KeepBut.set_ | apply keep_drewN | apply keep_drew | apply keep_alloc) | exact HK.out)) hk (.inl rfl)); have n1_ := Aside0.mk (hb); have n2_ := Aside0.mk (hi); clear HK; clear HB; clear HI0; have HK := n0_; have HB := n1_; have HI0 := n2_; clear n0_ n1_ n2_; (try clear hb); (try clear hb2); (try clear hk); (try clear hi)) | ((with_reducible refine gate_callee (f := 46) rfl ?_); refine goesL_ (some 10) rfl rfl Try.func46 (by kernel_rfl) rfl #[.pointer (some ⟨g, 0, none⟩), .int .i64 1125899906842624] rfl (by (try simp only [List.map_toArray, List.map_cons, List.map_nil]); first | done | rfl | (simp only [List.length_drop, List.length_take]; rfl)) ?_; (with_reducible refine (spec_l01Src_n.calls g s0_0 t149 t150 t151 1125899906842624 t152 t153 t154 t155 w0 _ ?side1 ?side2 A6.out).mono ?_); (case side1 => repeat (first | (with_reducible first | exact HI0.out | apply IsS70.alloc | apply IsS70.drewN | apply IsS70.drew | apply IsS70.set_1 | apply IsS70.set_2 | apply IsS70.set_3) | exact HI0.out)); (case side2 => repeat (first | (with_reducible first | exact HB.out | apply below_alloc | apply pw_below_drewN | apply below_drew1 | refine below_set ?_ (IsS70.ge HI0.out)) | exact HB.out)); rintro e w8 ⟨rfl, hi, hb, hk⟩; refine ⟨_, rfl, ?_⟩; have n0_ := Aside0.mk (KeepBut.trans (by repeat (first | (with_reducible first | exact HK.out | apply KeepBut.set_ | apply keep_drewN | apply keep_drew | apply keep_alloc) | exact HK.out)) hk (.inl rfl)); have n1_ := Aside0.mk (hb); have n2_ := Aside0.mk (hi); clear HK; clear HB; clear HI0; have HK := n0_; have HB := n1_; have HI0 := n2_; clear n0_ n1_ n2_; (try clear hb); (try clear hb2); (try clear hk); (try clear hi)))
      go_ret
      exact ⟨by first | rfl | (simp [errW_none, errW_some] <;> rfl) | (simp [*, errW_none, errW_some] <;> rfl), by repeat (first | (with_reducible first | exact HI0.out | apply IsS70.alloc | apply IsS70.drewN | apply IsS70.drew | apply IsS70.set_1 | apply IsS70.set_2 | apply IsS70.set_3) | exact HI0.out), by repeat (first | (with_reducible first | exact HB.out | apply below_alloc | apply pw_below_drewN | apply below_drew1 | refine below_set ?_ (IsS70.ge HI0.out)) | exact HB.out), by repeat (first | (with_reducible first | exact HK.out | apply KeepBut.set_ | apply keep_drewN | apply keep_drew | apply keep_alloc) | exact HK.out)⟩
    · rw [if_neg c5] at H
      have c5b0 : (t148 == 1) = false := beq_eq_false_iff_ne.mpr c5
      have c5b1 : (t148 != 1) = true := bne_iff_ne.mpr c5
      by_cases c9 : t148 = 2
      · rw [if_pos c9] at H
        have c9b0 : (t148 == 2) = true := beq_iff_eq.mpr c9
        have c9b1 : (t148 != 2) = false := bne_eq_false_iff_eq.mpr c9
        clear c9
        simp only [Option.some.injEq, Prod.mk.injEq] at H
        obtain ⟨rfl, rfl, rfl, rfl⟩ := H
        go_enter Try.func40, Try.ntmps40
        go_wp2_with (first | ((with_reducible refine gate_callee (f := 46) rfl ?_); refine goesL_ (some 4) rfl rfl Try.func46 (by kernel_rfl) rfl #[.pointer (some ⟨g, 0, none⟩), .int .i64 12] rfl (by (try simp only [List.map_toArray, List.map_cons, List.map_nil]); first | done | rfl | (simp only [List.length_drop, List.length_take]; rfl)) ?_; (with_reducible refine (spec_l01Src_n.calls g s0_0 s0_1 s0_2 s0_3 12 t148 t149 t150 t151 w0 _ ?side1 ?side2 A2.out).mono ?_); (case side1 => repeat (first | (with_reducible first | exact HI0.out | apply IsS70.alloc | apply IsS70.drewN | apply IsS70.drew | apply IsS70.set_1 | apply IsS70.set_2 | apply IsS70.set_3) | exact HI0.out)); (case side2 => repeat (first | (with_reducible first | exact HB.out | apply below_alloc | apply pw_below_drewN | apply below_drew1 | refine below_set ?_ (IsS70.ge HI0.out)) | exact HB.out)); rintro e w10 ⟨rfl, hi, hb, hk⟩; refine ⟨_, rfl, ?_⟩; have n0_ := Aside0.mk (KeepBut.trans (by repeat (first | (with_reducible first | exact HK.out | apply KeepBut.set_ | apply keep_drewN | apply keep_drew | apply keep_alloc) | exact HK.out)) hk (.inl rfl)); have n1_ := Aside0.mk (hb); have n2_ := Aside0.mk (hi); clear HK; clear HB; clear HI0; have HK := n0_; have HB := n1_; have HI0 := n2_; clear n0_ n1_ n2_; (try clear hb); (try clear hb2); (try clear hk); (try clear hi)))
        go_ret
        exact ⟨by first | rfl | (simp [errW_none, errW_some] <;> rfl) | (simp [*, errW_none, errW_some] <;> rfl), by repeat (first | (with_reducible first | exact HI0.out | apply IsS70.alloc | apply IsS70.drewN | apply IsS70.drew | apply IsS70.set_1 | apply IsS70.set_2 | apply IsS70.set_3) | exact HI0.out), by repeat (first | (with_reducible first | exact HB.out | apply below_alloc | apply pw_below_drewN | apply below_drew1 | refine below_set ?_ (IsS70.ge HI0.out)) | exact HB.out), by repeat (first | (with_reducible first | exact HK.out | apply KeepBut.set_ | apply keep_drewN | apply keep_drew | apply keep_alloc) | exact HK.out)⟩
      · rw [if_neg c9] at H
        have c9b0 : (t148 == 2) = false := beq_eq_false_iff_ne.mpr c9
        have c9b1 : (t148 != 2) = true := bne_iff_ne.mpr c9
        replace H := Option.bind_eq_some_iff.mp H
        obtain ⟨⟨t156, t157, t158, t159⟩, A110, H⟩ := H
        replace H : (some (t156, t157, t158, t159)) = some (r1, r2, r3, r4) := H
        have A11 := Aside0.mk A110
        clear A110
        simp only [Option.some.injEq, Prod.mk.injEq] at H
        obtain ⟨rfl, rfl, rfl, rfl⟩ := H
        go_enter Try.func40, Try.ntmps40
        go_wp2_with (first | ((with_reducible refine gate_callee (f := 46) rfl ?_); refine goesL_ (some 4) rfl rfl Try.func46 (by kernel_rfl) rfl #[.pointer (some ⟨g, 0, none⟩), .int .i64 12] rfl (by (try simp only [List.map_toArray, List.map_cons, List.map_nil]); first | done | rfl | (simp only [List.length_drop, List.length_take]; rfl)) ?_; (with_reducible refine (spec_l01Src_n.calls g s0_0 s0_1 s0_2 s0_3 12 t148 t149 t150 t151 w0 _ ?side1 ?side2 A2.out).mono ?_); (case side1 => repeat (first | (with_reducible first | exact HI0.out | apply IsS70.alloc | apply IsS70.drewN | apply IsS70.drew | apply IsS70.set_1 | apply IsS70.set_2 | apply IsS70.set_3) | exact HI0.out)); (case side2 => repeat (first | (with_reducible first | exact HB.out | apply below_alloc | apply pw_below_drewN | apply below_drew1 | refine below_set ?_ (IsS70.ge HI0.out)) | exact HB.out)); rintro e w12 ⟨rfl, hi, hb, hk⟩; refine ⟨_, rfl, ?_⟩; have n0_ := Aside0.mk (KeepBut.trans (by repeat (first | (with_reducible first | exact HK.out | apply KeepBut.set_ | apply keep_drewN | apply keep_drew | apply keep_alloc) | exact HK.out)) hk (.inl rfl)); have n1_ := Aside0.mk (hb); have n2_ := Aside0.mk (hi); clear HK; clear HB; clear HI0; have HK := n0_; have HB := n1_; have HI0 := n2_; clear n0_ n1_ n2_; (try clear hb); (try clear hb2); (try clear hk); (try clear hi)) | ((with_reducible refine gate_callee (f := 46) rfl ?_); refine goesL_ (some 14) rfl rfl Try.func46 (by kernel_rfl) rfl #[.pointer (some ⟨g, 0, none⟩), .int .i64 60] rfl (by (try simp only [List.map_toArray, List.map_cons, List.map_nil]); first | done | rfl | (simp only [List.length_drop, List.length_take]; rfl)) ?_; (with_reducible refine (spec_l01Src_n.calls g s0_0 t149 t150 t151 60 t156 t157 t158 t159 w0 _ ?side1 ?side2 A11.out).mono ?_); (case side1 => repeat (first | (with_reducible first | exact HI0.out | apply IsS70.alloc | apply IsS70.drewN | apply IsS70.drew | apply IsS70.set_1 | apply IsS70.set_2 | apply IsS70.set_3) | exact HI0.out)); (case side2 => repeat (first | (with_reducible first | exact HB.out | apply below_alloc | apply pw_below_drewN | apply below_drew1 | refine below_set ?_ (IsS70.ge HI0.out)) | exact HB.out)); rintro e w13 ⟨rfl, hi, hb, hk⟩; refine ⟨_, rfl, ?_⟩; have n0_ := Aside0.mk (KeepBut.trans (by repeat (first | (with_reducible first | exact HK.out | apply KeepBut.set_ | apply keep_drewN | apply keep_drew | apply keep_alloc) | exact HK.out)) hk (.inl rfl)); have n1_ := Aside0.mk (hb); have n2_ := Aside0.mk (hi); clear HK; clear HB; clear HI0; have HK := n0_; have HB := n1_; have HI0 := n2_; clear n0_ n1_ n2_; (try clear hb); (try clear hb2); (try clear hk); (try clear hi)))
        go_ret
        exact ⟨by first | rfl | (simp [errW_none, errW_some] <;> rfl) | (simp [*, errW_none, errW_some] <;> rfl), by repeat (first | (with_reducible first | exact HI0.out | apply IsS70.alloc | apply IsS70.drewN | apply IsS70.drew | apply IsS70.set_1 | apply IsS70.set_2 | apply IsS70.set_3) | exact HI0.out), by repeat (first | (with_reducible first | exact HB.out | apply below_alloc | apply pw_below_drewN | apply below_drew1 | refine below_set ?_ (IsS70.ge HI0.out)) | exact HB.out), by repeat (first | (with_reducible first | exact HK.out | apply KeepBut.set_ | apply keep_drewN | apply keep_drew | apply keep_alloc) | exact HK.out)⟩

end Go.Proofs.Ytppbocpmahhciaa.PFnSmoothHolds
