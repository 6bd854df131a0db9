/- FnExactFarmWant: what a group wants is reckoned alike by both. For all farms and ids. -/
import Derived.Test.YtcdmhjnofdoobaaPFnExactFarmWantx
set_option linter.unusedVariables false
set_option linter.unusedSimpArgs false
namespace Go.Proofs.Ytcdmhjnofdoobaa.Pure
open Go.RowKit Go.Proofs.Ytcdmhjnofdoobaa.PFnExactFarmWant Go.Proofs.YtcdmhjnofdoobaaW.PrintWords Go.Proofs.YtcdmhjnofdoobaaW.PrintLast Go.Proofs.YtcdmhjnofdoobaaW.PrintMore
namespace FarmW
theorem fw64 {z : Int} (h : -9223372036854775808 ≤ z ∧ z ≤ 9223372036854775807) : wrap64 z = z := by unfold wrap64; omega
theorem rdG (l : List S64) (i : Nat) (h : i < l.length) : rd_T64 l (i : Int) = l[i] := by simp [rd_T64, List.getD_eq_getElem?_getD, h]
/-- ids that rise -/
def rising (l : List S64) : Prop := ∀ i, i < l.length → 0 < i → (rd_T64 l ((i : Int) - 1)).f0 < (rd_T64 l i).f0
theorem rising_lt (l : List S64) (h : rising l) : ∀ (b a : Nat), a < b → b < l.length → (rd_T64 l a).f0 < (rd_T64 l b).f0 := by
  intro b
  induction b with
  | zero => intro a h1; omega
  | succ b ih =>
    intro a h1 h2
    have h3 := h (b + 1) h2 (by omega)
    rw [show (((b + 1 : Nat) : Int) - 1) = (b : Int) by omega] at h3
    by_cases hab : a = b
    · subst hab; exact h3
    · exact Int.lt_trans (ih a (by omega) (by omega)) h3
theorem at_spec (l : List S64) (id : Int) (n : Nat) (hr : ∀ a b, a < b → b < n → (rd_T64 l a).f0 < (rd_T64 l b).f0) (d : Nat) : ∀ i j, j - i = d → i ≤ j → j ≤ n →
    i ≤ impl_Farm_group.at l id i j ∧ impl_Farm_group.at l id i j ≤ j ∧ (∀ q, i ≤ q → q < impl_Farm_group.at l id i j → (rd_T64 l q).f0 < id) ∧ (∀ q, impl_Farm_group.at l id i j ≤ q → q < j → id ≤ (rd_T64 l q).f0) := by
  induction d using Nat.strongRecOn with
  | _ d ih =>
    intro i j hd hij hj
    by_cases h : i < j
    · rw [impl_Farm_group.at_step l id i j h]
      by_cases hc : (rd_T64 l ((i + j) / 2 : Nat)).f0 < id
      · rw [if_pos hc]
        obtain ⟨a1, a2, a3, a4⟩ := ih (j - ((i + j) / 2 + 1)) (by omega) ((i + j) / 2 + 1) j rfl (by omega) hj
        refine ⟨by omega, a2, fun q h1 h2 => ?_, a4⟩
        by_cases h3 : (i + j) / 2 + 1 ≤ q
        · exact a3 q h3 h2
        · by_cases h4 : q = (i + j) / 2
          · subst h4; exact hc
          · exact Int.lt_trans (hr q ((i + j) / 2) (by omega) (by omega)) hc
      · rw [if_neg hc]
        obtain ⟨a1, a2, a3, a4⟩ := ih ((i + j) / 2 - i) (by omega) i ((i + j) / 2) rfl (by omega) (by omega)
        refine ⟨a1, by omega, a3, fun q h1 h2 => ?_⟩
        by_cases h3 : q < (i + j) / 2
        · exact a4 q h1 h3
        · by_cases h4 : q = (i + j) / 2
          · subst h4; omega
          · have := hr ((i + j) / 2) q (by omega) (by omega)
            omega
    · rw [impl_Farm_group.at_end l id i j h]
      exact ⟨by omega, by omega, fun q h1 h2 => by omega, fun q h1 h2 => by omega⟩
/-- in rising ids a search by halves finds the id where it is -/
theorem at_found (l : List S64) (id : Int) (hr : ∀ a b, a < b → b < l.length → (rd_T64 l a).f0 < (rd_T64 l b).f0) (p : Nat) (hp : p < l.length) (hid : (rd_T64 l p).f0 = id) : impl_Farm_group.at l id 0 l.length = p := by
  obtain ⟨_, a2, a3, a4⟩ := at_spec l id l.length hr l.length 0 l.length (by omega) (by omega) (by omega)
  generalize impl_Farm_group.at l id 0 l.length = t at a2 a3 a4
  rcases Nat.lt_trichotomy p t with h | h | h
  · have := a3 p (by omega) h; omega
  · exact h.symm
  · have h1 := a4 t (by omega) (by omega)
    have h2 := hr t p h hp
    omega
theorem has_iff (l : List S64) (id : Int) (hr : ∀ a b, a < b → b < l.length → (rd_T64 l a).f0 < (rd_T64 l b).f0) : impl_Farm_group.has l id (impl_Farm_group.at l id 0 l.length) = true ↔ ∃ p, p < l.length ∧ (rd_T64 l p).f0 = id := by
  constructor
  · intro h
    unfold impl_Farm_group.has at h
    rw [Bool.and_eq_true, decide_eq_true_iff, beq_iff_eq] at h
    exact ⟨_, h.1, h.2⟩
  · rintro ⟨p, hp, hid⟩
    rw [at_found l id hr p hp hid]
    unfold impl_Farm_group.has
    rw [Bool.and_eq_true, decide_eq_true_iff, beq_iff_eq]
    exact ⟨hp, hid⟩
theorem place_iff (l : List S64) (u : Int) : 0 ≤ spec_l05Group.place l u ↔ ∃ p, p < l.length ∧ (rd_T64 l p).f0 = u := by
  unfold spec_l05Group.place
  by_cases h : l.any (fun g => g.f0 == u) = true
  · rw [if_pos h]
    refine ⟨fun _ => ?_, fun _ => by omega⟩
    obtain ⟨x, hx, hu⟩ := List.any_eq_true.1 h
    obtain ⟨p, hp, rfl⟩ := List.mem_iff_getElem.1 hx
    exact ⟨p, hp, by rw [rdG l p hp]; simpa using hu⟩
  · rw [if_neg h]
    refine ⟨fun h2 => by omega, ?_⟩
    rintro ⟨p, hp, hu⟩
    exfalso
    apply h
    rw [rdG l p hp] at hu
    exact List.any_eq_true.2 ⟨_, List.getElem_mem hp, by simpa using hu⟩
theorem place_at (l : List S64) (u : Int) (hr : ∀ a b, a < b → b < l.length → (rd_T64 l a).f0 < (rd_T64 l b).f0) (p : Nat) (hp : p < l.length) (hid : (rd_T64 l p).f0 = u) : spec_l05Group.place l u = p := by
  have h := (place_iff l u).2 ⟨p, hp, hid⟩
  unfold spec_l05Group.place at h ⊢
  by_cases ha : l.any (fun g => g.f0 == u) = true
  · rw [if_pos ha]
    congr 1
    rw [List.findIdx_eq hp]
    rw [rdG l p hp] at hid
    refine ⟨by simpa using hid, fun j hj => ?_⟩
    have := hr j p hj hp
    rw [rdG l p hp, rdG l j (by omega)] at this
    simp
    omega
  · rw [if_neg ha] at h
    omega
theorem rd_take (l : List S64) (n q : Nat) (h : q < n) : rd_T64 (l.take n) (q : Int) = rd_T64 l (q : Int) := by
  unfold rd_T64
  simp [List.getD_eq_getElem?_getD, List.getElem?_take, h]
/-- the two programs' rightness is the same -/
theorem right_same (c : Int) (l : List S64) (m : List S66) : spec_FarmRight.R c l m ↔ impl_FarmRight.R c l m := by
  unfold spec_FarmRight.R impl_FarmRight.R
  constructor
  · rintro ⟨h1, h2, h3, h4, h5⟩
    have hr : ∀ a b : Nat, a < b → b < l.length → (rd_T64 l a).f0 < (rd_T64 l b).f0 := fun a b => rising_lt l (fun i hi hp => (h4 i hi).2.1 hp) b a
    refine ⟨h1, h2, h3, fun i hi => ?_, fun i hi => ?_⟩
    · obtain ⟨g1, g2, g3, g4, g5⟩ := h4 i hi
      refine ⟨g1, g2, ?_, g4, g5⟩
      rcases g3 with g3 | ⟨g3, g6⟩
      · exact Or.inr g3
      · obtain ⟨p, hp, hu⟩ := (place_iff l _).1 g3
        have hpi : p < i := by
          rcases Nat.lt_trichotomy p i with h | h | h
          · exact h
          · subst h; omega
          · have := hr i p h hp; omega
        refine Or.inl ((has_iff (l.take i) _ (fun a b hab hb => ?_)).2 ⟨p, by rw [List.length_take]; omega, by rw [rd_take l i p hpi]; exact hu⟩)
        rw [List.length_take] at hb
        rw [rd_take l i a (by omega), rd_take l i b (by omega)]
        exact hr a b hab (by omega)
    · obtain ⟨g1, g2, g3, g4, g5⟩ := h5 i hi
      refine ⟨g1, g2, ?_, g4, g5⟩
      rcases g3 with g3 | g3
      · exact Or.inr g3
      · exact Or.inl ((has_iff l _ hr).2 ((place_iff l _).1 g3))
  · rintro ⟨h1, h2, h3, h4, h5⟩
    have hr : ∀ a b : Nat, a < b → b < l.length → (rd_T64 l a).f0 < (rd_T64 l b).f0 := fun a b => rising_lt l (fun i hi hp => (h4 i hi).2.1 hp) b a
    refine ⟨h1, h2, h3, fun i hi => ?_, fun i hi => ?_⟩
    · obtain ⟨g1, g2, g3, g4, g5⟩ := h4 i hi
      refine ⟨g1, g2, ?_, g4, g5⟩
      rcases g3 with g3 | g3
      · obtain ⟨p, hp, hu⟩ := (has_iff (l.take i) _ (fun a b hab hb => by
          rw [List.length_take] at hb
          rw [rd_take l i a (by omega), rd_take l i b (by omega)]
          exact hr a b hab (by omega))).1 g3
        rw [List.length_take] at hp
        rw [rd_take l i p (by omega)] at hu
        exact Or.inr ⟨(place_iff l _).2 ⟨p, by omega, hu⟩, by have := hr p i (by omega) hi; omega⟩
      · exact Or.inl g3
    · obtain ⟨g1, g2, g3, g4, g5⟩ := h5 i hi
      refine ⟨g1, g2, ?_, g4, g5⟩
      rcases g3 with g3 | g3
      · exact Or.inr ((place_iff l _).2 ((has_iff l _ hr).1 g3))
      · exact Or.inl g3
/-- what the groups from k on, d of them, with this parent want together -/
def sg (l : List S64) (F : List Int) (id : Int) : Nat → Nat → Int
  | 0, _ => 0
  | d + 1, k => (if (rd_T64 l k).f1 = id then rd F k else 0) + sg l F id d (k + 1)
def sm (m : List S66) (id : Int) : Nat → Nat → Int
  | 0, _ => 0
  | d + 1, k => (if (rd_T66 m k).f1 = id then (rd_T66 m k).f2 else 0) + sm m id d (k + 1)
def small (F : List Int) : Prop := ∀ q : Nat, 0 ≤ rd F q ∧ rd F q ≤ 1125899906842624
theorem sg_bd (l : List S64) (F : List Int) (id : Int) (hF : small F) (d : Nat) : ∀ k, 0 ≤ sg l F id d k ∧ sg l F id d k ≤ d * 1125899906842624 := by
  induction d with
  | zero => intro k; exact ⟨Int.le_refl _, Int.le_refl _⟩
  | succ d ih =>
    intro k
    have h1 := ih (k + 1)
    have h2 := hF k
    simp only [sg]
    split <;> omega
theorem sm_bd (m : List S66) (id : Int) (hm : ∀ q, q < m.length → 0 ≤ (rd_T66 m q).f2 ∧ (rd_T66 m q).f2 ≤ 1125899906842624) (d : Nat) : ∀ k, k + d ≤ m.length → 0 ≤ sm m id d k ∧ sm m id d k ≤ d * 1125899906842624 := by
  induction d with
  | zero => intro k _; exact ⟨Int.le_refl _, Int.le_refl _⟩
  | succ d ih =>
    intro k hk
    have h1 := ih (k + 1) (by omega)
    have h2 := hm k (by omega)
    simp only [sm]
    split <;> omega
theorem sg_congr (l : List S64) (F F' : List Int) (id : Int) (d : Nat) : ∀ k, (∀ q, k ≤ q → q < k + d → rd F q = rd F' q) → sg l F id d k = sg l F' id d k := by
  induction d with
  | zero => intro k _; rfl
  | succ d ih =>
    intro k h
    simp only [sg]
    rw [h k (by omega) (by omega), ih (k + 1) (fun q h1 h2 => h q (by omega) (by omega))]
theorem sg_skip (l : List S64) (F : List Int) (id : Int) (d : Nat) (a : Nat) : ∀ k, (∀ q, k ≤ q → q < k + a → (rd_T64 l q).f1 ≠ id) → sg l F id (a + d) k = sg l F id d (k + a) := by
  induction a with
  | zero => intro k _; rw [Nat.zero_add]; rfl
  | succ a ih =>
    intro k h
    rw [show a + 1 + d = (a + d) + 1 by omega]
    simp only [sg]
    rw [if_neg (h k (by omega) (by omega)), ih (k + 1) (fun q h1 h2 => h q (by omega) (by omega)), show k + 1 + a = k + (a + 1) by omega]
    omega
theorem min_is (a b : Int) : spec_l01Min.f a b = some (mn a b) := by
  unfold spec_l01Min.f mn
  split <;> split <;> first | rfl | (congr 1; omega)
def val (l : List S64) (m : List S66) (F : List Int) (i : Nat) : Int := mn (sg l F (rd_T64 l i).f0 (l.length - (i + 1)) (i + 1) + sm m (rd_T64 l i).f0 m.length 0) (rd_T64 l i).f2
section
variable {c : Int} {l : List S64} {m : List S66} (h : spec_FarmRight.R c l m)
include h
theorem mem_bd (q : Nat) (hq : q < m.length) : 0 ≤ (rd_T66 m q).f2 ∧ (rd_T66 m q).f2 ≤ 1125899906842624 := (h.2.2.2.2 q hq).2.2.2.1
theorem grp_bd (q : Nat) (hq : q < l.length) : 0 ≤ (rd_T64 l q).f2 ∧ (rd_T64 l q).f2 ≤ 1125899906842624 := (h.2.2.2.1 q hq).2.2.2.1
theorem srt (a b : Nat) (hab : a < b) (hb : b < l.length) : (rd_T64 l a).f0 < (rd_T64 l b).f0 := rising_lt l (fun i hi hp => (h.2.2.2.1 i hi).2.1 hp) b a hab hb
theorem wants_l2 (out : List Int) (i : Nat) (hi : i < l.length) (ho : out.length = l.length) (d : Nat) : ∀ (j : Nat) (acc : Int) (k : Nat), j + d = m.length → 0 ≤ acc → acc + d * 1125899906842624 ≤ 4611686018427387904 →
    spec_l05Wants.l2 (d + 1 + k) out (i : Int) acc (j : Int) c l m = spec_l05Wants.l0 k (out.set i (mn (acc + sm m (rd_T64 l i).f0 d j) (rd_T64 l i).f2)) ((i : Int) - 1) c l m := by
  have hl := h.2.1
  have hm := h.2.2.1
  induction d with
  | zero =>
    intro j acc k hj h0 h1
    rw [show 0 + 1 + k = k + 1 by omega]
    simp only [spec_l05Wants.l2, sm]
    rw [if_neg (by omega), if_pos (by omega), if_pos (by omega), min_is]
    simp only [Option.bind_some]
    rw [if_pos (by omega), fw64 (z := (i : Int) - 1) (by omega), Int.toNat_natCast, Int.add_zero]
  | succ d ih =>
    intro j acc k hj h0 h1
    have hb := mem_bd h j (by omega)
    rw [show d + 1 + 1 + k = (d + 1 + k) + 1 by omega]
    simp only [spec_l05Wants.l2, sm]
    rw [if_pos (by omega), if_pos (by omega), if_pos (by omega), if_pos (by omega), fw64 (z := (j : Int) + 1) (by omega), show ((j : Int) + 1) = ((j + 1 : Nat) : Int) by omega]
    by_cases hu : (rd_T66 m j).f1 = (rd_T64 l i).f0
    · rw [if_pos hu, if_pos hu, fw64 (z := acc + (rd_T66 m j).f2) (by omega), ih (j + 1) _ k (by omega) (by omega) (by omega), Int.add_assoc]
    · rw [if_neg hu, if_neg hu, ih (j + 1) _ k (by omega) (by omega) (by omega), Int.zero_add]
theorem wants_l1 (out : List Int) (i : Nat) (hi : i < l.length) (ho : out.length = l.length) (hs : small out) (d : Nat) : ∀ (j : Nat) (acc : Int) (k : Nat), j + d = l.length → 0 ≤ acc → acc + d * 1125899906842624 ≤ 2305843009213693952 →
    spec_l05Wants.l1 (d + 1 + k) out (i : Int) acc (j : Int) c l m = spec_l05Wants.l2 k out (i : Int) (acc + sg l out (rd_T64 l i).f0 d j) 0 c l m := by
  have hl := h.2.1
  induction d with
  | zero =>
    intro j acc k hj h0 h1
    rw [show 0 + 1 + k = k + 1 by omega]
    simp only [spec_l05Wants.l1, sg]
    rw [if_neg (by omega), Int.add_zero]
  | succ d ih =>
    intro j acc k hj h0 h1
    have hb := hs j
    rw [show d + 1 + 1 + k = (d + 1 + k) + 1 by omega]
    simp only [spec_l05Wants.l1, sg]
    rw [if_pos (by omega), if_pos (by omega), if_pos (by omega), if_pos (by omega), fw64 (z := (j : Int) + 1) (by omega), show ((j : Int) + 1) = ((j + 1 : Nat) : Int) by omega]
    by_cases hu : (rd_T64 l j).f1 = (rd_T64 l i).f0
    · rw [if_pos hu, if_pos hu, if_pos (by omega), fw64 (z := acc + rd out j) (by omega), ih (j + 1) _ k (by omega) (by omega) (by omega), Int.add_assoc]
    · rw [if_neg hu, if_neg hu, ih (j + 1) _ k (by omega) (by omega) (by omega), Int.zero_add]
omit h in
theorem rd_set (out : List Int) (i q : Nat) (v : Int) (hi : i < out.length) : rd (out.set i v) (q : Int) = if q = i then v else rd out (q : Int) := by
  simp only [rd, Int.toNat_natCast, List.getD_eq_getElem?_getD, List.getElem?_set]
  by_cases hq : q = i
  · subst hq; simp [hi]
  · rw [if_neg hq, if_neg (fun e => hq e.symm)]
/-- what the groups want, as the reference reckons it: the last first -/
theorem wants_l0 (s : Nat) : ∀ (out : List Int) (k : Nat), s ≤ l.length → out.length = l.length → small out → (∀ j, s ≤ j → j < l.length → rd out j = val l m out j) → s * 100 + 1 ≤ k →
    ∃ F, spec_l05Wants.l0 k out ((s : Int) - 1) c l m = some F ∧ F.length = l.length ∧ small F ∧ ∀ j, j < l.length → rd F j = val l m F j := by
  have hl := h.2.1
  have hm := h.2.2.1
  induction s with
  | zero =>
    intro out k h1 h2 h3 h4 hk
    obtain ⟨k, rfl⟩ : ∃ n, k = n + 1 := ⟨k - 1, by omega⟩
    simp only [spec_l05Wants.l0]
    rw [if_neg (by omega)]
    exact ⟨out, rfl, h2, h3, fun j hj => h4 j (by omega) hj⟩
  | succ s ih =>
    intro out k h1 h2 h3 h4 hk
    obtain ⟨k, rfl⟩ : ∃ n, k = ((l.length - (s + 1)) + 1 + (m.length + 1 + n)) + 1 := ⟨k - ((l.length - (s + 1)) + 1 + (m.length + 1) + 1), by omega⟩
    simp only [spec_l05Wants.l0]
    rw [if_pos (by omega), show (((s + 1 : Nat) : Int) - 1) = (s : Int) by omega, fw64 (z := (s : Int) + 1) (by omega), show ((s : Int) + 1) = ((s + 1 : Nat) : Int) by omega]
    have b1 := sg_bd l out (rd_T64 l s).f0 h3 (l.length - (s + 1)) (s + 1)
    have b2 := sm_bd m (rd_T64 l s).f0 (mem_bd h) m.length 0 (by omega)
    have b3 := grp_bd h s (by omega)
    rw [wants_l1 h out s (by omega) h2 h3 (l.length - (s + 1)) (s + 1) 0 (m.length + 1 + k) (by omega) (by omega) (by omega), Int.zero_add]
    have h5 := wants_l2 h out s (by omega) h2 m.length 0 (sg l out (rd_T64 l s).f0 (l.length - (s + 1)) (s + 1)) k (by omega) (by omega) (by omega)
    rw [Int.natCast_zero] at h5
    rw [h5]
    have hv : 0 ≤ val l m out s ∧ val l m out s ≤ 1125899906842624 := by
      unfold val mn
      split <;> omega
    have h6 : ∀ q : Nat, rd (out.set s (val l m out s)) (q : Int) = if q = s then val l m out s else rd out (q : Int) := fun q => rd_set out s q _ (by omega)
    refine ih (out.set s (val l m out s)) k (by omega) (by rw [List.length_set]; exact h2) (fun q => ?_) (fun j hj1 hj2 => ?_) (by omega)
    · rw [h6 q]
      split
      · exact hv
      · exact h3 q
    · have h7 : val l m (out.set s (val l m out s)) j = val l m out j := by
        have h10 := sg_congr l (out.set s (val l m out s)) out (rd_T64 l j).f0 (l.length - (j + 1)) (j + 1) (fun q h8 h9 => by rw [h6 q, if_neg (by omega)])
        show mn (sg l (out.set s (val l m out s)) (rd_T64 l j).f0 (l.length - (j + 1)) (j + 1) + sm m (rd_T64 l j).f0 m.length 0) (rd_T64 l j).f2 = mn (sg l out (rd_T64 l j).f0 (l.length - (j + 1)) (j + 1) + sm m (rd_T64 l j).f0 m.length 0) (rd_T64 l j).f2
        rw [h10]
      rw [h7, h6 j]
      by_cases hjs : j = s
      · subst hjs; rw [if_pos rfl]
      · rw [if_neg hjs]
        exact h4 j (by omega) hj2
theorem wants_ok (k : Nat) (hk : 4000 ≤ k) : ∃ F, spec_l05Wants.f k c l m = some F ∧ F.length = l.length ∧ small F ∧ ∀ j, j < l.length → rd F j = val l m F j := by
  have hl := h.2.1
  unfold spec_l05Wants.f
  rw [if_pos (by omega), Int.toNat_natCast, if_pos (by omega), fw64 (z := (l.length : Int) - 1) (by omega)]
  have hz : ∀ q : Nat, rd (List.replicate l.length (0 : Int)) (q : Int) = 0 := fun q => by
    simp only [rd, Int.toNat_natCast, List.getD_eq_getElem?_getD, List.getElem?_replicate]
    split <;> rfl
  exact wants_l0 h l.length (List.replicate l.length 0) k (Nat.le_refl _) (List.length_replicate) (fun q => by rw [hz q]; omega) (fun j h1 h2 => by omega) (by omega)
/-! the program's way -/
theorem iwant_l1 (id : Int) (d : Nat) : ∀ (j : Nat) (acc : Int) (k : Nat), j + d = m.length → 0 ≤ acc → acc + d * 1125899906842624 ≤ 4611686018427387904 →
    impl_Farm_want.l1 (d + 1 + k) id acc m (m.length : Int) (j : Int) c l m = (impl_Farm_cap.f c l m id).bind fun t => some (mn (acc + sm m id d j) t) := by
  have hm := h.2.2.1
  induction d with
  | zero =>
    intro j acc k hj h0 h1
    rw [show 0 + 1 + k = k + 1 by omega]
    simp only [impl_Farm_want.l1, sm]
    rw [if_neg (by omega)]
    simp only [Int.add_zero]
  | succ d ih =>
    intro j acc k hj h0 h1
    have hb := mem_bd h j (by omega)
    rw [show d + 1 + 1 + k = (d + 1 + k) + 1 by omega]
    simp only [impl_Farm_want.l1, sm]
    rw [if_pos (by omega), if_pos (by omega), if_pos (by omega), fw64 (z := (j : Int) + 1) (by omega), show ((j : Int) + 1) = ((j + 1 : Nat) : Int) by omega]
    by_cases hu : (rd_T66 m j).f1 = id
    · rw [if_pos hu, fw64 (z := acc + (rd_T66 m j).f2) (by omega), ih (j + 1) _ k (by omega) (by omega) (by omega)]
      simp only [if_pos hu, Int.add_assoc]
    · rw [if_neg hu, ih (j + 1) _ k (by omega) (by omega) (by omega)]
      simp only [if_neg hu, Int.zero_add]
theorem iwant_l0 (F : List Int) (hs : small F) (id : Int) (K : Nat) (hF : ∀ q, q < l.length → (rd_T64 l q).f1 = id → ∀ k, K ≤ k → impl_Farm_want.f k c l m (rd_T64 l q).f0 = some (rd F q)) (d : Nat) : ∀ (j : Nat) (acc : Int) (k : Nat), K ≤ k → j + d = l.length → 0 ≤ acc → acc + d * 1125899906842624 ≤ 2305843009213693952 →
    impl_Farm_want.l0 (d + 1 + k) id acc l (l.length : Int) (j : Int) c l m = impl_Farm_want.l1 k id (acc + sg l F id d j) m (m.length : Int) 0 c l m := by
  have hl := h.2.1
  induction d with
  | zero =>
    intro j acc k hK hj h0 h1
    rw [show 0 + 1 + k = k + 1 by omega]
    simp only [impl_Farm_want.l0, sg]
    rw [if_neg (by omega), Int.add_zero]
  | succ d ih =>
    intro j acc k hK hj h0 h1
    have hb := hs j
    rw [show d + 1 + 1 + k = (d + 1 + k) + 1 by omega]
    simp only [impl_Farm_want.l0, sg]
    rw [if_pos (by omega), if_pos (by omega), if_pos (by omega), fw64 (z := (j : Int) + 1) (by omega), show ((j : Int) + 1) = ((j + 1 : Nat) : Int) by omega]
    by_cases hu : (rd_T64 l j).f1 = id
    · rw [if_pos hu, if_pos hu, hF j (by omega) hu (d + 1 + k) (by omega)]
      simp only [Option.bind_some]
      rw [fw64 (z := acc + rd F j) (by omega), ih (j + 1) _ k hK (by omega) (by omega) (by omega), Int.add_assoc]
    · rw [if_neg hu, if_neg hu, ih (j + 1) _ k hK (by omega) (by omega) (by omega), Int.zero_add]
theorem iwant_of (F : List Int) (hs : small F) (id : Int) (K : Nat) (hK : 100 ≤ K) (hF : ∀ q, q < l.length → (rd_T64 l q).f1 = id → ∀ k, K ≤ k → impl_Farm_want.f k c l m (rd_T64 l q).f0 = some (rd F q)) (k : Nat) (hk : K + 40 ≤ k) :
    impl_Farm_want.f k c l m id = (impl_Farm_cap.f c l m id).bind fun t => some (mn (sg l F id l.length 0 + sm m id m.length 0) t) := by
  have hl := h.2.1
  have hm := h.2.2.1
  obtain ⟨k, rfl⟩ : ∃ n, k = (l.length + 1 + n) + 1 := ⟨k - (l.length + 1) - 1, by omega⟩
  simp only [impl_Farm_want.f]
  have b1 := sg_bd l F id hs l.length 0
  have h1 := iwant_l0 h F hs id K hF l.length 0 0 k (by omega) (by omega) (by omega) (by omega)
  rw [Int.natCast_zero, Int.zero_add] at h1
  rw [h1]
  obtain ⟨k, rfl⟩ : ∃ n, k = m.length + 1 + n := ⟨k - (m.length + 1), by omega⟩
  have h2 := iwant_l1 h id m.length 0 (sg l F id l.length 0) k (by omega) (by omega) (by omega)
  rw [Int.natCast_zero] at h2
  exact h2
theorem cap_at (i : Nat) (hi : i < l.length) : impl_Farm_cap.f c l m (rd_T64 l i).f0 = some (rd_T64 l i).f2 := by
  have h1 := (h.2.2.2.1 i hi).1
  unfold impl_Farm_cap.f impl_Farm_group.f
  rw [if_neg (by omega)]
  simp only [Option.bind_some]
  rw [at_found l _ (srt h) i hi rfl, if_pos (by omega), if_pos (by omega)]
theorem iwant_at (F : List Int) (hs : small F) (hF : ∀ j, j < l.length → rd F j = val l m F j) (d : Nat) : ∀ i, i < l.length → l.length - i = d → ∀ k, d * 100 + 100 ≤ k → impl_Farm_want.f k c l m (rd_T64 l i).f0 = some (rd F i) := by
  induction d using Nat.strongRecOn with
  | _ d ih =>
    intro i hi hd k hk
    have hid := (h.2.2.2.1 i hi).1
    have hup : ∀ q, q < l.length → (rd_T64 l q).f1 = (rd_T64 l i).f0 → i < q := fun q hq hu => by
      rcases (h.2.2.2.1 q hq).2.2.1 with h1 | ⟨_, h1⟩
      · omega
      · rcases Nat.lt_trichotomy i q with h2 | h2 | h2
        · exact h2
        · subst h2; omega
        · have := srt h q i h2 hi
          omega
    rw [iwant_of h F hs (rd_T64 l i).f0 ((d - 1) * 100 + 100) (by omega) (fun q hq hu k' hk' => ih (l.length - q) (by have := hup q hq hu; omega) q hq rfl k' (by have := hup q hq hu; omega)) k (by omega), cap_at h i hi, hF i hi]
    simp only [Option.bind_some]
    unfold val
    have h1 := sg_skip l F (rd_T64 l i).f0 (l.length - (i + 1)) (i + 1) 0 (fun q _ hq hu => by have := hup q (by omega) hu; omega)
    rw [show i + 1 + (l.length - (i + 1)) = l.length by omega, Nat.zero_add] at h1
    rw [h1]
/-- of the whole -/
theorem iwant_0 (F : List Int) (hs : small F) (hF : ∀ j, j < l.length → rd F j = val l m F j) (k : Nat) (hk : 4000 ≤ k) : impl_Farm_want.f k c l m 0 = some (mn (sg l F 0 l.length 0 + sm m 0 m.length 0) c) := by
  have hl := h.2.1
  rw [iwant_of h F hs 0 3200 (by omega) (fun q hq hu k' hk' => iwant_at h F hs hF (l.length - q) q hq rfl k' (by omega)) k (by omega)]
  unfold impl_Farm_cap.f
  rw [if_pos rfl]
  rfl
theorem swant_l1 (d : Nat) : ∀ (j : Nat) (acc : Int) (k : Nat), j + d = m.length → 0 ≤ acc → acc + d * 1125899906842624 ≤ 4611686018427387904 →
    spec_FarmWant.l1 (d + 1 + k) acc (j : Int) c l m = some (mn (acc + sm m 0 d j) c) := by
  have hm := h.2.2.1
  induction d with
  | zero =>
    intro j acc k hj h0 h1
    rw [show 0 + 1 + k = k + 1 by omega]
    simp only [spec_FarmWant.l1, sm]
    rw [if_neg (by omega), min_is]
    simp only [Option.bind_some, Int.add_zero]
  | succ d ih =>
    intro j acc k hj h0 h1
    have hb := mem_bd h j (by omega)
    rw [show d + 1 + 1 + k = (d + 1 + k) + 1 by omega]
    simp only [spec_FarmWant.l1, sm]
    rw [if_pos (by omega), if_pos (by omega), fw64 (z := (j : Int) + 1) (by omega), show ((j : Int) + 1) = ((j + 1 : Nat) : Int) by omega]
    by_cases hu : (rd_T66 m j).f1 = 0
    · rw [if_pos hu, if_pos hu, fw64 (z := acc + (rd_T66 m j).f2) (by omega), ih (j + 1) _ k (by omega) (by omega) (by omega), Int.add_assoc]
    · rw [if_neg hu, if_neg hu, ih (j + 1) _ k (by omega) (by omega) (by omega), Int.zero_add]
theorem swant_l0 (F : List Int) (hs : small F) (hFl : F.length = l.length) (d : Nat) : ∀ (j : Nat) (acc : Int) (k : Nat), j + d = l.length → 0 ≤ acc → acc + d * 1125899906842624 ≤ 2305843009213693952 →
    spec_FarmWant.l0 (d + 1 + k) F acc (j : Int) c l m = spec_FarmWant.l1 k (acc + sg l F 0 d j) 0 c l m := by
  have hl := h.2.1
  induction d with
  | zero =>
    intro j acc k hj h0 h1
    rw [show 0 + 1 + k = k + 1 by omega]
    simp only [spec_FarmWant.l0, sg]
    rw [if_neg (by omega), Int.add_zero]
  | succ d ih =>
    intro j acc k hj h0 h1
    have hb := hs j
    rw [show d + 1 + 1 + k = (d + 1 + k) + 1 by omega]
    simp only [spec_FarmWant.l0, sg]
    rw [if_pos (by omega), if_pos (by omega), fw64 (z := (j : Int) + 1) (by omega), show ((j : Int) + 1) = ((j + 1 : Nat) : Int) by omega]
    by_cases hu : (rd_T64 l j).f1 = 0
    · rw [if_pos hu, if_pos hu, if_pos (by omega), fw64 (z := acc + rd F j) (by omega), ih (j + 1) _ k (by omega) (by omega) (by omega), Int.add_assoc]
    · rw [if_neg hu, if_neg hu, ih (j + 1) _ k (by omega) (by omega) (by omega), Int.zero_add]
theorem swant_0 (F : List Int) (hs : small F) (hFl : F.length = l.length) (k : Nat) (hk : 200 ≤ k) : spec_FarmWant.l0 k F 0 0 c l m = some (mn (sg l F 0 l.length 0 + sm m 0 m.length 0) c) := by
  have hl := h.2.1
  have hm := h.2.2.1
  obtain ⟨k, rfl⟩ : ∃ n, k = l.length + 1 + (m.length + 1 + n) := ⟨k - (l.length + 1) - (m.length + 1), by omega⟩
  have b1 := sg_bd l F 0 hs l.length 0
  have h1 := swant_l0 h F hs hFl l.length 0 0 (m.length + 1 + k) (by omega) (by omega) (by omega)
  rw [Int.natCast_zero, Int.zero_add] at h1
  rw [h1]
  have h2 := swant_l1 h m.length 0 (sg l F 0 l.length 0) k (by omega) (by omega) (by omega)
  rw [Int.natCast_zero] at h2
  exact h2
end
/-- the wants are the same -/
theorem want_same (c : Int) (l : List S64) (m : List S66) (id : Int) : ∃ v, ∀ k, 4000 ≤ k → spec_FarmWant.f k c l m id = some v ∧ impl_FarmWant.f k c l m id = some v := by
  by_cases h : spec_FarmRight.R c l m
  · have h' := (right_same c l m).1 h
    have hl := h.2.1
    obtain ⟨F, _, f2, f3, f4⟩ := wants_ok h 4000 (by omega)
    have hw : ∀ k, 4000 ≤ k → spec_l05Wants.f k c l m = some F := fun k hk => by
      obtain ⟨F', e1, e2, e3, e4⟩ := wants_ok h k hk
      rw [e1]
      congr 1
      refine List.ext_getElem (by omega) (fun i h1 h2 => ?_)
      have a1 := iwant_at h F f3 f4 (l.length - i) i (by omega) rfl 4000 (by omega)
      have a2 := iwant_at h F' e3 e4 (l.length - i) i (by omega) rfl 4000 (by omega)
      rw [a1] at a2
      have a3 := Option.some.inj a2
      simp only [rd, Int.toNat_natCast, List.getD_eq_getElem?_getD] at a3
      rw [List.getElem?_eq_getElem (by omega), List.getElem?_eq_getElem (by omega)] at a3
      exact a3.symm
    have hS : ∀ k, spec_FarmWant.f k c l m id = (spec_l05Wants.f k c l m).bind fun t121 => (if id = 0 then (spec_FarmWant.l0 k t121 0 0 c l m) else ((spec_l05Group.f k c l m id).bind fun t124 => (if t124 < 0 then (some 0) else (if 0 ≤ t124 then (if t124 < (t121.length : Int) then (some (rd t121 t124)) else (none)) else (none))))) := fun k => by
      unfold spec_FarmWant.f spec_FarmRight.f
      rw [decide_eq_true h]
      rfl
    have hI : ∀ k, impl_FarmWant.f k c l m id = if decide (impl_Farm_hasGroup.H l id) = true then impl_Farm_want.f k c l m id else some 0 := fun k => by
      unfold impl_FarmWant.f impl_FarmRight.f
      rw [decide_eq_true h']
      simp only [Option.bind_some, if_true, impl_Farm_hasGroup.tells]
      split
      · cases impl_Farm_want.f k c l m id <;> rfl
      · rfl
    by_cases h0 : id = 0
    · subst h0
      refine ⟨mn (sg l F 0 l.length 0 + sm m 0 m.length 0) c, fun k hk => ⟨?_, ?_⟩⟩
      · rw [hS, hw k hk]
        simp only [Option.bind_some, if_true]
        exact swant_0 h F f3 f2 k (by omega)
      · rw [hI, if_pos (decide_eq_true (show impl_Farm_hasGroup.H l 0 from Or.inr rfl))]
        exact iwant_0 h F f3 f4 k hk
    · by_cases hp : ∃ p, p < l.length ∧ (rd_T64 l p).f0 = id
      · obtain ⟨p, hp, rfl⟩ := hp
        refine ⟨rd F p, fun k hk => ⟨?_, ?_⟩⟩
        · rw [hS, hw k hk]
          simp only [Option.bind_some]
          rw [if_neg h0, spec_l05Group.tells l c m _ (by omega) k (by omega), place_at l _ (srt h) p hp rfl]
          simp only [Option.bind_some]
          rw [if_neg (by omega), if_pos (by omega), if_pos (by omega)]
        · rw [hI, if_pos (decide_eq_true (show impl_Farm_hasGroup.H l (rd_T64 l p).f0 from Or.inl ((has_iff l _ (srt h)).2 ⟨p, hp, rfl⟩)))]
          exact iwant_at h F f3 f4 (l.length - p) p hp rfl k (by omega)
      · refine ⟨0, fun k hk => ⟨?_, ?_⟩⟩
        · rw [hS, hw k hk]
          simp only [Option.bind_some]
          rw [if_neg h0, spec_l05Group.tells l c m _ (by omega) k (by omega)]
          simp only [Option.bind_some]
          have : ¬ 0 ≤ spec_l05Group.place l id := fun h1 => hp ((place_iff l id).1 h1)
          rw [if_pos (by omega)]
        · rw [hI, if_neg]
          rw [decide_eq_true_iff]
          rintro (h1 | h1)
          · exact hp ((has_iff l id (srt h)).1 h1)
          · exact h0 h1
  · have h' : ¬ impl_FarmRight.R c l m := fun h1 => h ((right_same c l m).2 h1)
    refine ⟨0, fun k hk => ⟨?_, ?_⟩⟩
    · unfold spec_FarmWant.f spec_FarmRight.f
      rw [decide_eq_false h]
      rfl
    · unfold impl_FarmWant.f impl_FarmRight.f
      rw [decide_eq_false h']
      rfl
def toG (x : S86) : S64 := ⟨x.f0, x.f1, x.f2, x.f3⟩
def toM (x : S88) : S66 := ⟨x.f0, x.f1, x.f2, x.f3⟩
theorem toGroupS_l (l : List S86) (hl : l.length ≤ 1048576) (d : Nat) : ∀ (i k : Nat), i ≤ l.length → l.length - i = d → d < k → laws_toGroupS.l0 k l ((l.take i).map toG ++ List.replicate d z64) (i : Int) = some (l.map toG) := by
  induction d with
  | zero =>
    intro i k h1 h2 hk
    obtain ⟨k, rfl⟩ : ∃ n, k = n + 1 := ⟨k - 1, by omega⟩
    simp only [laws_toGroupS.l0]
    rw [if_neg (by omega), List.take_of_length_le (by omega)]
    simp
  | succ d ih =>
    intro i k h1 h2 hk
    obtain ⟨k, rfl⟩ : ∃ n, k = n + 1 := ⟨k - 1, by omega⟩
    have hlt : i < l.length := by omega
    have hx : rd_T86 l (i : Int) = l[i] := by simp [rd_T86, List.getD_eq_getElem?_getD, hlt]
    simp only [laws_toGroupS.l0, laws_toGroup.f, Option.bind_some]
    rw [if_pos (by omega), if_pos (by omega), if_pos (by simp; omega), show wrap64 ((i : Int) + 1) = ((i + 1 : Nat) : Int) by unfold wrap64; omega, Int.toNat_natCast, hx]
    have e : ((l.take i).map toG ++ List.replicate (d + 1) z64).set i (⟨l[i].f0, l[i].f1, l[i].f2, l[i].f3⟩ : S64) = (l.take (i + 1)).map toG ++ List.replicate d z64 := by
      rw [List.take_succ_eq_append_getElem hlt, List.map_append, List.replicate_succ, List.append_assoc]
      rw [List.set_append_right _ _ (by simp; omega)]
      have h0 : i - ((l.take i).map toG).length = 0 := by simp; omega
      rw [h0]
      rfl
    rw [e]
    exact ih (i + 1) k (by omega) (by omega) (by omega)
theorem toGroupS_ok (l : List S86) (hl : l.length ≤ 1048576) (k : Nat) (hk : l.length < k) : laws_toGroupS.f k l = some (l.map toG) := by
  unfold laws_toGroupS.f
  rw [if_pos (by omega), Int.toNat_natCast, if_pos (by omega)]
  have := toGroupS_l l hl l.length 0 k (by omega) (by omega) hk
  simpa using this
theorem toMemberS_l (l : List S88) (hl : l.length ≤ 1048576) (d : Nat) : ∀ (i k : Nat), i ≤ l.length → l.length - i = d → d < k → laws_toMemberS.l0 k l ((l.take i).map toM ++ List.replicate d z66) (i : Int) = some (l.map toM) := by
  induction d with
  | zero =>
    intro i k h1 h2 hk
    obtain ⟨k, rfl⟩ : ∃ n, k = n + 1 := ⟨k - 1, by omega⟩
    simp only [laws_toMemberS.l0]
    rw [if_neg (by omega), List.take_of_length_le (by omega)]
    simp
  | succ d ih =>
    intro i k h1 h2 hk
    obtain ⟨k, rfl⟩ : ∃ n, k = n + 1 := ⟨k - 1, by omega⟩
    have hlt : i < l.length := by omega
    have hx : rd_T88 l (i : Int) = l[i] := by simp [rd_T88, List.getD_eq_getElem?_getD, hlt]
    simp only [laws_toMemberS.l0, laws_toMember.f, Option.bind_some]
    rw [if_pos (by omega), if_pos (by omega), if_pos (by simp; omega), show wrap64 ((i : Int) + 1) = ((i + 1 : Nat) : Int) by unfold wrap64; omega, Int.toNat_natCast, hx]
    have e : ((l.take i).map toM ++ List.replicate (d + 1) z66).set i (⟨l[i].f0, l[i].f1, l[i].f2, l[i].f3⟩ : S66) = (l.take (i + 1)).map toM ++ List.replicate d z66 := by
      rw [List.take_succ_eq_append_getElem hlt, List.map_append, List.replicate_succ, List.append_assoc]
      rw [List.set_append_right _ _ (by simp; omega)]
      have h0 : i - ((l.take i).map toM).length = 0 := by simp; omega
      rw [h0]
      rfl
    rw [e]
    exact ih (i + 1) k (by omega) (by omega) (by omega)
theorem toMemberS_ok (l : List S88) (hl : l.length ≤ 1048576) (k : Nat) (hk : l.length < k) : laws_toMemberS.f k l = some (l.map toM) := by
  unfold laws_toMemberS.f
  rw [if_pos (by omega), Int.toNat_natCast, if_pos (by omega)]
  have := toMemberS_l l hl l.length 0 k (by omega) (by omega) hk
  simpa using this
theorem toFarm_ok (c : Int) (l : List S86) (m : List S88) (hl : l.length ≤ 1048576) (hm : m.length ≤ 1048576) (k : Nat) (hk : l.length + m.length < k) : laws_toFarm.f k c l m = some (c, l.map toG, m.map toM) := by
  unfold laws_toFarm.f
  rw [toGroupS_ok l hl k (by omega)]
  simp only [Option.bind_some]
  rw [toMemberS_ok m hm k (by omega)]
  rfl
theorem eqGroupS_l (l : List S64) (hl : l.length ≤ 1048576) (d : Nat) : ∀ (i k : Nat), i ≤ l.length → l.length - i = d → d < k → laws_eqGroupS.l0 k l l (i : Int) = some true := by
  induction d with
  | zero =>
    intro i k h1 h2 hk
    obtain ⟨k, rfl⟩ : ∃ n, k = n + 1 := ⟨k - 1, by omega⟩
    simp only [laws_eqGroupS.l0]
    rw [if_neg (by omega)]
  | succ d ih =>
    intro i k h1 h2 hk
    obtain ⟨k, rfl⟩ : ∃ n, k = n + 1 := ⟨k - 1, by omega⟩
    simp only [laws_eqGroupS.l0, laws_eqGroup.f, if_true, Option.bind_some]
    rw [if_pos (by omega), if_pos (by omega), show wrap64 ((i : Int) + 1) = ((i + 1 : Nat) : Int) by unfold wrap64; omega]
    try rw [if_pos (by omega)]
    exact ih (i + 1) k (by omega) (by omega) (by omega)
theorem eqMemberS_l (l : List S66) (hl : l.length ≤ 1048576) (d : Nat) : ∀ (i k : Nat), i ≤ l.length → l.length - i = d → d < k → laws_eqMemberS.l0 k l l (i : Int) = some true := by
  induction d with
  | zero =>
    intro i k h1 h2 hk
    obtain ⟨k, rfl⟩ : ∃ n, k = n + 1 := ⟨k - 1, by omega⟩
    simp only [laws_eqMemberS.l0]
    rw [if_neg (by omega)]
  | succ d ih =>
    intro i k h1 h2 hk
    obtain ⟨k, rfl⟩ : ∃ n, k = n + 1 := ⟨k - 1, by omega⟩
    simp only [laws_eqMemberS.l0, laws_eqMember.f, if_true, Option.bind_some]
    rw [if_pos (by omega), if_pos (by omega), show wrap64 ((i : Int) + 1) = ((i + 1 : Nat) : Int) by unfold wrap64; omega]
    try rw [if_pos (by omega)]
    exact ih (i + 1) k (by omega) (by omega) (by omega)
theorem eqFarm_ok (c : Int) (l : List S64) (m : List S66) (hl : l.length ≤ 1048576) (hm : m.length ≤ 1048576) (k : Nat) (hk : l.length + m.length < k) : laws_eqFarm.f k c l m c l m = some true := by
  unfold laws_eqFarm.f laws_eqGroupS.f laws_eqMemberS.f
  have h1 := eqGroupS_l l hl l.length 0 k (by omega) (by omega) (by omega)
  have h2 := eqMemberS_l m hm m.length 0 k (by omega) (by omega) (by omega)
  rw [Int.natCast_zero] at h1 h2
  rw [if_pos rfl, if_pos rfl, h1]
  simp only [Option.bind_some, if_true]
  rw [h2]
  rfl
theorem szFarm_ok (c : Int) (l : List S86) (m : List S88) (hl : l.length ≤ 9223372036854775807) (hm : m.length ≤ 9223372036854775807) (n : Int) (hn : 0 ≤ n ∧ n ≤ 1048576) : ∃ t, laws_szFarm.f c l m n = some t ∧ (t < 0 ∨ (l.length + m.length ≤ n ∧ t = n - l.length - m.length)) := by
  unfold laws_szFarm.f laws_szGroupS.f laws_szMemberS.f
  have w1 : wrap64 (n - (l.length : Int)) = n - l.length := fw64 (by omega)
  rw [w1]
  by_cases h1 : n - (l.length : Int) < 0
  · rw [if_pos h1]
    exact ⟨-1, rfl, Or.inl (by omega)⟩
  · rw [if_neg h1]
    simp only [Option.bind_some]
    have w2 : wrap64 (n - (l.length : Int) - (m.length : Int)) = n - l.length - m.length := fw64 (by omega)
    rw [if_neg h1, w2]
    by_cases h2 : n - (l.length : Int) - (m.length : Int) < 0
    · rw [if_pos h2]
      exact ⟨-1, rfl, Or.inl (by omega)⟩
    · rw [if_neg h2]
      simp only [Option.bind_some]
      rw [if_neg h2]
      exact ⟨_, rfl, Or.inr ⟨by omega, rfl⟩⟩
end FarmW
open FarmW
theorem FnExactFarmWant (c : Int) (l : List S86) (m : List S88) (id : Int) (_ : -9223372036854775808 ≤ c ∧ c ≤ 9223372036854775807) (hl : l.length ≤ 9223372036854775807) (hm : m.length ≤ 9223372036854775807) (_ : -9223372036854775808 ≤ id ∧ id ≤ 9223372036854775807) : ∃ k, laws_FnExactFarmWant.f k c l m id = some true := by
  obtain ⟨t, ht, hs⟩ := szFarm_ok c l m hl hm 1048576 (by omega)
  rcases hs with hs | ⟨hs, _⟩
  · refine ⟨0, ?_⟩
    unfold laws_FnExactFarmWant.f
    rw [ht]
    simp only [Option.bind_some]
    rw [if_pos hs]
  · by_cases hn : t < 0
    · refine ⟨0, ?_⟩
      unfold laws_FnExactFarmWant.f
      rw [ht]
      simp only [Option.bind_some]
      rw [if_pos hn]
    · obtain ⟨v, hv⟩ := want_same c (l.map toG) (m.map toM) id
      refine ⟨3000000, ?_⟩
      obtain ⟨v1, v2⟩ := hv 3000000 (by omega)
      unfold laws_FnExactFarmWant.f
      rw [ht]
      simp only [Option.bind_some]
      rw [if_neg hn, toFarm_ok c l m (by omega) (by omega) 3000000 (by omega)]
      simp only [Option.bind_some]
      rw [v1]
      simp only [Option.bind_some]
      rw [v2]
      simp only [Option.bind_some, if_true]
      rw [eqFarm_ok c _ _ (by rw [List.length_map]; omega) (by rw [List.length_map]; omega) 3000000 (by rw [List.length_map, List.length_map]; omega)]
      rfl
end Go.Proofs.Ytcdmhjnofdoobaa.Pure
