/- Plain facts: words_farm. -/
import Derived.Test.YtnebddbibpbloaaGreatM15
set_option linter.unusedVariables false
set_option linter.unusedSimpArgs false
set_option linter.unusedSectionVars false
namespace Go.Rv
theorem toGroup (x0 : Int) (x1 : Int) (x2 : Int) (x3 : Int)  : F_laws_toGroup (x0, x1, x2, x3, ()) = some (x0, x1, x2, x3, ()) := by
  rfl
theorem toGroupS (l : List (Int × Int × Int × Int × Unit)) (hl : l.length ≤ 1048576) : F_laws_toGroupS (l, ()) = some (l, ()) := by
  show laws_toGroupS.FF (300 + l.length) l = _
  simp only [laws_toGroupS.FF, laws_toGroupS.T]
  rw [if_pos (by omega)]
  refine copies (n := l.length) (fun i => l.getD i (0, 0, 0, 0, ())) (fun k i out => laws_toGroupS.G0 (300 + l.length) (fun out => laws_toGroupS.A0 l out) k l (i : Nat) out) _ (fun k i out hi ho => ?_) (fun k => ?_) (300 + l.length) 0 _ (by omega) (by omega) (by simp) (by intro j h hj; omega)
  · have hw : w64 ((i : Int) + 1) = ((i + 1 : Nat) : Int) := w64_in _ (by omega)
    simp only [laws_toGroupS.G0, laws_toGroupS.R0, rd_cast, toGroup, Option.bind_some, hw]
    rw [decide_eq_true (by omega), cond_true, if_pos (by omega), if_pos (by omega)]
    rfl
  · simp only [laws_toGroupS.G0, laws_toGroupS.R0]
    rw [decide_eq_false (by omega), cond_false]
    exact congrArg (fun x => some (x, ())) (ofFn_getD l (0, 0, 0, 0, ()))
theorem toMember (x0 : Int) (x1 : Int) (x2 : Int) (x3 : Int)  : F_laws_toMember (x0, x1, x2, x3, ()) = some (x0, x1, x2, x3, ()) := by
  rfl
theorem toMemberS (l : List (Int × Int × Int × Int × Unit)) (hl : l.length ≤ 1048576) : F_laws_toMemberS (l, ()) = some (l, ()) := by
  show laws_toMemberS.FF (300 + l.length) l = _
  simp only [laws_toMemberS.FF, laws_toMemberS.T]
  rw [if_pos (by omega)]
  refine copies (n := l.length) (fun i => l.getD i (0, 0, 0, 0, ())) (fun k i out => laws_toMemberS.G0 (300 + l.length) (fun out => laws_toMemberS.A0 l out) k l (i : Nat) out) _ (fun k i out hi ho => ?_) (fun k => ?_) (300 + l.length) 0 _ (by omega) (by omega) (by simp) (by intro j h hj; omega)
  · have hw : w64 ((i : Int) + 1) = ((i + 1 : Nat) : Int) := w64_in _ (by omega)
    simp only [laws_toMemberS.G0, laws_toMemberS.R0, rd_cast, toMember, Option.bind_some, hw]
    rw [decide_eq_true (by omega), cond_true, if_pos (by omega), if_pos (by omega)]
    rfl
  · simp only [laws_toMemberS.G0, laws_toMemberS.R0]
    rw [decide_eq_false (by omega), cond_false]
    exact congrArg (fun x => some (x, ())) (ofFn_getD l (0, 0, 0, 0, ()))
theorem toFarm (x0 : Int) (x1 : List (Int × Int × Int × Int × Unit)) (x2 : List (Int × Int × Int × Int × Unit)) (h_x1 : x1.length ≤ 1048576) (h_x2 : x2.length ≤ 1048576) : F_laws_toFarm (x0, x1, x2, ()) = some (x0, x1, x2, ()) := by
  simp (disch := assumption) only [F_laws_toFarm, laws_toFarm.T, toGroupS, toMemberS, Option.bind_some]
theorem eqGroup (x0 : Int) (x1 : Int) (x2 : Int) (x3 : Int)  : F_laws_eqGroup (x0, x1, x2, x3, x0, x1, x2, x3, ()) = some (true, ()) := by
  simp (disch := assumption) only [F_laws_eqGroup, laws_eqGroup.T, Option.bind_some, bne_self_eq_false, cond_false, Bool.not_true]
theorem eqGroupS (l : List (Int × Int × Int × Int × Unit)) (hl : l.length ≤ 1048576) : F_laws_eqGroupS (l, l, ()) = some (true, ()) := by
  show laws_eqGroupS.FF (300 + l.length + l.length) l l = _
  simp only [laws_eqGroupS.FF, laws_eqGroupS.T, bne_self_eq_false, cond_false]
  rw [← bbAll l.length]
  refine scanB (g := fun k i => laws_eqGroupS.G0 (300 + l.length + l.length) (fun t => laws_eqGroupS.A0 l l t) (fun _ => laws_eqGroupS.A1 l l ()) k l l (i : Nat)) (fun k i hi _ => ?_) (fun _ k => ?_) _ (by omega)
  · have hw : w64 ((i : Int) + 1) = ((i + 1 : Nat) : Int) := w64_in _ (by omega)
    simp only [laws_eqGroupS.G0, laws_eqGroupS.R0, rd_cast, eqGroup, Option.bind_some, hw]
    grind [= bb_iff]
  · simp only [laws_eqGroupS.G0, laws_eqGroupS.R0, laws_eqGroupS.A1]; grind [= bb_iff]
theorem eqMember (x0 : Int) (x1 : Int) (x2 : Int) (x3 : Int)  : F_laws_eqMember (x0, x1, x2, x3, x0, x1, x2, x3, ()) = some (true, ()) := by
  simp (disch := assumption) only [F_laws_eqMember, laws_eqMember.T, Option.bind_some, bne_self_eq_false, cond_false, Bool.not_true]
theorem eqMemberS (l : List (Int × Int × Int × Int × Unit)) (hl : l.length ≤ 1048576) : F_laws_eqMemberS (l, l, ()) = some (true, ()) := by
  show laws_eqMemberS.FF (300 + l.length + l.length) l l = _
  simp only [laws_eqMemberS.FF, laws_eqMemberS.T, bne_self_eq_false, cond_false]
  rw [← bbAll l.length]
  refine scanB (g := fun k i => laws_eqMemberS.G0 (300 + l.length + l.length) (fun t => laws_eqMemberS.A0 l l t) (fun _ => laws_eqMemberS.A1 l l ()) k l l (i : Nat)) (fun k i hi _ => ?_) (fun _ k => ?_) _ (by omega)
  · have hw : w64 ((i : Int) + 1) = ((i + 1 : Nat) : Int) := w64_in _ (by omega)
    simp only [laws_eqMemberS.G0, laws_eqMemberS.R0, rd_cast, eqMember, Option.bind_some, hw]
    grind [= bb_iff]
  · simp only [laws_eqMemberS.G0, laws_eqMemberS.R0, laws_eqMemberS.A1]; grind [= bb_iff]
theorem eqFarm (x0 : Int) (x1 : List (Int × Int × Int × Int × Unit)) (x2 : List (Int × Int × Int × Int × Unit)) (h_x1 : x1.length ≤ 1048576) (h_x2 : x2.length ≤ 1048576) : F_laws_eqFarm (x0, x1, x2, x0, x1, x2, ()) = some (true, ()) := by
  simp (disch := assumption) only [F_laws_eqFarm, laws_eqFarm.T, eqGroupS, eqMemberS, Option.bind_some, bne_self_eq_false, cond_false, Bool.not_true]
theorem szGroupS (l : List (Int × Int × Int × Int × Unit)) (left : Int) (h0 : 0 ≤ left) (h1 : left ≤ 1048576) (hl : l.length ≤ 140737488355328) : ∃ z, F_laws_szGroupS (l, left, ()) = some (z, ()) ∧ lft z left [l.length] := by
  simp only [F_laws_szGroupS, laws_szGroupS.T]
  rw [w64_in (left - l.length) (by omega)]
  by_cases h : left - (l.length : Int) < 0
  · rw [decide_eq_true h]; exact ⟨_, rfl, by omega, by omega⟩
  · rw [decide_eq_false h]; exact ⟨_, rfl, by omega, fun _ n hn => by simp at hn; omega⟩
theorem szMemberS (l : List (Int × Int × Int × Int × Unit)) (left : Int) (h0 : 0 ≤ left) (h1 : left ≤ 1048576) (hl : l.length ≤ 140737488355328) : ∃ z, F_laws_szMemberS (l, left, ()) = some (z, ()) ∧ lft z left [l.length] := by
  simp only [F_laws_szMemberS, laws_szMemberS.T]
  rw [w64_in (left - l.length) (by omega)]
  by_cases h : left - (l.length : Int) < 0
  · rw [decide_eq_true h]; exact ⟨_, rfl, by omega, by omega⟩
  · rw [decide_eq_false h]; exact ⟨_, rfl, by omega, fun _ n hn => by simp at hn; omega⟩
theorem szFarm (x0 : Int) (x1 : List (Int × Int × Int × Int × Unit)) (x2 : List (Int × Int × Int × Int × Unit)) (left : Int) (h0 : 0 ≤ left) (h1 : left ≤ 1048576) (h_x1 : x1.length ≤ 140737488355328) (h_x2 : x2.length ≤ 140737488355328) : ∃ z, F_laws_szFarm (x0, x1, x2, left, ()) = some (z, ()) ∧ lft z left [x1.length, x2.length] := by
  obtain ⟨z0, hz0, ha0, hb0⟩ := szGroupS x1 left (by omega) (by omega) h_x1
  simp only [List.mem_cons, List.not_mem_nil, or_false, forall_eq_or_imp, forall_eq] at hb0
  simp only [F_laws_szFarm, laws_szFarm.T, hz0, Option.bind_some, cond_false]
  by_cases g0 : z0 < 0
  · rw [decide_eq_true g0]; exact ⟨_, rfl, by omega, by omega⟩
  rw [decide_eq_false g0]
  obtain ⟨z1, hz1, ha1, hb1⟩ := szMemberS x2 z0 (by omega) (by omega) h_x2
  simp only [List.mem_cons, List.not_mem_nil, or_false, forall_eq_or_imp, forall_eq] at hb1
  simp only [hz1, Option.bind_some, cond_false]
  by_cases g1 : z1 < 0
  · rw [decide_eq_true g1]; exact ⟨_, rfl, by omega, by omega⟩
  rw [decide_eq_false g1]
  refine ⟨_, rfl, by omega, fun _ n hn => ?_⟩
  simp only [List.mem_cons, List.not_mem_nil, or_false] at hn
  omega
def mo_GroupS (k : Int) (i : Nat) : Int × Int × Int × Int × Unit := ((k + 4 * (i : Int)), (k + 4 * (i : Int) + 1), (k + 4 * (i : Int) + 2), (k + 4 * (i : Int) + 3), ())
theorem moGroupS (l : List (Int × Int × Int × Int × Unit)) (k : Int) (h0 : 0 ≤ k) (h1 : k ≤ 72057594037927936) (hl : l.length ≤ 1048576) : ∃ y : List (Int × Int × Int × Int × Unit), F_laws_markGroupS (l, k, ()) = some (k + 4 * (l.length : Int), y, ()) := by
  refine ⟨List.ofFn fun i : Fin l.length => mo_GroupS k i, ?_⟩
  · show laws_markGroupS.FF (300 + l.length) l k = _
    simp only [laws_markGroupS.FF, laws_markGroupS.T]
    refine Eq.trans (congrArg (fun z => laws_markGroupS.G0 (300 + l.length) (fun kx o => laws_markGroupS.A0 l k kx o) (300 + l.length) z 0 l) (show k = k + 4 * ((0 : Nat) : Int) by omega))
      (copies (n := l.length) (mo_GroupS k) (fun q i out => laws_markGroupS.G0 (300 + l.length) (fun kx o => laws_markGroupS.A0 l k kx o) q (k + 4 * ((i : Nat) : Int)) (i : Nat) out) (some (k + 4 * (l.length : Int), List.ofFn fun i : Fin l.length => mo_GroupS k i, ())) (fun q i out hi ho => ?_) (fun q => ?_) (300 + l.length) 0 l (by omega) (by omega) rfl (by intro j h hj; omega))
    · have hw : w64 ((i : Int) + 1) = ((i + 1 : Nat) : Int) := w64_in _ (by omega)
      have v1 : w64 (k + 4 * (i : Int) + 1) = k + 4 * (i : Int) + 1 := (w64_in _ (by omega)).trans (by omega)
      have v2 : w64 (k + 4 * (i : Int) + 1 + 1) = k + 4 * (i : Int) + 2 := (w64_in _ (by omega)).trans (by omega)
      have v3 : w64 (k + 4 * (i : Int) + 2 + 1) = k + 4 * (i : Int) + 3 := (w64_in _ (by omega)).trans (by omega)
      have v4 : w64 (k + 4 * (i : Int) + 3 + 1) = k + 4 * (i : Int) + 4 := (w64_in _ (by omega)).trans (by omega)
      have hnx : k + 4 * ((i + 1 : Nat) : Int) = k + 4 * (i : Int) + 4 := by omega
      simp only [laws_markGroupS.G0, laws_markGroupS.R0, hw, v1, v2, v3, v4, hnx, List.length_set, Int.toNat_natCast, List.set_set, ho]
      rw [decide_eq_true (by omega), cond_true]
      simp only [if_pos (show 0 ≤ (i : Int) ∧ (i : Int) < (l.length : Int) by omega), getD_set_self _ _ _ _ (show i < out.length by omega)]
      rfl
    · simp only [laws_markGroupS.G0, laws_markGroupS.R0]
      rw [decide_eq_false (by simp), cond_false]
      rfl
def mo_MemberS (k : Int) (i : Nat) : Int × Int × Int × Int × Unit := ((k + 4 * (i : Int)), (k + 4 * (i : Int) + 1), (k + 4 * (i : Int) + 2), (k + 4 * (i : Int) + 3), ())
theorem moMemberS (l : List (Int × Int × Int × Int × Unit)) (k : Int) (h0 : 0 ≤ k) (h1 : k ≤ 72057594037927936) (hl : l.length ≤ 1048576) : ∃ y : List (Int × Int × Int × Int × Unit), F_laws_markMemberS (l, k, ()) = some (k + 4 * (l.length : Int), y, ()) := by
  refine ⟨List.ofFn fun i : Fin l.length => mo_MemberS k i, ?_⟩
  · show laws_markMemberS.FF (300 + l.length) l k = _
    simp only [laws_markMemberS.FF, laws_markMemberS.T]
    refine Eq.trans (congrArg (fun z => laws_markMemberS.G0 (300 + l.length) (fun kx o => laws_markMemberS.A0 l k kx o) (300 + l.length) z 0 l) (show k = k + 4 * ((0 : Nat) : Int) by omega))
      (copies (n := l.length) (mo_MemberS k) (fun q i out => laws_markMemberS.G0 (300 + l.length) (fun kx o => laws_markMemberS.A0 l k kx o) q (k + 4 * ((i : Nat) : Int)) (i : Nat) out) (some (k + 4 * (l.length : Int), List.ofFn fun i : Fin l.length => mo_MemberS k i, ())) (fun q i out hi ho => ?_) (fun q => ?_) (300 + l.length) 0 l (by omega) (by omega) rfl (by intro j h hj; omega))
    · have hw : w64 ((i : Int) + 1) = ((i + 1 : Nat) : Int) := w64_in _ (by omega)
      have v1 : w64 (k + 4 * (i : Int) + 1) = k + 4 * (i : Int) + 1 := (w64_in _ (by omega)).trans (by omega)
      have v2 : w64 (k + 4 * (i : Int) + 1 + 1) = k + 4 * (i : Int) + 2 := (w64_in _ (by omega)).trans (by omega)
      have v3 : w64 (k + 4 * (i : Int) + 2 + 1) = k + 4 * (i : Int) + 3 := (w64_in _ (by omega)).trans (by omega)
      have v4 : w64 (k + 4 * (i : Int) + 3 + 1) = k + 4 * (i : Int) + 4 := (w64_in _ (by omega)).trans (by omega)
      have hnx : k + 4 * ((i + 1 : Nat) : Int) = k + 4 * (i : Int) + 4 := by omega
      simp only [laws_markMemberS.G0, laws_markMemberS.R0, hw, v1, v2, v3, v4, hnx, List.length_set, Int.toNat_natCast, List.set_set, ho]
      rw [decide_eq_true (by omega), cond_true]
      simp only [if_pos (show 0 ≤ (i : Int) ∧ (i : Int) < (l.length : Int) by omega), getD_set_self _ _ _ _ (show i < out.length by omega)]
      rfl
    · simp only [laws_markMemberS.G0, laws_markMemberS.R0]
      rw [decide_eq_false (by simp), cond_false]
      rfl
theorem moFarm (x0 : Int) (x1 : List (Int × Int × Int × Int × Unit)) (x2 : List (Int × Int × Int × Int × Unit)) (k : Int) (h0 : 0 ≤ k) (h1 : k ≤ 9007199254740992) (h_x1 : x1.length ≤ 1048576) (h_x2 : x2.length ≤ 1048576) : ∃ (y_x1 : List (Int × Int × Int × Int × Unit)) (y_x2 : List (Int × Int × Int × Int × Unit)), F_laws_markFarm (x0, x1, x2, k, ()) = some (k + 4 * (x1.length : Int) + 4 * (x2.length : Int), x0, y_x1, y_x2, ()) := by
  obtain ⟨y_x1, a0⟩ := moGroupS x1 (k) (by omega) (by omega) h_x1
  obtain ⟨y_x2, a1⟩ := moMemberS x2 (k + 4 * (x1.length : Int)) (by omega) (by omega) h_x2
  have n0 : decide (k + 4 * (x1.length : Int) < 0) = false := decide_eq_false (by omega)
  have n1 : decide (k + 4 * (x1.length : Int) + 4 * (x2.length : Int) < 0) = false := decide_eq_false (by omega)
  exact ⟨y_x1, y_x2, by simp only [F_laws_markFarm, laws_markFarm.T, a0, a1, Option.bind_some]⟩
theorem toPart (x0 : Int) (x1 : Int)  : F_laws_toPart (x0, x1, ()) = some (x0, x1, ()) := by
  rfl
theorem toPartS (l : List (Int × Int × Unit)) (hl : l.length ≤ 1048576) : F_laws_toPartS (l, ()) = some (l, ()) := by
  show laws_toPartS.FF (300 + l.length) l = _
  simp only [laws_toPartS.FF, laws_toPartS.T]
  rw [if_pos (by omega)]
  refine copies (n := l.length) (fun i => l.getD i (0, 0, ())) (fun k i out => laws_toPartS.G0 (300 + l.length) (fun out => laws_toPartS.A0 l out) k l (i : Nat) out) _ (fun k i out hi ho => ?_) (fun k => ?_) (300 + l.length) 0 _ (by omega) (by omega) (by simp) (by intro j h hj; omega)
  · have hw : w64 ((i : Int) + 1) = ((i + 1 : Nat) : Int) := w64_in _ (by omega)
    simp only [laws_toPartS.G0, laws_toPartS.R0, rd_cast, toPart, Option.bind_some, hw]
    rw [decide_eq_true (by omega), cond_true, if_pos (by omega), if_pos (by omega)]
    rfl
  · simp only [laws_toPartS.G0, laws_toPartS.R0]
    rw [decide_eq_false (by omega), cond_false]
    exact congrArg (fun x => some (x, ())) (ofFn_getD l (0, 0, ()))
theorem eqPart (x0 : Int) (x1 : Int)  : F_laws_eqPart (x0, x1, x0, x1, ()) = some (true, ()) := by
  simp (disch := assumption) only [F_laws_eqPart, laws_eqPart.T, Option.bind_some, bne_self_eq_false, cond_false, Bool.not_true]
theorem eqPartS (l : List (Int × Int × Unit)) (hl : l.length ≤ 1048576) : F_laws_eqPartS (l, l, ()) = some (true, ()) := by
  show laws_eqPartS.FF (300 + l.length + l.length) l l = _
  simp only [laws_eqPartS.FF, laws_eqPartS.T, bne_self_eq_false, cond_false]
  rw [← bbAll l.length]
  refine scanB (g := fun k i => laws_eqPartS.G0 (300 + l.length + l.length) (fun t => laws_eqPartS.A0 l l t) (fun _ => laws_eqPartS.A1 l l ()) k l l (i : Nat)) (fun k i hi _ => ?_) (fun _ k => ?_) _ (by omega)
  · have hw : w64 ((i : Int) + 1) = ((i + 1 : Nat) : Int) := w64_in _ (by omega)
    simp only [laws_eqPartS.G0, laws_eqPartS.R0, rd_cast, eqPart, Option.bind_some, hw]
    grind [= bb_iff]
  · simp only [laws_eqPartS.G0, laws_eqPartS.R0, laws_eqPartS.A1]; grind [= bb_iff]
theorem szPartS (l : List (Int × Int × Unit)) (left : Int) (h0 : 0 ≤ left) (h1 : left ≤ 1048576) (hl : l.length ≤ 140737488355328) : ∃ z, F_laws_szPartS (l, left, ()) = some (z, ()) ∧ lft z left [l.length] := by
  simp only [F_laws_szPartS, laws_szPartS.T]
  rw [w64_in (left - l.length) (by omega)]
  by_cases h : left - (l.length : Int) < 0
  · rw [decide_eq_true h]; exact ⟨_, rfl, by omega, by omega⟩
  · rw [decide_eq_false h]; exact ⟨_, rfl, by omega, fun _ n hn => by simp at hn; omega⟩
def mkPartS (k : Int) (i : Nat) : Int × Int × Unit := ((k + 2 * (i : Int)), (k + 2 * (i : Int) + 1), ())
theorem mhPartS (l : List (Int × Int × Unit)) (k : Int) (h0 : 0 ≤ k) (h1 : k ≤ 72057594037927936) (hl : l.length ≤ 1048576) : ∃ y : List (Int × Int × Unit), F_laws_markPartS (l, k, ()) = some (k + 2 * (l.length : Int), y, ()) ∧ F_laws_heldPartS (y, k, ()) = some (k + 2 * (l.length : Int), ()) := by
  refine ⟨List.ofFn fun i : Fin l.length => mkPartS k i, ?_, ?_⟩
  · show laws_markPartS.FF (300 + l.length) l k = _
    simp only [laws_markPartS.FF, laws_markPartS.T]
    refine Eq.trans (congrArg (fun z => laws_markPartS.G0 (300 + l.length) (fun kx o => laws_markPartS.A0 l k kx o) (300 + l.length) z 0 l) (show k = k + 2 * ((0 : Nat) : Int) by omega))
      (copies (n := l.length) (mkPartS k) (fun q i out => laws_markPartS.G0 (300 + l.length) (fun kx o => laws_markPartS.A0 l k kx o) q (k + 2 * ((i : Nat) : Int)) (i : Nat) out) (some (k + 2 * (l.length : Int), List.ofFn fun i : Fin l.length => mkPartS k i, ())) (fun q i out hi ho => ?_) (fun q => ?_) (300 + l.length) 0 l (by omega) (by omega) rfl (by intro j h hj; omega))
    · have hw : w64 ((i : Int) + 1) = ((i + 1 : Nat) : Int) := w64_in _ (by omega)
      have v1 : w64 (k + 2 * (i : Int) + 1) = k + 2 * (i : Int) + 1 := (w64_in _ (by omega)).trans (by omega)
      have v2 : w64 (k + 2 * (i : Int) + 1 + 1) = k + 2 * (i : Int) + 2 := (w64_in _ (by omega)).trans (by omega)
      have hnx : k + 2 * ((i + 1 : Nat) : Int) = k + 2 * (i : Int) + 2 := by omega
      simp only [laws_markPartS.G0, laws_markPartS.R0, hw, v1, v2, hnx, List.length_set, Int.toNat_natCast, List.set_set, ho]
      rw [decide_eq_true (by omega), cond_true]
      simp only [if_pos (show 0 ≤ (i : Int) ∧ (i : Int) < (l.length : Int) by omega), getD_set_self _ _ _ _ (show i < out.length by omega)]
      rfl
    · simp only [laws_markPartS.G0, laws_markPartS.R0]
      rw [decide_eq_false (by simp), cond_false]
      rfl
  · show laws_heldPartS.FF (300 + (List.ofFn fun i : Fin l.length => mkPartS k i).length) _ k = _
    simp only [laws_heldPartS.FF, laws_heldPartS.T, List.length_ofFn]
    generalize hy : (List.ofFn fun i : Fin l.length => mkPartS k i) = y
    have hyl : y.length = l.length := by rw [← hy, List.length_ofFn]
    have hyg : ∀ i : Nat, i < l.length → y.getD i (0, 0, ()) = ((k + 2 * (i : Int)), (k + 2 * (i : Int) + 1), ()) := fun i hi => by rw [← hy]; exact ofFn_at (mkPartS k) _ _ hi
    refine Eq.trans (congrArg (fun z => laws_heldPartS.G0 (300 + l.length) (fun kx t => laws_heldPartS.A0 y k kx t) (fun kx => laws_heldPartS.A1 y k kx) (300 + l.length) y z 0) (show k = k + 2 * ((0 : Nat) : Int) by omega))
      ((scan (α := Option (Int × Unit)) l.length (fun _ => True) (fun q i => laws_heldPartS.G0 (300 + l.length) (fun kx t => laws_heldPartS.A0 y k kx t) (fun kx => laws_heldPartS.A1 y k kx) q y (k + 2 * ((i : Nat) : Int)) (i : Nat)) (some (k + 2 * (l.length : Int), ())) none (fun q i hi _ => ⟨fun _ => ?_, fun h => absurd trivial h⟩) (fun _ q => ?_) (300 + l.length) 0 (by omega) (by omega) (fun _ _ => trivial)).1 (fun _ _ => trivial))
    · have hw : w64 ((i : Int) + 1) = ((i + 1 : Nat) : Int) := w64_in _ (by omega)
      have v1 : w64 (k + 2 * (i : Int) + 1) = k + 2 * (i : Int) + 1 := (w64_in _ (by omega)).trans (by omega)
      have v2 : w64 (k + 2 * (i : Int) + 1 + 1) = k + 2 * (i : Int) + 2 := (w64_in _ (by omega)).trans (by omega)
      have hnx : k + 2 * ((i + 1 : Nat) : Int) = k + 2 * (i : Int) + 2 := by omega
      simp only [laws_heldPartS.G0, laws_heldPartS.R0, rd_cast, hyg i hi, hw, v1, v2, hnx, hyl, bne_self_eq_false, cond_false]
      rw [decide_eq_true (by omega), cond_true]
      simp only [if_pos (show 0 ≤ (i : Int) ∧ (i : Int) < (l.length : Int) by omega)]
    · simp only [laws_heldPartS.G0, laws_heldPartS.R0, hyl]
      rw [decide_eq_false (by omega), cond_false]
      rfl
def mo_PartS (k : Int) (i : Nat) : Int × Int × Unit := ((k + 2 * (i : Int)), (k + 2 * (i : Int) + 1), ())
theorem moPartS (l : List (Int × Int × Unit)) (k : Int) (h0 : 0 ≤ k) (h1 : k ≤ 72057594037927936) (hl : l.length ≤ 1048576) : ∃ y : List (Int × Int × Unit), F_laws_markPartS (l, k, ()) = some (k + 2 * (l.length : Int), y, ()) := by
  refine ⟨List.ofFn fun i : Fin l.length => mo_PartS k i, ?_⟩
  · show laws_markPartS.FF (300 + l.length) l k = _
    simp only [laws_markPartS.FF, laws_markPartS.T]
    refine Eq.trans (congrArg (fun z => laws_markPartS.G0 (300 + l.length) (fun kx o => laws_markPartS.A0 l k kx o) (300 + l.length) z 0 l) (show k = k + 2 * ((0 : Nat) : Int) by omega))
      (copies (n := l.length) (mo_PartS k) (fun q i out => laws_markPartS.G0 (300 + l.length) (fun kx o => laws_markPartS.A0 l k kx o) q (k + 2 * ((i : Nat) : Int)) (i : Nat) out) (some (k + 2 * (l.length : Int), List.ofFn fun i : Fin l.length => mo_PartS k i, ())) (fun q i out hi ho => ?_) (fun q => ?_) (300 + l.length) 0 l (by omega) (by omega) rfl (by intro j h hj; omega))
    · have hw : w64 ((i : Int) + 1) = ((i + 1 : Nat) : Int) := w64_in _ (by omega)
      have v1 : w64 (k + 2 * (i : Int) + 1) = k + 2 * (i : Int) + 1 := (w64_in _ (by omega)).trans (by omega)
      have v2 : w64 (k + 2 * (i : Int) + 1 + 1) = k + 2 * (i : Int) + 2 := (w64_in _ (by omega)).trans (by omega)
      have hnx : k + 2 * ((i + 1 : Nat) : Int) = k + 2 * (i : Int) + 2 := by omega
      simp only [laws_markPartS.G0, laws_markPartS.R0, hw, v1, v2, hnx, List.length_set, Int.toNat_natCast, List.set_set, ho]
      rw [decide_eq_true (by omega), cond_true]
      simp only [if_pos (show 0 ≤ (i : Int) ∧ (i : Int) < (l.length : Int) by omega), getD_set_self _ _ _ _ (show i < out.length by omega)]
      rfl
    · simp only [laws_markPartS.G0, laws_markPartS.R0]
      rw [decide_eq_false (by simp), cond_false]
      rfl
end Go.Rv
